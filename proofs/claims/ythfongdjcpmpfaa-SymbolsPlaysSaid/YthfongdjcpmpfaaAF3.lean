/- Parts: T4f6. -/
import Derived.Test.YthfongdjcpmpfaaAF1
import Derived.Test.YthfongdjcpmpfaaAF2
/- bosket/bosketlaw16.SymbolsPlays; printed by avmain.py. -/
namespace Go.Avl.T4
open Go Go.RowKit Go.Proofs Go.Avl
set_option linter.unusedVariables false
set_option maxRecDepth 100000
set_option maxHeartbeats 4000000
set_option linter.unusedSimpArgs false
attribute [local irreducible] AW AO AQ Spec SpecH Calm

def bosketlaw16_SymbolsPlays_c0 (k : Nat) (p1 : ByteArray) (p2 : Int) (x17 : (List ByteArray)) (x19 : (List (ByteArray × Int))) (x20 : (List ByteArray)) (x21 : ByteArray) : Option Bool :=
  Option.bind (α := Bool) ((symbols_Table_Names k (S85.mk x17 x19)).bind fun t24 =>
  (bosketref16_Same k t24 x20).bind fun t27 =>
  if t27 = true then (symbols_Table_Find k (S85.mk x17 x19) p1).bind fun t29 =>
  (bosketref16_Find k x20 p1).bind fun t31 =>
  if t29 = t31 then (symbols_Table_Name k (S85.mk x17 x19) p2).bind fun t33 =>
  some (decide (t33 = x21))
  else some (false)
  else some (false)) fun b22 =>
  some (b22)
def bosketlaw16_SymbolsPlays_c1 (k : Nat) (p1 : ByteArray) (p2 : Int) (x17 : (List ByteArray)) (x19 : (List (ByteArray × Int))) (x20 : (List ByteArray)) : Option Bool :=
  Option.bind (α := Bool) (if (0 : Int) ≤ p2 then some (decide (p2 < (x20.length : Int)))
  else some (false)) fun b35 =>
  if b35 = true then if 0 ≤ p2 ∧ p2 < (x20.length : Int) then bosketlaw16_SymbolsPlays_c0 k p1 p2 x17 x19 x20 (lget x20 p2)
  else none
  else bosketlaw16_SymbolsPlays_c0 k p1 p2 x17 x19 x20 (ByteArray.mk #[])
def bosketlaw16_SymbolsPlays_l2 (k : Nat) (p0 : (List ByteArray)) (p1 : ByteArray) (p2 : Int) : Nat → (List ByteArray) → (List (ByteArray × Int)) → (List ByteArray) → Int → Option Bool
  | 0, _, _, _, _ => none
  | j + 1, x41, x43, x44, x45 =>
    if x45 < (p0.length : Int) then if 0 ≤ x45 ∧ x45 < (p0.length : Int) then (symbols_Table_Add k (S85.mk x41 x43) (lget p0 x45)).bind fun t50 =>
    if 0 ≤ x45 ∧ x45 < (p0.length : Int) then (bosketref16_Add k x44 (lget p0 x45)).bind fun t55 =>
    if t50.1 ≠ t55.2.1 then some (false)
    else if t50.2.1 ≠ t55.2.2 then some (false)
    else (symbols_Table_Len k (S85.mk t50.2.2.f0 t50.2.2.f1)).bind fun t58 =>
    if t58 ≠ (t55.1.length : Int) then some (false)
    else if 0 ≤ x45 ∧ x45 < (p0.length : Int) then (symbols_Table_Find k (S85.mk t50.2.2.f0 t50.2.2.f1) (lget p0 x45)).bind fun t62 =>
    if 0 ≤ x45 ∧ x45 < (p0.length : Int) then (bosketref16_Find k t55.1 (lget p0 x45)).bind fun t65 =>
    if t62 ≠ t65 then some (false)
    else (bosketlaw16_SymbolsPlays_l2 k p0 p1 p2 j) t50.2.2.f0 t50.2.2.f1 t55.1 (w64 (x45 + (1 : Int)))
    else none
    else none
    else none
    else none
    else bosketlaw16_SymbolsPlays_c1 k p1 p2 x41 x43 x44
def bosketlaw16_SymbolsPlays (k : Nat) (p0 : (List ByteArray)) (p1 : ByteArray) (p2 : Int) : Option Bool :=
  (bosketlaw16_awake k).bind fun t4 =>
  if (!t4) = true then some (false)
  else Option.bind (α := Bool) ((bosketlaw16_few k p0).bind fun t8 =>
  if (!t8) = true then some (true)
  else some (decide ((100 : Int) < (p1.size : Int)))) fun b6 =>
  if b6 = true then some (true)
  else (symbols_New k).bind fun t11 =>
  bosketlaw16_SymbolsPlays_l2 k p0 p1 p2 k t11.f0 t11.f1 [] (0 : Int)
theorem bosketlaw16_SymbolsPlays_spec {k : Nat} {p0 : (List ByteArray)} {p1 : ByteArray} {p2 : Int} {r : Bool} (h : bosketlaw16_SymbolsPlays k p0 p1 p2 = some r) : Spec Try.prog 6 [(.fz 1 (p0.map eStr)), (eStr p1), (eI64 p2)] (eBool r) := by
  rw [bosketlaw16_SymbolsPlays.eq_1] at h
  refine Spec.intro (res := [.tmp 6]) Try.func6 rfl rfl rfl (Nat.le_of_ble_eq_true rfl) ?_
  refine AW.seq ?_
  refine AW.reg ?_
  refine AO.calm rfl 6 rfl (by decide) (eBool false) (Calm.assign rfl rfl) ?_
  refine AO.nil (ρ' := [(0, (.fz 1 (p0.map eStr))), (1, (eStr p1)), (2, (eI64 p2))]) (H' := []) ⟨rfl, rfl, rfl, trivial⟩ (Sub.refl _) ?_
  refine AW.seq ?_
  refine AW.seq ?_
  refine AW.reg ?_
  obtain ⟨t4, et4, h⟩ := of_bind h
  refine AO.callS [] (eBool t4) 16 rfl (by decide) ok20 rfl rfl rfl trivial (bosketlaw16_awake_spec et4) ?_
  refine AO.calm rfl 17 rfl (by decide) (eBool (!t4)) (Calm.not rfl rfl) ?_
  refine AO.nil (ρ' := [(0, (.fz 1 (p0.map eStr))), (1, (eStr p1)), (2, (eI64 p2)), (17, (eBool (!t4)))]) (H' := []) ⟨rfl, rfl, rfl, rfl, trivial⟩ (Sub.refl _) ?_
  by_cases hc5 : (!t4) = true
  · have h := (if_pos hc5).symm.trans h
    refine AW.condT' (!t4) rfl hc5 ?_
    refine AW.seq ?_
    refine AW.reg ?_
    refine AO.calm rfl 6 rfl (by decide) (eBool false) (Calm.assign rfl rfl) ?_
    refine AO.nil (ρ' := [(6, (eBool false))]) (H' := []) ⟨rfl, trivial⟩ (Sub.refl _) ?_
    refine AW.ret (ρ' := [(6, (eBool false))]) (H' := []) ⟨rfl, trivial⟩ (Sub.refl _) ?_
    have hr := Option.some.inj h
    subst hr
    exact ⟨[(eBool false)], ⟨rfl, rfl, trivial⟩, rfl⟩
  · have h := (if_neg hc5).symm.trans h
    refine AW.condF' (!t4) rfl hc5 ?_
    refine AW.skip (ρ' := [(0, (.fz 1 (p0.map eStr))), (1, (eStr p1)), (2, (eI64 p2))]) (H' := []) ⟨rfl, rfl, rfl, trivial⟩ (Sub.refl _) ?_
    refine AW.seq ?_
    refine AW.seq ?_
    obtain ⟨b6, hq7, h⟩ := of_bind h
    refine AW.regM [(0, (.fz 1 (p0.map eStr))), (1, (eStr p1)), (2, (eI64 p2)), (25, (eBool b6))] [] ?_ ?_
    · refine AO.calm rfl 18 rfl (by decide) (.fz 1 (p0.map eStr)) (Calm.move rfl rfl) ?_
      obtain ⟨t8, et8, hq7⟩ := of_bind hq7
      refine AO.callS [(.fz 1 (p0.map eStr))] (eBool t8) 19 rfl (by decide) ok21 rfl rfl rfl ⟨rfl, rfl, trivial⟩ (bosketlaw16_few_spec et8) ?_
      refine AO.calm rfl 20 rfl (by decide) (eBool (!t8)) (Calm.not rfl rfl) ?_
      refine AO.calm rfl 21 rfl (by decide) (eBool (!t8)) (Calm.move rfl rfl) ?_
      by_cases hc9 : (!t8) = true
      · have hq7 := (if_pos hc9).symm.trans hq7
        refine AO.skipG 3 true 21 rfl rfl (congrArg (fun b => some (AV.fl (Value.bool b))) hc9) 22 rfl (by decide) ?_
        refine AO.skipG 3 true 21 rfl rfl (congrArg (fun b => some (AV.fl (Value.bool b))) hc9) 23 rfl (by decide) ?_
        refine AO.skipG 3 true 21 rfl rfl (congrArg (fun b => some (AV.fl (Value.bool b))) hc9) 24 rfl (by decide) ?_
        refine AO.calm rfl 25 rfl (by decide) (eBool true) (Calm.pickT rfl (congrArg (fun b => some (AV.fl (Value.bool b))) hc9) rfl) ?_
        cases hq7
        refine AO.nilE ⟨rfl, rfl⟩ ?_ ?_
        · exact ⟨rfl, rfl, rfl, rfl, trivial⟩
        · exact (Sub.refl _)
      · have hq7 := (if_neg hc9).symm.trans hq7
        refine AO.calmG 3 false 21 rfl rfl (congrArg (fun b => some (AV.fl (Value.bool b))) (eq_false_of_ne_true hc9)) 22 rfl (by decide) (eStr p1) (Calm.move rfl rfl) ?_
        refine AO.calmG 3 false 21 rfl rfl (congrArg (fun b => some (AV.fl (Value.bool b))) (eq_false_of_ne_true hc9)) 23 rfl (by decide) (eI64 (p1.size : Int)) (Calm.lenStr rfl rfl Try.underlying9) ?_
        refine AO.calmG 3 false 21 rfl rfl (congrArg (fun b => some (AV.fl (Value.bool b))) (eq_false_of_ne_true hc9)) 24 rfl (by decide) (eBool (decide ((100 : Int) < (p1.size : Int)))) (Calm.int rfl rfl rfl rfl) ?_
        refine AO.calm rfl 25 rfl (by decide) (eBool (decide ((100 : Int) < (p1.size : Int)))) (Calm.pickF rfl (congrArg (fun b => some (AV.fl (Value.bool b))) (eq_false_of_ne_true hc9)) rfl) ?_
        cases hq7
        refine AO.nilE ⟨rfl, rfl⟩ ?_ ?_
        · exact ⟨rfl, rfl, rfl, rfl, trivial⟩
        · exact (Sub.refl _)
    · by_cases hc10 : b6 = true
      · have h := (if_pos hc10).symm.trans h
        refine AW.condT' b6 rfl hc10 ?_
        refine AW.seq ?_
        refine AW.reg ?_
        refine AO.calm rfl 6 rfl (by decide) (eBool true) (Calm.assign rfl rfl) ?_
        refine AO.nil (ρ' := [(6, (eBool true))]) (H' := []) ⟨rfl, trivial⟩ (Sub.refl _) ?_
        refine AW.ret (ρ' := [(6, (eBool true))]) (H' := []) ⟨rfl, trivial⟩ (Sub.refl _) ?_
        have hr := Option.some.inj h
        subst hr
        exact ⟨[(eBool true)], ⟨rfl, rfl, trivial⟩, rfl⟩
      · have h := (if_neg hc10).symm.trans h
        refine AW.condF' b6 rfl hc10 ?_
        refine AW.skip (ρ' := [(0, (.fz 1 (p0.map eStr))), (1, (eStr p1)), (2, (eI64 p2))]) (H' := []) ⟨rfl, rfl, rfl, trivial⟩ (Sub.refl _) ?_
        refine AW.seq ?_
        refine AW.reg ?_
        obtain ⟨t11, et11, h⟩ := of_bind h
        refine AO.callH [] [] _ rfl rfl rfl 26 rfl (by decide) ok26 trivial (Sub.refl _) (symbols_New_spec et11) ?_
        rintro _ _ ⟨n13, n14, n15, rfl, hs12⟩
        refine AO.weak (ρ' := [(0, (.fz 1 (p0.map eStr))), (1, (eStr p1)), (2, (eI64 p2)), (26, (.ptr n13 0))]) (H' := [(n13, (.mem (.st [(1, (.own n14 0 t11.f0.length)), (1, (.mp n15))]))), (n14, (.mem (.ar 1 (t11.f0.map eStr)))), (n15, (.map (encM Value.string eI64 t11.f1)))]) ⟨rfl, rfl, rfl, rfl, trivial⟩ hs12 ?_
        refine AO.calm rfl 7 rfl (by decide) (.ptr n13 0) (Calm.assign rfl rfl) ?_
        refine AO.nil (ρ' := [(0, (.fz 1 (p0.map eStr))), (1, (eStr p1)), (2, (eI64 p2)), (7, (.ptr n13 0))]) (H' := [(n13, (.mem (.st [(1, (.own n14 0 t11.f0.length)), (1, (.mp n15))]))), (n14, (.mem (.ar 1 (t11.f0.map eStr)))), (n15, (.map (encM Value.string eI64 t11.f1)))]) ⟨rfl, rfl, rfl, rfl, trivial⟩ (Sub.refl _) ?_
        refine AW.seq ?_
        refine AW.reg ?_
        refine AO.calm rfl 8 rfl (by decide) (.fl (.slice none 0 0)) (Calm.assign rfl rfl) ?_
        refine AO.nil (ρ' := [(0, (.fz 1 (p0.map eStr))), (1, (eStr p1)), (2, (eI64 p2)), (7, (.ptr n13 0)), (8, (.fl (.slice none 0 0)))]) (H' := [(n13, (.mem (.st [(1, (.own n14 0 t11.f0.length)), (1, (.mp n15))]))), (n14, (.mem (.ar 1 (t11.f0.map eStr)))), (n15, (.map (encM Value.string eI64 t11.f1)))]) ⟨rfl, rfl, rfl, rfl, rfl, trivial⟩ (Sub.refl _) ?_
        refine AW.seq_mid (fun ρ H => ∃ (n16 : Nat) (n18 : Nat) (x17 : (List ByteArray)) (x19 : (List (ByteArray × Int))) (x20 : (List ByteArray)), ρ = [(1, (eStr p1)), (2, (eI64 p2)), (7, (.ptr n13 0)), (8, (.fz 1 (x20.map eStr)))] ∧ H = [(n13, (.mem (.st [(1, (.own n16 0 x17.length)), (1, (.mp n18))]))), (n16, (.mem (.ar 1 (x17.map eStr)))), (n18, (.map (encM Value.string eI64 x19)))] ∧ bosketlaw16_SymbolsPlays_c1 k p1 p2 x17 x19 x20 = some r) ?_ ?_
        · refine AW.seq ?_
          refine AW.reg ?_
          refine AO.calm rfl 9 rfl (by decide) (eI64 (0 : Int)) (Calm.assign rfl rfl) ?_
          refine AO.nil (ρ' := [(0, (.fz 1 (p0.map eStr))), (1, (eStr p1)), (2, (eI64 p2)), (7, (.ptr n13 0)), (8, (.fl (.slice none 0 0))), (9, (eI64 (0 : Int)))]) (H' := [(n13, (.mem (.st [(1, (.own n14 0 t11.f0.length)), (1, (.mp n15))]))), (n14, (.mem (.ar 1 (t11.f0.map eStr)))), (n15, (.map (encM Value.string eI64 t11.f1)))]) ⟨rfl, rfl, rfl, rfl, rfl, rfl, trivial⟩ (Sub.refl _) ?_
          refine AW.block ?_
          refine AW.coeC 8 (y' := (.fz 1 (([] : List ByteArray).map eStr))) rfl Coe.nil ?_
          refine AW.weak (ρ' := [(0, (.fz 1 (p0.map eStr))), (1, (eStr p1)), (2, (eI64 p2)), (7, (.ptr n13 0)), (8, (.fz 1 (([] : List ByteArray).map eStr))), (9, (eI64 (0 : Int)))]) (H' := [(n13, (.mem (.st [(1, (.own n14 0 t11.f0.length)), (1, (.mp n15))]))), (n14, (.mem (.ar 1 (t11.f0.map eStr)))), (n15, (.map (encM Value.string eI64 t11.f1)))]) ⟨rfl, rfl, rfl, rfl, rfl, rfl, trivial⟩ (Sub.refl _) ?_
          refine AW.loop (fun kq ρ H => ∃ (n40 : Nat) (n42 : Nat) (x41 : (List ByteArray)) (x43 : (List (ByteArray × Int))) (x44 : (List ByteArray)) (x45 : Int), ρ = [(0, (.fz 1 (p0.map eStr))), (1, (eStr p1)), (2, (eI64 p2)), (7, (.ptr n13 0)), (8, (.fz 1 (x44.map eStr))), (9, (eI64 x45))] ∧ H = [(n13, (.mem (.st [(1, (.own n40 0 x41.length)), (1, (.mp n42))]))), (n40, (.mem (.ar 1 (x41.map eStr)))), (n42, (.map (encM Value.string eI64 x43)))] ∧ bosketlaw16_SymbolsPlays_l2 k p0 p1 p2 kq x41 x43 x44 x45 = some r) k ⟨n14, n15, t11.f0, t11.f1, [], (0 : Int), rfl, rfl, h⟩ ?_
          rintro kq47 _ _ ⟨n40, n42, x41, x43, x44, x45, rfl, rfl, h⟩
          cases kq47 with
          | zero => rw [bosketlaw16_SymbolsPlays_l2.eq_1] at h; cases h
          | succ kq47 =>
          rw [bosketlaw16_SymbolsPlays_l2.eq_2] at h
          generalize hrec46 : bosketlaw16_SymbolsPlays_l2 k p0 p1 p2 kq47 = rec46 at h
          refine AW.seq ?_
          refine AW.seq ?_
          refine AW.reg ?_
          refine AO.calm rfl 27 rfl (by decide) (eI64 x45) (Calm.move rfl rfl) ?_
          refine AO.calm rfl 28 rfl (by decide) (.fz 1 (p0.map eStr)) (Calm.move rfl rfl) ?_
          refine AO.calm rfl 29 rfl (by decide) (eI64 (p0.length : Int)) (Calm.lenL rfl rfl Try.underlying37) ?_
          refine AO.calm rfl 30 rfl (by decide) (eBool (decide (x45 < (p0.length : Int)))) (Calm.int rfl rfl rfl rfl) ?_
          refine AO.nil (ρ' := [(0, (.fz 1 (p0.map eStr))), (1, (eStr p1)), (2, (eI64 p2)), (7, (.ptr n13 0)), (8, (.fz 1 (x44.map eStr))), (9, (eI64 x45)), (30, (eBool (decide (x45 < (p0.length : Int)))))]) (H' := [(n13, (.mem (.st [(1, (.own n40 0 x41.length)), (1, (.mp n42))]))), (n40, (.mem (.ar 1 (x41.map eStr)))), (n42, (.map (encM Value.string eI64 x43)))]) ⟨rfl, rfl, rfl, rfl, rfl, rfl, rfl, trivial⟩ (Sub.refl _) ?_
          by_cases hc48 : x45 < (p0.length : Int)
          · have h := (if_pos hc48).symm.trans h
            refine AW.condP (x45 < (p0.length : Int)) rfl hc48 ?_
            refine AW.skip (ρ' := [(0, (.fz 1 (p0.map eStr))), (1, (eStr p1)), (2, (eI64 p2)), (7, (.ptr n13 0)), (8, (.fz 1 (x44.map eStr))), (9, (eI64 x45))]) (H' := [(n13, (.mem (.st [(1, (.own n40 0 x41.length)), (1, (.mp n42))]))), (n40, (.mem (.ar 1 (x41.map eStr)))), (n42, (.map (encM Value.string eI64 x43)))]) ⟨rfl, rfl, rfl, rfl, rfl, rfl, trivial⟩ (Sub.refl _) ?_
            refine AW.seq ?_
            refine AW.block ?_
            refine AW.seq ?_
            refine AW.reg ?_
            refine AO.calm rfl 34 rfl (by decide) (.ptr n13 0) (Calm.move rfl rfl) ?_
            refine AO.calm rfl 35 rfl (by decide) (.fz 1 (p0.map eStr)) (Calm.move rfl rfl) ?_
            refine AO.calm rfl 36 rfl (by decide) (eI64 x45) (Calm.move rfl rfl) ?_
            obtain ⟨hg49, h⟩ := of_guard h
            refine AO.calm rfl 37 rfl (by decide) (.rp (eStr (lget p0 x45))) (Calm.idxL (f := eStr) rfl rfl rfl hg49 Try.underlying37 sz9) ?_
            refine AO.calm rfl 38 rfl (by decide) (eStr (lget p0 x45)) (Calm.loadRp rfl rfl ag9 sz9) ?_
            obtain ⟨t50, et50, h⟩ := of_bind h
            refine AO.callH [(.ptr n13 0), (eStr (lget p0 x45))] [(n13, (.mem (.st [(1, (.own n40 0 x41.length)), (1, (.mp n42))]))), (n40, (.mem (.ar 1 (x41.map eStr)))), (n42, (.map (encM Value.string eI64 x43)))] _ rfl rfl rfl 39 rfl (by decide) ok27 ⟨rfl, rfl, rfl, rfl, trivial⟩ (Sub.cons 0 rfl (Sub.cons 0 rfl (Sub.cons 0 rfl (Sub.refl _)))) (symbols_Table_Add_spec et50) ?_
            rintro _ _ ⟨n52, n53, rfl, hs51⟩
            refine AO.weak (ρ' := [(0, (.fz 1 (p0.map eStr))), (1, (eStr p1)), (2, (eI64 p2)), (7, (.ptr n13 0)), (8, (.fz 1 (x44.map eStr))), (9, (eI64 x45)), (34, (.ptr n13 0)), (35, (.fz 1 (p0.map eStr))), (36, (eI64 x45)), (37, (.rp (eStr (lget p0 x45)))), (38, (eStr (lget p0 x45))), (39, (.tup [(eI64 t50.1), (eI64 t50.2.1)]))]) (H' := [(n13, (.mem (.st [(1, (.own n52 0 t50.2.2.f0.length)), (1, (.mp n53))]))), (n52, (.mem (.ar 1 (t50.2.2.f0.map eStr)))), (n53, (.map (encM Value.string eI64 t50.2.2.f1)))]) ⟨rfl, rfl, rfl, rfl, rfl, rfl, rfl, rfl, rfl, rfl, rfl, rfl, trivial⟩ hs51 ?_
            refine AO.calm rfl 33 rfl (by decide) (.tup [(eI64 t50.1), (eI64 t50.2.1)]) (Calm.move rfl rfl) ?_
            refine AO.calm rfl 40 rfl (by decide) (eI64 t50.1) (Calm.extract rfl rfl rfl) ?_
            refine AO.calm rfl 41 rfl (by decide) (eI64 t50.2.1) (Calm.extract rfl rfl rfl) ?_
            refine AO.calm rfl 10 rfl (by decide) (eI64 t50.1) (Calm.assign rfl rfl) ?_
            refine AO.calm rfl 11 rfl (by decide) (eI64 t50.2.1) (Calm.assign rfl rfl) ?_
            refine AO.nil (ρ' := [(0, (.fz 1 (p0.map eStr))), (1, (eStr p1)), (2, (eI64 p2)), (7, (.ptr n13 0)), (8, (.fz 1 (x44.map eStr))), (9, (eI64 x45)), (10, (eI64 t50.1)), (11, (eI64 t50.2.1))]) (H' := [(n13, (.mem (.st [(1, (.own n52 0 t50.2.2.f0.length)), (1, (.mp n53))]))), (n52, (.mem (.ar 1 (t50.2.2.f0.map eStr)))), (n53, (.map (encM Value.string eI64 t50.2.2.f1)))]) ⟨rfl, rfl, rfl, rfl, rfl, rfl, rfl, rfl, trivial⟩ (Sub.refl _) ?_
            refine AW.seq ?_
            refine AW.reg ?_
            refine AO.calm rfl 43 rfl (by decide) (.fz 1 (x44.map eStr)) (Calm.move rfl rfl) ?_
            refine AO.calm rfl 44 rfl (by decide) (.fz 1 (p0.map eStr)) (Calm.move rfl rfl) ?_
            refine AO.calm rfl 45 rfl (by decide) (eI64 x45) (Calm.move rfl rfl) ?_
            obtain ⟨hg54, h⟩ := of_guard h
            refine AO.calm rfl 46 rfl (by decide) (.rp (eStr (lget p0 x45))) (Calm.idxL (f := eStr) rfl rfl rfl hg54 Try.underlying37 sz9) ?_
            refine AO.calm rfl 47 rfl (by decide) (eStr (lget p0 x45)) (Calm.loadRp rfl rfl ag9 sz9) ?_
            obtain ⟨t55, et55, h⟩ := of_bind h
            refine AO.callS [(.fz 1 (x44.map eStr)), (eStr (lget p0 x45))] (.tup [(.fz 1 (t55.1.map eStr)), (eI64 t55.2.1), (eI64 t55.2.2)]) 48 rfl (by decide) ok23 rfl rfl rfl ⟨rfl, rfl, rfl, rfl, trivial⟩ (bosketref16_Add_spec et55) ?_
            refine AO.calm rfl 42 rfl (by decide) (.tup [(.fz 1 (t55.1.map eStr)), (eI64 t55.2.1), (eI64 t55.2.2)]) (Calm.move rfl rfl) ?_
            refine AO.calm rfl 49 rfl (by decide) (.fz 1 (t55.1.map eStr)) (Calm.extract rfl rfl rfl) ?_
            refine AO.calm rfl 50 rfl (by decide) (eI64 t55.2.1) (Calm.extract rfl rfl rfl) ?_
            refine AO.calm rfl 51 rfl (by decide) (eI64 t55.2.2) (Calm.extract rfl rfl rfl) ?_
            refine AO.calm rfl 12 rfl (by decide) (.fz 1 (t55.1.map eStr)) (Calm.assign rfl rfl) ?_
            refine AO.calm rfl 13 rfl (by decide) (eI64 t55.2.1) (Calm.assign rfl rfl) ?_
            refine AO.calm rfl 14 rfl (by decide) (eI64 t55.2.2) (Calm.assign rfl rfl) ?_
            refine AO.nil (ρ' := [(0, (.fz 1 (p0.map eStr))), (1, (eStr p1)), (2, (eI64 p2)), (7, (.ptr n13 0)), (9, (eI64 x45)), (10, (eI64 t50.1)), (11, (eI64 t50.2.1)), (12, (.fz 1 (t55.1.map eStr))), (13, (eI64 t55.2.1)), (14, (eI64 t55.2.2))]) (H' := [(n13, (.mem (.st [(1, (.own n52 0 t50.2.2.f0.length)), (1, (.mp n53))]))), (n52, (.mem (.ar 1 (t50.2.2.f0.map eStr)))), (n53, (.map (encM Value.string eI64 t50.2.2.f1)))]) ⟨rfl, rfl, rfl, rfl, rfl, rfl, rfl, rfl, rfl, rfl, trivial⟩ (Sub.refl _) ?_
            refine AW.seq ?_
            refine AW.reg ?_
            refine AO.calm rfl 52 rfl (by decide) (.fz 1 (t55.1.map eStr)) (Calm.move rfl rfl) ?_
            refine AO.calm rfl 8 rfl (by decide) (.fz 1 (t55.1.map eStr)) (Calm.assign rfl rfl) ?_
            refine AO.nil (ρ' := [(0, (.fz 1 (p0.map eStr))), (1, (eStr p1)), (2, (eI64 p2)), (7, (.ptr n13 0)), (8, (.fz 1 (t55.1.map eStr))), (9, (eI64 x45)), (10, (eI64 t50.1)), (11, (eI64 t50.2.1)), (13, (eI64 t55.2.1)), (14, (eI64 t55.2.2))]) (H' := [(n13, (.mem (.st [(1, (.own n52 0 t50.2.2.f0.length)), (1, (.mp n53))]))), (n52, (.mem (.ar 1 (t50.2.2.f0.map eStr)))), (n53, (.map (encM Value.string eI64 t50.2.2.f1)))]) ⟨rfl, rfl, rfl, rfl, rfl, rfl, rfl, rfl, rfl, rfl, trivial⟩ (Sub.refl _) ?_
            refine AW.seq ?_
            by_cases hc56 : t50.1 ≠ t55.2.1
            · have h := (if_pos hc56).symm.trans h
              refine AW.regEff (by rfl) (by decide +kernel) (fun (σ : Nat → Nat) => ([(eI64 t50.1), (eI64 t55.2.1), (eBool (decide (t50.1 ≠ t55.2.1))), (eBool (decide (t50.1 ≠ t55.2.1))), (.fl undef), (.fl undef), (.fl undef), (eBool true), (eBool true), (.fl undef), (.fl undef), (.fl undef), (.fl undef), (.fl undef), (eBool true), (eBool true), (.fl undef), (.fl undef), (.fl undef), (.fl undef), (.fl undef), (.fl undef), (.fl undef), (.fl undef), (.fl undef), (.fl undef), (.fl undef), (.fl undef), (.fl undef), (eBool true)] : List AV)) (fun (L : Nat → Bool) (σ : Nat → Nat) => ((n13, (.mem (.st [(1, (.own n52 0 t50.2.2.f0.length)), (1, (.mp n53))]))) :: (n52, (.mem (.ar 1 (t50.2.2.f0.map eStr)))) :: (n53, (.map (encM Value.string eI64 t50.2.2.f1))) :: ([]) : Heap)) [(0, (.fz 1 (p0.map eStr))), (1, (eStr p1)), (2, (eI64 p2)), (7, (.ptr n13 0)), (8, (.fz 1 (t55.1.map eStr))), (9, (eI64 x45)), (10, (eI64 t50.1)), (11, (eI64 t50.2.1)), (13, (eI64 t55.2.1)), (14, (eI64 t55.2.2))] ⟨rfl, rfl, rfl, rfl, rfl, rfl, rfl, rfl, rfl, rfl, trivial⟩ (fun _ => rfl) (fun σ => (Sub.refl _)) ⟨?_, ?_, ?_, ?_, ?_, ?_, ?_, ?_, ?_, ?_, ?_, ?_, ?_, ?_, ?_, ?_, ?_, ?_, ?_, ?_, ?_, ?_, ?_, ?_, ?_, ?_, ?_, ?_, ?_, ?_, trivial⟩ (fun σ => [(0, (.fz 1 (p0.map eStr))), (1, (eStr p1)), (2, (eI64 p2)), (7, (.ptr n13 0)), (8, (.fz 1 (t55.1.map eStr))), (9, (eI64 x45)), (82, (eBool true))]) (fun σ => ((n13, (.mem (.st [(1, (.own n52 0 t50.2.2.f0.length)), (1, (.mp n53))]))) :: (n52, (.mem (.ar 1 (t50.2.2.f0.map eStr)))) :: (n53, (.map (encM Value.string eI64 t50.2.2.f1))) :: [])) (fun σ => ⟨rfl, rfl, rfl, rfl, rfl, rfl, rfl, trivial⟩) (fun σ => Sub.refl _) (fun σ => ?_)
              · refine StepE.calm (fun _ _ => rfl) fun L σ hc hi hd => ?_
                refine AO.weak (ρ' := [(10, (eI64 t50.1))]) ⟨rfl, trivial⟩ (Sub.refl _) ?_
                refine AO.calm rfl 53 rfl (by decide) (eI64 t50.1) (Calm.move rfl rfl) ?_
                exact AO.nilE (ρ' := [(53, (eI64 t50.1))]) ⟨⟨53, _, rfl, rfl, rfl⟩, Sub.refl _⟩ ⟨rfl, trivial⟩ (Sub.refl _)
              · refine StepE.calm (fun _ _ => rfl) fun L σ hc hi hd => ?_
                refine AO.weak (ρ' := [(13, (eI64 t55.2.1))]) ⟨rfl, trivial⟩ (Sub.refl _) ?_
                refine AO.calm rfl 54 rfl (by decide) (eI64 t55.2.1) (Calm.move rfl rfl) ?_
                exact AO.nilE (ρ' := [(54, (eI64 t55.2.1))]) ⟨⟨54, _, rfl, rfl, rfl⟩, Sub.refl _⟩ ⟨rfl, trivial⟩ (Sub.refl _)
              · refine StepE.calm (fun _ _ => rfl) fun L σ hc hi hd => ?_
                refine AO.weak (ρ' := [(53, (eI64 t50.1)), (54, (eI64 t55.2.1))]) ⟨rfl, rfl, trivial⟩ (Sub.refl _) ?_
                refine AO.calm rfl 55 rfl (by decide) (eBool (decide (t50.1 ≠ t55.2.1))) (Calm.int rfl rfl rfl rfl) ?_
                exact AO.nilE (ρ' := [(55, (eBool (decide (t50.1 ≠ t55.2.1))))]) ⟨⟨55, _, rfl, rfl, rfl⟩, Sub.refl _⟩ ⟨rfl, trivial⟩ (Sub.refl _)
              · refine StepE.calm (fun _ _ => rfl) fun L σ hc hi hd => ?_
                refine AO.weak (ρ' := [(55, (eBool (decide (t50.1 ≠ t55.2.1))))]) ⟨rfl, trivial⟩ (Sub.refl _) ?_
                refine AO.calm rfl 56 rfl (by decide) (eBool (decide (t50.1 ≠ t55.2.1))) (Calm.move rfl rfl) ?_
                exact AO.nilE (ρ' := [(56, (eBool (decide (t50.1 ≠ t55.2.1))))]) ⟨⟨56, _, rfl, rfl, rfl⟩, Sub.refl _⟩ ⟨rfl, trivial⟩ (Sub.refl _)
              · refine StepE.calm (fun _ _ => rfl) fun L σ hc hi hd => ?_
                refine AO.weak (ρ' := [(56, (eBool (decide (t50.1 ≠ t55.2.1))))]) ⟨rfl, trivial⟩ (Sub.refl _) ?_
                refine AO.skipG 3 true 56 rfl rfl (congrArg (fun b => some (AV.fl (Value.bool b))) (decide_eq_true hc56)) 57 rfl (by decide) ?_
                exact AO.nilE (ρ' := [(57, (.fl undef))]) ⟨⟨57, _, rfl, rfl, rfl⟩, Sub.refl _⟩ ⟨rfl, trivial⟩ (Sub.refl _)
              · refine StepE.calm (fun _ _ => rfl) fun L σ hc hi hd => ?_
                refine AO.weak (ρ' := [(56, (eBool (decide (t50.1 ≠ t55.2.1))))]) ⟨rfl, trivial⟩ (Sub.refl _) ?_
                refine AO.skipG 3 true 56 rfl rfl (congrArg (fun b => some (AV.fl (Value.bool b))) (decide_eq_true hc56)) 58 rfl (by decide) ?_
                exact AO.nilE (ρ' := [(58, (.fl undef))]) ⟨⟨58, _, rfl, rfl, rfl⟩, Sub.refl _⟩ ⟨rfl, trivial⟩ (Sub.refl _)
              · refine StepE.calm (fun _ _ => rfl) fun L σ hc hi hd => ?_
                refine AO.weak (ρ' := [(56, (eBool (decide (t50.1 ≠ t55.2.1))))]) ⟨rfl, trivial⟩ (Sub.refl _) ?_
                refine AO.skipG 3 true 56 rfl rfl (congrArg (fun b => some (AV.fl (Value.bool b))) (decide_eq_true hc56)) 59 rfl (by decide) ?_
                exact AO.nilE (ρ' := [(59, (.fl undef))]) ⟨⟨59, _, rfl, rfl, rfl⟩, Sub.refl _⟩ ⟨rfl, trivial⟩ (Sub.refl _)
              · refine StepE.calm (fun _ _ => rfl) fun L σ hc hi hd => ?_
                refine AO.weak (ρ' := [(56, (eBool (decide (t50.1 ≠ t55.2.1)))), (59, (.fl undef))]) ⟨rfl, rfl, trivial⟩ (Sub.refl _) ?_
                refine AO.calm rfl 60 rfl (by decide) (eBool true) (Calm.pickT rfl (congrArg (fun b => some (AV.fl (Value.bool b))) (decide_eq_true hc56)) rfl) ?_
                exact AO.nilE (ρ' := [(60, (eBool true))]) ⟨⟨60, _, rfl, rfl, rfl⟩, Sub.refl _⟩ ⟨rfl, trivial⟩ (Sub.refl _)
              · refine StepE.calm (fun _ _ => rfl) fun L σ hc hi hd => ?_
                refine AO.weak (ρ' := [(60, (eBool true))]) ⟨rfl, trivial⟩ (Sub.refl _) ?_
                refine AO.calm rfl 61 rfl (by decide) (eBool true) (Calm.move rfl rfl) ?_
                exact AO.nilE (ρ' := [(61, (eBool true))]) ⟨⟨61, _, rfl, rfl, rfl⟩, Sub.refl _⟩ ⟨rfl, trivial⟩ (Sub.refl _)
              · refine StepE.calm (fun _ _ => rfl) fun L σ hc hi hd => ?_
                refine AO.weak (ρ' := [(61, (eBool true))]) ⟨rfl, trivial⟩ (Sub.refl _) ?_
                refine AO.skipG 8 true 61 rfl rfl rfl 62 rfl (by decide) ?_
                exact AO.nilE (ρ' := [(62, (.fl undef))]) ⟨⟨62, _, rfl, rfl, rfl⟩, Sub.refl _⟩ ⟨rfl, trivial⟩ (Sub.refl _)
              · refine StepE.calm (fun _ _ => rfl) fun L σ hc hi hd => ?_
                refine AO.weak (ρ' := [(61, (eBool true))]) ⟨rfl, trivial⟩ (Sub.refl _) ?_
                refine AO.skipG 8 true 61 rfl rfl rfl 63 rfl (by decide) ?_
                exact AO.nilE (ρ' := [(63, (.fl undef))]) ⟨⟨63, _, rfl, rfl, rfl⟩, Sub.refl _⟩ ⟨rfl, trivial⟩ (Sub.refl _)
              · refine StepE.calm (fun _ _ => rfl) fun L σ hc hi hd => ?_
                refine AO.weak (ρ' := [(61, (eBool true))]) ⟨rfl, trivial⟩ (Sub.refl _) ?_
                refine AO.skipG 8 true 61 rfl rfl rfl 64 rfl (by decide) ?_
                exact AO.nilE (ρ' := [(64, (.fl undef))]) ⟨⟨64, _, rfl, rfl, rfl⟩, Sub.refl _⟩ ⟨rfl, trivial⟩ (Sub.refl _)
              · refine StepE.calm (fun _ _ => rfl) fun L σ hc hi hd => ?_
                refine AO.weak (ρ' := [(61, (eBool true))]) ⟨rfl, trivial⟩ (Sub.refl _) ?_
                refine AO.skipG 8 true 61 rfl rfl rfl 65 rfl (by decide) ?_
                exact AO.nilE (ρ' := [(65, (.fl undef))]) ⟨⟨65, _, rfl, rfl, rfl⟩, Sub.refl _⟩ ⟨rfl, trivial⟩ (Sub.refl _)
              · refine StepE.calm (fun _ _ => rfl) fun L σ hc hi hd => ?_
                refine AO.weak (ρ' := [(61, (eBool true))]) ⟨rfl, trivial⟩ (Sub.refl _) ?_
                refine AO.skipG 8 true 61 rfl rfl rfl 66 rfl (by decide) ?_
                exact AO.nilE (ρ' := [(66, (.fl undef))]) ⟨⟨66, _, rfl, rfl, rfl⟩, Sub.refl _⟩ ⟨rfl, trivial⟩ (Sub.refl _)
              · refine StepE.calm (fun _ _ => rfl) fun L σ hc hi hd => ?_
                refine AO.weak (ρ' := [(61, (eBool true)), (66, (.fl undef))]) ⟨rfl, rfl, trivial⟩ (Sub.refl _) ?_
                refine AO.calm rfl 67 rfl (by decide) (eBool true) (Calm.pickT rfl rfl rfl) ?_
                exact AO.nilE (ρ' := [(67, (eBool true))]) ⟨⟨67, _, rfl, rfl, rfl⟩, Sub.refl _⟩ ⟨rfl, trivial⟩ (Sub.refl _)
              · refine StepE.calm (fun _ _ => rfl) fun L σ hc hi hd => ?_
                refine AO.weak (ρ' := [(67, (eBool true))]) ⟨rfl, trivial⟩ (Sub.refl _) ?_
                refine AO.calm rfl 68 rfl (by decide) (eBool true) (Calm.move rfl rfl) ?_
                exact AO.nilE (ρ' := [(68, (eBool true))]) ⟨⟨68, _, rfl, rfl, rfl⟩, Sub.refl _⟩ ⟨rfl, trivial⟩ (Sub.refl _)
              · refine StepE.calm (fun _ _ => rfl) fun L σ hc hi hd => ?_
                refine AO.weak (ρ' := [(68, (eBool true))]) ⟨rfl, trivial⟩ (Sub.refl _) ?_
                refine AO.skipG 15 true 68 rfl rfl rfl 69 rfl (by decide) ?_
                exact AO.nilE (ρ' := [(69, (.fl undef))]) ⟨⟨69, _, rfl, rfl, rfl⟩, Sub.refl _⟩ ⟨rfl, trivial⟩ (Sub.refl _)
              · refine StepE.calm (fun _ _ => rfl) fun L σ hc hi hd => ?_
                refine AO.weak (ρ' := [(68, (eBool true))]) ⟨rfl, trivial⟩ (Sub.refl _) ?_
                refine AO.skipG 15 true 68 rfl rfl rfl 70 rfl (by decide) ?_
                exact AO.nilE (ρ' := [(70, (.fl undef))]) ⟨⟨70, _, rfl, rfl, rfl⟩, Sub.refl _⟩ ⟨rfl, trivial⟩ (Sub.refl _)
              · refine StepE.calm (fun _ _ => rfl) fun L σ hc hi hd => ?_
                refine AO.weak (ρ' := [(68, (eBool true))]) ⟨rfl, trivial⟩ (Sub.refl _) ?_
                refine AO.skipG 15 true 68 rfl rfl rfl 71 rfl (by decide) ?_
                exact AO.nilE (ρ' := [(71, (.fl undef))]) ⟨⟨71, _, rfl, rfl, rfl⟩, Sub.refl _⟩ ⟨rfl, trivial⟩ (Sub.refl _)
              · refine StepE.calm (fun _ _ => rfl) fun L σ hc hi hd => ?_
                refine AO.weak (ρ' := [(68, (eBool true))]) ⟨rfl, trivial⟩ (Sub.refl _) ?_
                refine AO.skipG 15 true 68 rfl rfl rfl 72 rfl (by decide) ?_
                exact AO.nilE (ρ' := [(72, (.fl undef))]) ⟨⟨72, _, rfl, rfl, rfl⟩, Sub.refl _⟩ ⟨rfl, trivial⟩ (Sub.refl _)
              · refine StepE.calm (fun _ _ => rfl) fun L σ hc hi hd => ?_
                refine AO.weak (ρ' := [(68, (eBool true))]) ⟨rfl, trivial⟩ (Sub.refl _) ?_
                refine AO.skipG 15 true 68 rfl rfl rfl 73 rfl (by decide) ?_
                exact AO.nilE (ρ' := [(73, (.fl undef))]) ⟨⟨73, _, rfl, rfl, rfl⟩, Sub.refl _⟩ ⟨rfl, trivial⟩ (Sub.refl _)
              · refine StepE.calm (fun _ _ => rfl) fun L σ hc hi hd => ?_
                refine AO.weak (ρ' := [(68, (eBool true))]) ⟨rfl, trivial⟩ (Sub.refl _) ?_
                refine AO.skipG 15 true 68 rfl rfl rfl 74 rfl (by decide) ?_
                exact AO.nilE (ρ' := [(74, (.fl undef))]) ⟨⟨74, _, rfl, rfl, rfl⟩, Sub.refl _⟩ ⟨rfl, trivial⟩ (Sub.refl _)
              · refine StepE.calm (fun _ _ => rfl) fun L σ hc hi hd => ?_
                refine AO.weak (ρ' := [(68, (eBool true))]) ⟨rfl, trivial⟩ (Sub.refl _) ?_
                refine AO.skipG 15 true 68 rfl rfl rfl 75 rfl (by decide) ?_
                exact AO.nilE (ρ' := [(75, (.fl undef))]) ⟨⟨75, _, rfl, rfl, rfl⟩, Sub.refl _⟩ ⟨rfl, trivial⟩ (Sub.refl _)
              · refine StepE.calm (fun _ _ => rfl) fun L σ hc hi hd => ?_
                refine AO.weak (ρ' := [(68, (eBool true))]) ⟨rfl, trivial⟩ (Sub.refl _) ?_
                refine AO.skipG 15 true 68 rfl rfl rfl 76 rfl (by decide) ?_
                exact AO.nilE (ρ' := [(76, (.fl undef))]) ⟨⟨76, _, rfl, rfl, rfl⟩, Sub.refl _⟩ ⟨rfl, trivial⟩ (Sub.refl _)
              · refine StepE.calm (fun _ _ => rfl) fun L σ hc hi hd => ?_
                refine AO.weak (ρ' := [(68, (eBool true))]) ⟨rfl, trivial⟩ (Sub.refl _) ?_
                refine AO.skipG 15 true 68 rfl rfl rfl 77 rfl (by decide) ?_
                exact AO.nilE (ρ' := [(77, (.fl undef))]) ⟨⟨77, _, rfl, rfl, rfl⟩, Sub.refl _⟩ ⟨rfl, trivial⟩ (Sub.refl _)
              · refine StepE.calm (fun _ _ => rfl) fun L σ hc hi hd => ?_
                refine AO.weak (ρ' := [(68, (eBool true))]) ⟨rfl, trivial⟩ (Sub.refl _) ?_
                refine AO.skipG 15 true 68 rfl rfl rfl 78 rfl (by decide) ?_
                exact AO.nilE (ρ' := [(78, (.fl undef))]) ⟨⟨78, _, rfl, rfl, rfl⟩, Sub.refl _⟩ ⟨rfl, trivial⟩ (Sub.refl _)
              · refine StepE.calm (fun _ _ => rfl) fun L σ hc hi hd => ?_
                refine AO.weak (ρ' := [(68, (eBool true))]) ⟨rfl, trivial⟩ (Sub.refl _) ?_
                refine AO.skipG 15 true 68 rfl rfl rfl 79 rfl (by decide) ?_
                exact AO.nilE (ρ' := [(79, (.fl undef))]) ⟨⟨79, _, rfl, rfl, rfl⟩, Sub.refl _⟩ ⟨rfl, trivial⟩ (Sub.refl _)
              · refine StepE.calm (fun _ _ => rfl) fun L σ hc hi hd => ?_
                refine AO.weak (ρ' := [(68, (eBool true))]) ⟨rfl, trivial⟩ (Sub.refl _) ?_
                refine AO.skipG 15 true 68 rfl rfl rfl 80 rfl (by decide) ?_
                exact AO.nilE (ρ' := [(80, (.fl undef))]) ⟨⟨80, _, rfl, rfl, rfl⟩, Sub.refl _⟩ ⟨rfl, trivial⟩ (Sub.refl _)
              · refine StepE.calm (fun _ _ => rfl) fun L σ hc hi hd => ?_
                refine AO.weak (ρ' := [(68, (eBool true))]) ⟨rfl, trivial⟩ (Sub.refl _) ?_
                refine AO.skipG 15 true 68 rfl rfl rfl 81 rfl (by decide) ?_
                exact AO.nilE (ρ' := [(81, (.fl undef))]) ⟨⟨81, _, rfl, rfl, rfl⟩, Sub.refl _⟩ ⟨rfl, trivial⟩ (Sub.refl _)
              · refine StepE.calm (fun _ _ => rfl) fun L σ hc hi hd => ?_
                refine AO.weak (ρ' := [(68, (eBool true)), (81, (.fl undef))]) ⟨rfl, rfl, trivial⟩ (Sub.refl _) ?_
                refine AO.calm rfl 82 rfl (by decide) (eBool true) (Calm.pickT rfl rfl rfl) ?_
                exact AO.nilE (ρ' := [(82, (eBool true))]) ⟨⟨82, _, rfl, rfl, rfl⟩, Sub.refl _⟩ ⟨rfl, trivial⟩ (Sub.refl _)
              · refine AO.nil (ρ' := [(0, (.fz 1 (p0.map eStr))), (1, (eStr p1)), (2, (eI64 p2)), (7, (.ptr n13 0)), (8, (.fz 1 (t55.1.map eStr))), (9, (eI64 x45)), (82, (eBool true))]) (H' := [(n13, (.mem (.st [(1, (.own n52 0 t50.2.2.f0.length)), (1, (.mp n53))]))), (n52, (.mem (.ar 1 (t50.2.2.f0.map eStr)))), (n53, (.map (encM Value.string eI64 t50.2.2.f1)))]) ⟨rfl, rfl, rfl, rfl, rfl, rfl, rfl, trivial⟩ (Sub.refl _) ?_
                refine AW.condT rfl ?_
                refine AW.seq ?_
                refine AW.reg ?_
                refine AO.calm rfl 6 rfl (by decide) (eBool false) (Calm.assign rfl rfl) ?_
                refine AO.nil (ρ' := [(6, (eBool false))]) (H' := []) ⟨rfl, trivial⟩ (Sub.nil _) ?_
                refine AW.ret (ρ' := [(6, (eBool false))]) (H' := []) ⟨rfl, trivial⟩ (Sub.refl _) ?_
                have hr := Option.some.inj h
                subst hr
                exact ⟨[(eBool false)], ⟨rfl, rfl, trivial⟩, rfl⟩
            · have h := (if_neg hc56).symm.trans h
              by_cases hc57 : t50.2.1 ≠ t55.2.2
              · have h := (if_pos hc57).symm.trans h
                refine AW.regEff (by rfl) (by decide +kernel) (fun (σ : Nat → Nat) => ([(eI64 t50.1), (eI64 t55.2.1), (eBool (decide (t50.1 ≠ t55.2.1))), (eBool (decide (t50.1 ≠ t55.2.1))), (eI64 t50.2.1), (eI64 t55.2.2), (eBool (decide (t50.2.1 ≠ t55.2.2))), (eBool (decide (t50.2.1 ≠ t55.2.2))), (eBool (decide (t50.2.1 ≠ t55.2.2))), (.fl undef), (.fl undef), (.fl undef), (.fl undef), (.fl undef), (eBool true), (eBool true), (.fl undef), (.fl undef), (.fl undef), (.fl undef), (.fl undef), (.fl undef), (.fl undef), (.fl undef), (.fl undef), (.fl undef), (.fl undef), (.fl undef), (.fl undef), (eBool true)] : List AV)) (fun (L : Nat → Bool) (σ : Nat → Nat) => ((n13, (.mem (.st [(1, (.own n52 0 t50.2.2.f0.length)), (1, (.mp n53))]))) :: (n52, (.mem (.ar 1 (t50.2.2.f0.map eStr)))) :: (n53, (.map (encM Value.string eI64 t50.2.2.f1))) :: ([]) : Heap)) [(0, (.fz 1 (p0.map eStr))), (1, (eStr p1)), (2, (eI64 p2)), (7, (.ptr n13 0)), (8, (.fz 1 (t55.1.map eStr))), (9, (eI64 x45)), (10, (eI64 t50.1)), (11, (eI64 t50.2.1)), (13, (eI64 t55.2.1)), (14, (eI64 t55.2.2))] ⟨rfl, rfl, rfl, rfl, rfl, rfl, rfl, rfl, rfl, rfl, trivial⟩ (fun _ => rfl) (fun σ => (Sub.refl _)) ⟨?_, ?_, ?_, ?_, ?_, ?_, ?_, ?_, ?_, ?_, ?_, ?_, ?_, ?_, ?_, ?_, ?_, ?_, ?_, ?_, ?_, ?_, ?_, ?_, ?_, ?_, ?_, ?_, ?_, ?_, trivial⟩ (fun σ => [(0, (.fz 1 (p0.map eStr))), (1, (eStr p1)), (2, (eI64 p2)), (7, (.ptr n13 0)), (8, (.fz 1 (t55.1.map eStr))), (9, (eI64 x45)), (82, (eBool true))]) (fun σ => ((n13, (.mem (.st [(1, (.own n52 0 t50.2.2.f0.length)), (1, (.mp n53))]))) :: (n52, (.mem (.ar 1 (t50.2.2.f0.map eStr)))) :: (n53, (.map (encM Value.string eI64 t50.2.2.f1))) :: [])) (fun σ => ⟨rfl, rfl, rfl, rfl, rfl, rfl, rfl, trivial⟩) (fun σ => Sub.refl _) (fun σ => ?_)
                · refine StepE.calm (fun _ _ => rfl) fun L σ hc hi hd => ?_
                  refine AO.weak (ρ' := [(10, (eI64 t50.1))]) ⟨rfl, trivial⟩ (Sub.refl _) ?_
                  refine AO.calm rfl 53 rfl (by decide) (eI64 t50.1) (Calm.move rfl rfl) ?_
                  exact AO.nilE (ρ' := [(53, (eI64 t50.1))]) ⟨⟨53, _, rfl, rfl, rfl⟩, Sub.refl _⟩ ⟨rfl, trivial⟩ (Sub.refl _)
                · refine StepE.calm (fun _ _ => rfl) fun L σ hc hi hd => ?_
                  refine AO.weak (ρ' := [(13, (eI64 t55.2.1))]) ⟨rfl, trivial⟩ (Sub.refl _) ?_
                  refine AO.calm rfl 54 rfl (by decide) (eI64 t55.2.1) (Calm.move rfl rfl) ?_
                  exact AO.nilE (ρ' := [(54, (eI64 t55.2.1))]) ⟨⟨54, _, rfl, rfl, rfl⟩, Sub.refl _⟩ ⟨rfl, trivial⟩ (Sub.refl _)
                · refine StepE.calm (fun _ _ => rfl) fun L σ hc hi hd => ?_
                  refine AO.weak (ρ' := [(53, (eI64 t50.1)), (54, (eI64 t55.2.1))]) ⟨rfl, rfl, trivial⟩ (Sub.refl _) ?_
                  refine AO.calm rfl 55 rfl (by decide) (eBool (decide (t50.1 ≠ t55.2.1))) (Calm.int rfl rfl rfl rfl) ?_
                  exact AO.nilE (ρ' := [(55, (eBool (decide (t50.1 ≠ t55.2.1))))]) ⟨⟨55, _, rfl, rfl, rfl⟩, Sub.refl _⟩ ⟨rfl, trivial⟩ (Sub.refl _)
                · refine StepE.calm (fun _ _ => rfl) fun L σ hc hi hd => ?_
                  refine AO.weak (ρ' := [(55, (eBool (decide (t50.1 ≠ t55.2.1))))]) ⟨rfl, trivial⟩ (Sub.refl _) ?_
                  refine AO.calm rfl 56 rfl (by decide) (eBool (decide (t50.1 ≠ t55.2.1))) (Calm.move rfl rfl) ?_
                  exact AO.nilE (ρ' := [(56, (eBool (decide (t50.1 ≠ t55.2.1))))]) ⟨⟨56, _, rfl, rfl, rfl⟩, Sub.refl _⟩ ⟨rfl, trivial⟩ (Sub.refl _)
                · refine StepE.calm (fun _ _ => rfl) fun L σ hc hi hd => ?_
                  refine AO.weak (ρ' := [(11, (eI64 t50.2.1)), (56, (eBool (decide (t50.1 ≠ t55.2.1))))]) ⟨rfl, rfl, trivial⟩ (Sub.refl _) ?_
                  refine AO.calmG 3 false 56 rfl rfl (congrArg (fun b => some (AV.fl (Value.bool b))) (decide_eq_false hc56)) 57 rfl (by decide) (eI64 t50.2.1) (Calm.move rfl rfl) ?_
                  exact AO.nilE (ρ' := [(57, (eI64 t50.2.1))]) ⟨⟨57, _, rfl, rfl, rfl⟩, Sub.refl _⟩ ⟨rfl, trivial⟩ (Sub.refl _)
                · refine StepE.calm (fun _ _ => rfl) fun L σ hc hi hd => ?_
                  refine AO.weak (ρ' := [(14, (eI64 t55.2.2)), (56, (eBool (decide (t50.1 ≠ t55.2.1))))]) ⟨rfl, rfl, trivial⟩ (Sub.refl _) ?_
                  refine AO.calmG 3 false 56 rfl rfl (congrArg (fun b => some (AV.fl (Value.bool b))) (decide_eq_false hc56)) 58 rfl (by decide) (eI64 t55.2.2) (Calm.move rfl rfl) ?_
                  exact AO.nilE (ρ' := [(58, (eI64 t55.2.2))]) ⟨⟨58, _, rfl, rfl, rfl⟩, Sub.refl _⟩ ⟨rfl, trivial⟩ (Sub.refl _)
                · refine StepE.calm (fun _ _ => rfl) fun L σ hc hi hd => ?_
                  refine AO.weak (ρ' := [(56, (eBool (decide (t50.1 ≠ t55.2.1)))), (57, (eI64 t50.2.1)), (58, (eI64 t55.2.2))]) ⟨rfl, rfl, rfl, trivial⟩ (Sub.refl _) ?_
                  refine AO.calmG 3 false 56 rfl rfl (congrArg (fun b => some (AV.fl (Value.bool b))) (decide_eq_false hc56)) 59 rfl (by decide) (eBool (decide (t50.2.1 ≠ t55.2.2))) (Calm.int rfl rfl rfl rfl) ?_
                  exact AO.nilE (ρ' := [(59, (eBool (decide (t50.2.1 ≠ t55.2.2))))]) ⟨⟨59, _, rfl, rfl, rfl⟩, Sub.refl _⟩ ⟨rfl, trivial⟩ (Sub.refl _)
                · refine StepE.calm (fun _ _ => rfl) fun L σ hc hi hd => ?_
                  refine AO.weak (ρ' := [(56, (eBool (decide (t50.1 ≠ t55.2.1)))), (59, (eBool (decide (t50.2.1 ≠ t55.2.2))))]) ⟨rfl, rfl, trivial⟩ (Sub.refl _) ?_
                  refine AO.calm rfl 60 rfl (by decide) (eBool (decide (t50.2.1 ≠ t55.2.2))) (Calm.pickF rfl (congrArg (fun b => some (AV.fl (Value.bool b))) (decide_eq_false hc56)) rfl) ?_
                  exact AO.nilE (ρ' := [(60, (eBool (decide (t50.2.1 ≠ t55.2.2))))]) ⟨⟨60, _, rfl, rfl, rfl⟩, Sub.refl _⟩ ⟨rfl, trivial⟩ (Sub.refl _)
                · refine StepE.calm (fun _ _ => rfl) fun L σ hc hi hd => ?_
                  refine AO.weak (ρ' := [(60, (eBool (decide (t50.2.1 ≠ t55.2.2))))]) ⟨rfl, trivial⟩ (Sub.refl _) ?_
                  refine AO.calm rfl 61 rfl (by decide) (eBool (decide (t50.2.1 ≠ t55.2.2))) (Calm.move rfl rfl) ?_
                  exact AO.nilE (ρ' := [(61, (eBool (decide (t50.2.1 ≠ t55.2.2))))]) ⟨⟨61, _, rfl, rfl, rfl⟩, Sub.refl _⟩ ⟨rfl, trivial⟩ (Sub.refl _)
                · refine StepE.calm (fun _ _ => rfl) fun L σ hc hi hd => ?_
                  refine AO.weak (ρ' := [(61, (eBool (decide (t50.2.1 ≠ t55.2.2))))]) ⟨rfl, trivial⟩ (Sub.refl _) ?_
                  refine AO.skipG 8 true 61 rfl rfl (congrArg (fun b => some (AV.fl (Value.bool b))) (decide_eq_true hc57)) 62 rfl (by decide) ?_
                  exact AO.nilE (ρ' := [(62, (.fl undef))]) ⟨⟨62, _, rfl, rfl, rfl⟩, Sub.refl _⟩ ⟨rfl, trivial⟩ (Sub.refl _)
                · refine StepE.calm (fun _ _ => rfl) fun L σ hc hi hd => ?_
                  refine AO.weak (ρ' := [(61, (eBool (decide (t50.2.1 ≠ t55.2.2))))]) ⟨rfl, trivial⟩ (Sub.refl _) ?_
                  refine AO.skipG 8 true 61 rfl rfl (congrArg (fun b => some (AV.fl (Value.bool b))) (decide_eq_true hc57)) 63 rfl (by decide) ?_
                  exact AO.nilE (ρ' := [(63, (.fl undef))]) ⟨⟨63, _, rfl, rfl, rfl⟩, Sub.refl _⟩ ⟨rfl, trivial⟩ (Sub.refl _)
                · refine StepE.calm (fun _ _ => rfl) fun L σ hc hi hd => ?_
                  refine AO.weak (ρ' := [(61, (eBool (decide (t50.2.1 ≠ t55.2.2))))]) ⟨rfl, trivial⟩ (Sub.refl _) ?_
                  refine AO.skipG 8 true 61 rfl rfl (congrArg (fun b => some (AV.fl (Value.bool b))) (decide_eq_true hc57)) 64 rfl (by decide) ?_
                  exact AO.nilE (ρ' := [(64, (.fl undef))]) ⟨⟨64, _, rfl, rfl, rfl⟩, Sub.refl _⟩ ⟨rfl, trivial⟩ (Sub.refl _)
                · refine StepE.calm (fun _ _ => rfl) fun L σ hc hi hd => ?_
                  refine AO.weak (ρ' := [(61, (eBool (decide (t50.2.1 ≠ t55.2.2))))]) ⟨rfl, trivial⟩ (Sub.refl _) ?_
                  refine AO.skipG 8 true 61 rfl rfl (congrArg (fun b => some (AV.fl (Value.bool b))) (decide_eq_true hc57)) 65 rfl (by decide) ?_
                  exact AO.nilE (ρ' := [(65, (.fl undef))]) ⟨⟨65, _, rfl, rfl, rfl⟩, Sub.refl _⟩ ⟨rfl, trivial⟩ (Sub.refl _)
                · refine StepE.calm (fun _ _ => rfl) fun L σ hc hi hd => ?_
                  refine AO.weak (ρ' := [(61, (eBool (decide (t50.2.1 ≠ t55.2.2))))]) ⟨rfl, trivial⟩ (Sub.refl _) ?_
                  refine AO.skipG 8 true 61 rfl rfl (congrArg (fun b => some (AV.fl (Value.bool b))) (decide_eq_true hc57)) 66 rfl (by decide) ?_
                  exact AO.nilE (ρ' := [(66, (.fl undef))]) ⟨⟨66, _, rfl, rfl, rfl⟩, Sub.refl _⟩ ⟨rfl, trivial⟩ (Sub.refl _)
                · refine StepE.calm (fun _ _ => rfl) fun L σ hc hi hd => ?_
                  refine AO.weak (ρ' := [(61, (eBool (decide (t50.2.1 ≠ t55.2.2)))), (66, (.fl undef))]) ⟨rfl, rfl, trivial⟩ (Sub.refl _) ?_
                  refine AO.calm rfl 67 rfl (by decide) (eBool true) (Calm.pickT rfl (congrArg (fun b => some (AV.fl (Value.bool b))) (decide_eq_true hc57)) rfl) ?_
                  exact AO.nilE (ρ' := [(67, (eBool true))]) ⟨⟨67, _, rfl, rfl, rfl⟩, Sub.refl _⟩ ⟨rfl, trivial⟩ (Sub.refl _)
                · refine StepE.calm (fun _ _ => rfl) fun L σ hc hi hd => ?_
                  refine AO.weak (ρ' := [(67, (eBool true))]) ⟨rfl, trivial⟩ (Sub.refl _) ?_
                  refine AO.calm rfl 68 rfl (by decide) (eBool true) (Calm.move rfl rfl) ?_
                  exact AO.nilE (ρ' := [(68, (eBool true))]) ⟨⟨68, _, rfl, rfl, rfl⟩, Sub.refl _⟩ ⟨rfl, trivial⟩ (Sub.refl _)
                · refine StepE.calm (fun _ _ => rfl) fun L σ hc hi hd => ?_
                  refine AO.weak (ρ' := [(68, (eBool true))]) ⟨rfl, trivial⟩ (Sub.refl _) ?_
                  refine AO.skipG 15 true 68 rfl rfl rfl 69 rfl (by decide) ?_
                  exact AO.nilE (ρ' := [(69, (.fl undef))]) ⟨⟨69, _, rfl, rfl, rfl⟩, Sub.refl _⟩ ⟨rfl, trivial⟩ (Sub.refl _)
                · refine StepE.calm (fun _ _ => rfl) fun L σ hc hi hd => ?_
                  refine AO.weak (ρ' := [(68, (eBool true))]) ⟨rfl, trivial⟩ (Sub.refl _) ?_
                  refine AO.skipG 15 true 68 rfl rfl rfl 70 rfl (by decide) ?_
                  exact AO.nilE (ρ' := [(70, (.fl undef))]) ⟨⟨70, _, rfl, rfl, rfl⟩, Sub.refl _⟩ ⟨rfl, trivial⟩ (Sub.refl _)
                · refine StepE.calm (fun _ _ => rfl) fun L σ hc hi hd => ?_
                  refine AO.weak (ρ' := [(68, (eBool true))]) ⟨rfl, trivial⟩ (Sub.refl _) ?_
                  refine AO.skipG 15 true 68 rfl rfl rfl 71 rfl (by decide) ?_
                  exact AO.nilE (ρ' := [(71, (.fl undef))]) ⟨⟨71, _, rfl, rfl, rfl⟩, Sub.refl _⟩ ⟨rfl, trivial⟩ (Sub.refl _)
                · refine StepE.calm (fun _ _ => rfl) fun L σ hc hi hd => ?_
                  refine AO.weak (ρ' := [(68, (eBool true))]) ⟨rfl, trivial⟩ (Sub.refl _) ?_
                  refine AO.skipG 15 true 68 rfl rfl rfl 72 rfl (by decide) ?_
                  exact AO.nilE (ρ' := [(72, (.fl undef))]) ⟨⟨72, _, rfl, rfl, rfl⟩, Sub.refl _⟩ ⟨rfl, trivial⟩ (Sub.refl _)
                · refine StepE.calm (fun _ _ => rfl) fun L σ hc hi hd => ?_
                  refine AO.weak (ρ' := [(68, (eBool true))]) ⟨rfl, trivial⟩ (Sub.refl _) ?_
                  refine AO.skipG 15 true 68 rfl rfl rfl 73 rfl (by decide) ?_
                  exact AO.nilE (ρ' := [(73, (.fl undef))]) ⟨⟨73, _, rfl, rfl, rfl⟩, Sub.refl _⟩ ⟨rfl, trivial⟩ (Sub.refl _)
                · refine StepE.calm (fun _ _ => rfl) fun L σ hc hi hd => ?_
                  refine AO.weak (ρ' := [(68, (eBool true))]) ⟨rfl, trivial⟩ (Sub.refl _) ?_
                  refine AO.skipG 15 true 68 rfl rfl rfl 74 rfl (by decide) ?_
                  exact AO.nilE (ρ' := [(74, (.fl undef))]) ⟨⟨74, _, rfl, rfl, rfl⟩, Sub.refl _⟩ ⟨rfl, trivial⟩ (Sub.refl _)
                · refine StepE.calm (fun _ _ => rfl) fun L σ hc hi hd => ?_
                  refine AO.weak (ρ' := [(68, (eBool true))]) ⟨rfl, trivial⟩ (Sub.refl _) ?_
                  refine AO.skipG 15 true 68 rfl rfl rfl 75 rfl (by decide) ?_
                  exact AO.nilE (ρ' := [(75, (.fl undef))]) ⟨⟨75, _, rfl, rfl, rfl⟩, Sub.refl _⟩ ⟨rfl, trivial⟩ (Sub.refl _)
                · refine StepE.calm (fun _ _ => rfl) fun L σ hc hi hd => ?_
                  refine AO.weak (ρ' := [(68, (eBool true))]) ⟨rfl, trivial⟩ (Sub.refl _) ?_
                  refine AO.skipG 15 true 68 rfl rfl rfl 76 rfl (by decide) ?_
                  exact AO.nilE (ρ' := [(76, (.fl undef))]) ⟨⟨76, _, rfl, rfl, rfl⟩, Sub.refl _⟩ ⟨rfl, trivial⟩ (Sub.refl _)
                · refine StepE.calm (fun _ _ => rfl) fun L σ hc hi hd => ?_
                  refine AO.weak (ρ' := [(68, (eBool true))]) ⟨rfl, trivial⟩ (Sub.refl _) ?_
                  refine AO.skipG 15 true 68 rfl rfl rfl 77 rfl (by decide) ?_
                  exact AO.nilE (ρ' := [(77, (.fl undef))]) ⟨⟨77, _, rfl, rfl, rfl⟩, Sub.refl _⟩ ⟨rfl, trivial⟩ (Sub.refl _)
                · refine StepE.calm (fun _ _ => rfl) fun L σ hc hi hd => ?_
                  refine AO.weak (ρ' := [(68, (eBool true))]) ⟨rfl, trivial⟩ (Sub.refl _) ?_
                  refine AO.skipG 15 true 68 rfl rfl rfl 78 rfl (by decide) ?_
                  exact AO.nilE (ρ' := [(78, (.fl undef))]) ⟨⟨78, _, rfl, rfl, rfl⟩, Sub.refl _⟩ ⟨rfl, trivial⟩ (Sub.refl _)
                · refine StepE.calm (fun _ _ => rfl) fun L σ hc hi hd => ?_
                  refine AO.weak (ρ' := [(68, (eBool true))]) ⟨rfl, trivial⟩ (Sub.refl _) ?_
                  refine AO.skipG 15 true 68 rfl rfl rfl 79 rfl (by decide) ?_
                  exact AO.nilE (ρ' := [(79, (.fl undef))]) ⟨⟨79, _, rfl, rfl, rfl⟩, Sub.refl _⟩ ⟨rfl, trivial⟩ (Sub.refl _)
                · refine StepE.calm (fun _ _ => rfl) fun L σ hc hi hd => ?_
                  refine AO.weak (ρ' := [(68, (eBool true))]) ⟨rfl, trivial⟩ (Sub.refl _) ?_
                  refine AO.skipG 15 true 68 rfl rfl rfl 80 rfl (by decide) ?_
                  exact AO.nilE (ρ' := [(80, (.fl undef))]) ⟨⟨80, _, rfl, rfl, rfl⟩, Sub.refl _⟩ ⟨rfl, trivial⟩ (Sub.refl _)
                · refine StepE.calm (fun _ _ => rfl) fun L σ hc hi hd => ?_
                  refine AO.weak (ρ' := [(68, (eBool true))]) ⟨rfl, trivial⟩ (Sub.refl _) ?_
                  refine AO.skipG 15 true 68 rfl rfl rfl 81 rfl (by decide) ?_
                  exact AO.nilE (ρ' := [(81, (.fl undef))]) ⟨⟨81, _, rfl, rfl, rfl⟩, Sub.refl _⟩ ⟨rfl, trivial⟩ (Sub.refl _)
                · refine StepE.calm (fun _ _ => rfl) fun L σ hc hi hd => ?_
                  refine AO.weak (ρ' := [(68, (eBool true)), (81, (.fl undef))]) ⟨rfl, rfl, trivial⟩ (Sub.refl _) ?_
                  refine AO.calm rfl 82 rfl (by decide) (eBool true) (Calm.pickT rfl rfl rfl) ?_
                  exact AO.nilE (ρ' := [(82, (eBool true))]) ⟨⟨82, _, rfl, rfl, rfl⟩, Sub.refl _⟩ ⟨rfl, trivial⟩ (Sub.refl _)
                · refine AO.nil (ρ' := [(0, (.fz 1 (p0.map eStr))), (1, (eStr p1)), (2, (eI64 p2)), (7, (.ptr n13 0)), (8, (.fz 1 (t55.1.map eStr))), (9, (eI64 x45)), (82, (eBool true))]) (H' := [(n13, (.mem (.st [(1, (.own n52 0 t50.2.2.f0.length)), (1, (.mp n53))]))), (n52, (.mem (.ar 1 (t50.2.2.f0.map eStr)))), (n53, (.map (encM Value.string eI64 t50.2.2.f1)))]) ⟨rfl, rfl, rfl, rfl, rfl, rfl, rfl, trivial⟩ (Sub.refl _) ?_
                  refine AW.condT rfl ?_
                  refine AW.seq ?_
                  refine AW.reg ?_
                  refine AO.calm rfl 6 rfl (by decide) (eBool false) (Calm.assign rfl rfl) ?_
                  refine AO.nil (ρ' := [(6, (eBool false))]) (H' := []) ⟨rfl, trivial⟩ (Sub.nil _) ?_
                  refine AW.ret (ρ' := [(6, (eBool false))]) (H' := []) ⟨rfl, trivial⟩ (Sub.refl _) ?_
                  have hr := Option.some.inj h
                  subst hr
                  exact ⟨[(eBool false)], ⟨rfl, rfl, trivial⟩, rfl⟩
              · have h := (if_neg hc57).symm.trans h
                obtain ⟨t58, et58, h⟩ := of_bind h
                by_cases hc60 : t58 ≠ (t55.1.length : Int)
                · have h := (if_pos hc60).symm.trans h
                  refine AW.regEff (by rfl) (by decide +kernel) (fun (σ : Nat → Nat) => ([(eI64 t50.1), (eI64 t55.2.1), (eBool (decide (t50.1 ≠ t55.2.1))), (eBool (decide (t50.1 ≠ t55.2.1))), (eI64 t50.2.1), (eI64 t55.2.2), (eBool (decide (t50.2.1 ≠ t55.2.2))), (eBool (decide (t50.2.1 ≠ t55.2.2))), (eBool (decide (t50.2.1 ≠ t55.2.2))), (.ptr n13 0), (eI64 t58), (.fz 1 (t55.1.map eStr)), (eI64 (t55.1.length : Int)), (eBool (decide (t58 ≠ (t55.1.length : Int)))), (eBool (decide (t58 ≠ (t55.1.length : Int)))), (eBool (decide (t58 ≠ (t55.1.length : Int)))), (.fl undef), (.fl undef), (.fl undef), (.fl undef), (.fl undef), (.fl undef), (.fl undef), (.fl undef), (.fl undef), (.fl undef), (.fl undef), (.fl undef), (.fl undef), (eBool true)] : List AV)) (fun (L : Nat → Bool) (σ : Nat → Nat) => ((n13, (.mem (.st [(1, (.own n52 0 t50.2.2.f0.length)), (1, (.mp n53))]))) :: (n52, (.mem (.ar 1 (t50.2.2.f0.map eStr)))) :: (n53, (.map (encM Value.string eI64 t50.2.2.f1))) :: ([]) : Heap)) [(0, (.fz 1 (p0.map eStr))), (1, (eStr p1)), (2, (eI64 p2)), (7, (.ptr n13 0)), (8, (.fz 1 (t55.1.map eStr))), (9, (eI64 x45)), (10, (eI64 t50.1)), (11, (eI64 t50.2.1)), (13, (eI64 t55.2.1)), (14, (eI64 t55.2.2))] ⟨rfl, rfl, rfl, rfl, rfl, rfl, rfl, rfl, rfl, rfl, trivial⟩ (fun _ => rfl) (fun σ => (Sub.refl _)) ⟨?_, ?_, ?_, ?_, ?_, ?_, ?_, ?_, ?_, ?_, ?_, ?_, ?_, ?_, ?_, ?_, ?_, ?_, ?_, ?_, ?_, ?_, ?_, ?_, ?_, ?_, ?_, ?_, ?_, ?_, trivial⟩ (fun σ => [(0, (.fz 1 (p0.map eStr))), (1, (eStr p1)), (2, (eI64 p2)), (7, (.ptr n13 0)), (8, (.fz 1 (t55.1.map eStr))), (9, (eI64 x45)), (82, (eBool true))]) (fun σ => ((n13, (.mem (.st [(1, (.own n52 0 t50.2.2.f0.length)), (1, (.mp n53))]))) :: (n52, (.mem (.ar 1 (t50.2.2.f0.map eStr)))) :: (n53, (.map (encM Value.string eI64 t50.2.2.f1))) :: [])) (fun σ => ⟨rfl, rfl, rfl, rfl, rfl, rfl, rfl, trivial⟩) (fun σ => Sub.refl _) (fun σ => ?_)
                  · refine StepE.calm (fun _ _ => rfl) fun L σ hc hi hd => ?_
                    refine AO.weak (ρ' := [(10, (eI64 t50.1))]) ⟨rfl, trivial⟩ (Sub.refl _) ?_
                    refine AO.calm rfl 53 rfl (by decide) (eI64 t50.1) (Calm.move rfl rfl) ?_
                    exact AO.nilE (ρ' := [(53, (eI64 t50.1))]) ⟨⟨53, _, rfl, rfl, rfl⟩, Sub.refl _⟩ ⟨rfl, trivial⟩ (Sub.refl _)
                  · refine StepE.calm (fun _ _ => rfl) fun L σ hc hi hd => ?_
                    refine AO.weak (ρ' := [(13, (eI64 t55.2.1))]) ⟨rfl, trivial⟩ (Sub.refl _) ?_
                    refine AO.calm rfl 54 rfl (by decide) (eI64 t55.2.1) (Calm.move rfl rfl) ?_
                    exact AO.nilE (ρ' := [(54, (eI64 t55.2.1))]) ⟨⟨54, _, rfl, rfl, rfl⟩, Sub.refl _⟩ ⟨rfl, trivial⟩ (Sub.refl _)
                  · refine StepE.calm (fun _ _ => rfl) fun L σ hc hi hd => ?_
                    refine AO.weak (ρ' := [(53, (eI64 t50.1)), (54, (eI64 t55.2.1))]) ⟨rfl, rfl, trivial⟩ (Sub.refl _) ?_
                    refine AO.calm rfl 55 rfl (by decide) (eBool (decide (t50.1 ≠ t55.2.1))) (Calm.int rfl rfl rfl rfl) ?_
                    exact AO.nilE (ρ' := [(55, (eBool (decide (t50.1 ≠ t55.2.1))))]) ⟨⟨55, _, rfl, rfl, rfl⟩, Sub.refl _⟩ ⟨rfl, trivial⟩ (Sub.refl _)
                  · refine StepE.calm (fun _ _ => rfl) fun L σ hc hi hd => ?_
                    refine AO.weak (ρ' := [(55, (eBool (decide (t50.1 ≠ t55.2.1))))]) ⟨rfl, trivial⟩ (Sub.refl _) ?_
                    refine AO.calm rfl 56 rfl (by decide) (eBool (decide (t50.1 ≠ t55.2.1))) (Calm.move rfl rfl) ?_
                    exact AO.nilE (ρ' := [(56, (eBool (decide (t50.1 ≠ t55.2.1))))]) ⟨⟨56, _, rfl, rfl, rfl⟩, Sub.refl _⟩ ⟨rfl, trivial⟩ (Sub.refl _)
                  · refine StepE.calm (fun _ _ => rfl) fun L σ hc hi hd => ?_
                    refine AO.weak (ρ' := [(11, (eI64 t50.2.1)), (56, (eBool (decide (t50.1 ≠ t55.2.1))))]) ⟨rfl, rfl, trivial⟩ (Sub.refl _) ?_
                    refine AO.calmG 3 false 56 rfl rfl (congrArg (fun b => some (AV.fl (Value.bool b))) (decide_eq_false hc56)) 57 rfl (by decide) (eI64 t50.2.1) (Calm.move rfl rfl) ?_
                    exact AO.nilE (ρ' := [(57, (eI64 t50.2.1))]) ⟨⟨57, _, rfl, rfl, rfl⟩, Sub.refl _⟩ ⟨rfl, trivial⟩ (Sub.refl _)
                  · refine StepE.calm (fun _ _ => rfl) fun L σ hc hi hd => ?_
                    refine AO.weak (ρ' := [(14, (eI64 t55.2.2)), (56, (eBool (decide (t50.1 ≠ t55.2.1))))]) ⟨rfl, rfl, trivial⟩ (Sub.refl _) ?_
                    refine AO.calmG 3 false 56 rfl rfl (congrArg (fun b => some (AV.fl (Value.bool b))) (decide_eq_false hc56)) 58 rfl (by decide) (eI64 t55.2.2) (Calm.move rfl rfl) ?_
                    exact AO.nilE (ρ' := [(58, (eI64 t55.2.2))]) ⟨⟨58, _, rfl, rfl, rfl⟩, Sub.refl _⟩ ⟨rfl, trivial⟩ (Sub.refl _)
                  · refine StepE.calm (fun _ _ => rfl) fun L σ hc hi hd => ?_
                    refine AO.weak (ρ' := [(56, (eBool (decide (t50.1 ≠ t55.2.1)))), (57, (eI64 t50.2.1)), (58, (eI64 t55.2.2))]) ⟨rfl, rfl, rfl, trivial⟩ (Sub.refl _) ?_
                    refine AO.calmG 3 false 56 rfl rfl (congrArg (fun b => some (AV.fl (Value.bool b))) (decide_eq_false hc56)) 59 rfl (by decide) (eBool (decide (t50.2.1 ≠ t55.2.2))) (Calm.int rfl rfl rfl rfl) ?_
                    exact AO.nilE (ρ' := [(59, (eBool (decide (t50.2.1 ≠ t55.2.2))))]) ⟨⟨59, _, rfl, rfl, rfl⟩, Sub.refl _⟩ ⟨rfl, trivial⟩ (Sub.refl _)
                  · refine StepE.calm (fun _ _ => rfl) fun L σ hc hi hd => ?_
                    refine AO.weak (ρ' := [(56, (eBool (decide (t50.1 ≠ t55.2.1)))), (59, (eBool (decide (t50.2.1 ≠ t55.2.2))))]) ⟨rfl, rfl, trivial⟩ (Sub.refl _) ?_
                    refine AO.calm rfl 60 rfl (by decide) (eBool (decide (t50.2.1 ≠ t55.2.2))) (Calm.pickF rfl (congrArg (fun b => some (AV.fl (Value.bool b))) (decide_eq_false hc56)) rfl) ?_
                    exact AO.nilE (ρ' := [(60, (eBool (decide (t50.2.1 ≠ t55.2.2))))]) ⟨⟨60, _, rfl, rfl, rfl⟩, Sub.refl _⟩ ⟨rfl, trivial⟩ (Sub.refl _)
                  · refine StepE.calm (fun _ _ => rfl) fun L σ hc hi hd => ?_
                    refine AO.weak (ρ' := [(60, (eBool (decide (t50.2.1 ≠ t55.2.2))))]) ⟨rfl, trivial⟩ (Sub.refl _) ?_
                    refine AO.calm rfl 61 rfl (by decide) (eBool (decide (t50.2.1 ≠ t55.2.2))) (Calm.move rfl rfl) ?_
                    exact AO.nilE (ρ' := [(61, (eBool (decide (t50.2.1 ≠ t55.2.2))))]) ⟨⟨61, _, rfl, rfl, rfl⟩, Sub.refl _⟩ ⟨rfl, trivial⟩ (Sub.refl _)
                  · refine StepE.calm (fun _ _ => rfl) fun L σ hc hi hd => ?_
                    refine AO.weak (ρ' := [(7, (.ptr n13 0)), (61, (eBool (decide (t50.2.1 ≠ t55.2.2))))]) ⟨rfl, rfl, trivial⟩ (Sub.refl _) ?_
                    refine AO.calmG 8 false 61 rfl rfl (congrArg (fun b => some (AV.fl (Value.bool b))) (decide_eq_false hc57)) 62 rfl (by decide) (.ptr n13 0) (Calm.move rfl rfl) ?_
                    exact AO.nilE (ρ' := [(62, (.ptr n13 0))]) ⟨⟨62, _, rfl, rfl, rfl⟩, Sub.refl _⟩ ⟨rfl, trivial⟩ (Sub.refl _)
                  · refine StepE.calm (fun _ _ => rfl) fun L σ hc hi hd => ?_
                    refine AO.weak (ρ' := [(61, (eBool (decide (t50.2.1 ≠ t55.2.2)))), (62, (.ptr n13 0))]) ⟨rfl, rfl, trivial⟩ (Sub.refl _) ?_
                    refine AO.unguard 8 false 61 rfl rfl (congrArg (fun b => some (AV.fl (Value.bool b))) (decide_eq_false hc57)) ?_
                    refine AO.callH [(.ptr n13 0)] [(n13, (.mem (.st [(1, (.own n52 0 t50.2.2.f0.length)), (1, (.mp n53))]))), (n52, (.mem (.ar 1 (t50.2.2.f0.map eStr)))), (n53, (.map (encM Value.string eI64 t50.2.2.f1)))] _ rfl rfl rfl 63 rfl (by decide) ok28 ⟨rfl, rfl, trivial⟩ (Sub.cons 0 rfl (Sub.cons 0 rfl (Sub.cons 0 rfl (Sub.refl _)))) (symbols_Table_Len_spec et58) ?_
                    rintro _ _ ⟨rfl, hs59⟩
                    refine AO.weak (ρ' := [(61, (eBool (decide (t50.2.1 ≠ t55.2.2)))), (62, (.ptr n13 0)), (63, (eI64 t58))]) (H' := [(n13, (.mem (.st [(1, (.own n52 0 t50.2.2.f0.length)), (1, (.mp n53))]))), (n52, (.mem (.ar 1 (t50.2.2.f0.map eStr)))), (n53, (.map (encM Value.string eI64 t50.2.2.f1)))]) ⟨rfl, rfl, rfl, trivial⟩ hs59 ?_
                    exact AO.nilE (ρ' := [(63, (eI64 t58))]) ⟨⟨63, _, rfl, rfl, rfl⟩, Sub.refl _⟩ ⟨rfl, trivial⟩ (Sub.refl _)
                  · refine StepE.calm (fun _ _ => rfl) fun L σ hc hi hd => ?_
                    refine AO.weak (ρ' := [(8, (.fz 1 (t55.1.map eStr))), (61, (eBool (decide (t50.2.1 ≠ t55.2.2))))]) ⟨rfl, rfl, trivial⟩ (Sub.refl _) ?_
                    refine AO.calmG 8 false 61 rfl rfl (congrArg (fun b => some (AV.fl (Value.bool b))) (decide_eq_false hc57)) 64 rfl (by decide) (.fz 1 (t55.1.map eStr)) (Calm.move rfl rfl) ?_
                    exact AO.nilE (ρ' := [(64, (.fz 1 (t55.1.map eStr)))]) ⟨⟨64, _, rfl, rfl, rfl⟩, Sub.refl _⟩ ⟨rfl, trivial⟩ (Sub.refl _)
                  · refine StepE.calm (fun _ _ => rfl) fun L σ hc hi hd => ?_
                    refine AO.weak (ρ' := [(61, (eBool (decide (t50.2.1 ≠ t55.2.2)))), (64, (.fz 1 (t55.1.map eStr)))]) ⟨rfl, rfl, trivial⟩ (Sub.refl _) ?_
                    refine AO.calmG 8 false 61 rfl rfl (congrArg (fun b => some (AV.fl (Value.bool b))) (decide_eq_false hc57)) 65 rfl (by decide) (eI64 (t55.1.length : Int)) (Calm.lenL rfl rfl Try.underlying37) ?_
                    exact AO.nilE (ρ' := [(65, (eI64 (t55.1.length : Int)))]) ⟨⟨65, _, rfl, rfl, rfl⟩, Sub.refl _⟩ ⟨rfl, trivial⟩ (Sub.refl _)
                  · refine StepE.calm (fun _ _ => rfl) fun L σ hc hi hd => ?_
                    refine AO.weak (ρ' := [(61, (eBool (decide (t50.2.1 ≠ t55.2.2)))), (63, (eI64 t58)), (65, (eI64 (t55.1.length : Int)))]) ⟨rfl, rfl, rfl, trivial⟩ (Sub.refl _) ?_
                    refine AO.calmG 8 false 61 rfl rfl (congrArg (fun b => some (AV.fl (Value.bool b))) (decide_eq_false hc57)) 66 rfl (by decide) (eBool (decide (t58 ≠ (t55.1.length : Int)))) (Calm.int rfl rfl rfl rfl) ?_
                    exact AO.nilE (ρ' := [(66, (eBool (decide (t58 ≠ (t55.1.length : Int)))))]) ⟨⟨66, _, rfl, rfl, rfl⟩, Sub.refl _⟩ ⟨rfl, trivial⟩ (Sub.refl _)
                  · refine StepE.calm (fun _ _ => rfl) fun L σ hc hi hd => ?_
                    refine AO.weak (ρ' := [(61, (eBool (decide (t50.2.1 ≠ t55.2.2)))), (66, (eBool (decide (t58 ≠ (t55.1.length : Int)))))]) ⟨rfl, rfl, trivial⟩ (Sub.refl _) ?_
                    refine AO.calm rfl 67 rfl (by decide) (eBool (decide (t58 ≠ (t55.1.length : Int)))) (Calm.pickF rfl (congrArg (fun b => some (AV.fl (Value.bool b))) (decide_eq_false hc57)) rfl) ?_
                    exact AO.nilE (ρ' := [(67, (eBool (decide (t58 ≠ (t55.1.length : Int)))))]) ⟨⟨67, _, rfl, rfl, rfl⟩, Sub.refl _⟩ ⟨rfl, trivial⟩ (Sub.refl _)
                  · refine StepE.calm (fun _ _ => rfl) fun L σ hc hi hd => ?_
                    refine AO.weak (ρ' := [(67, (eBool (decide (t58 ≠ (t55.1.length : Int)))))]) ⟨rfl, trivial⟩ (Sub.refl _) ?_
                    refine AO.calm rfl 68 rfl (by decide) (eBool (decide (t58 ≠ (t55.1.length : Int)))) (Calm.move rfl rfl) ?_
                    exact AO.nilE (ρ' := [(68, (eBool (decide (t58 ≠ (t55.1.length : Int)))))]) ⟨⟨68, _, rfl, rfl, rfl⟩, Sub.refl _⟩ ⟨rfl, trivial⟩ (Sub.refl _)
                  · refine StepE.calm (fun _ _ => rfl) fun L σ hc hi hd => ?_
                    refine AO.weak (ρ' := [(68, (eBool (decide (t58 ≠ (t55.1.length : Int)))))]) ⟨rfl, trivial⟩ (Sub.refl _) ?_
                    refine AO.skipG 15 true 68 rfl rfl (congrArg (fun b => some (AV.fl (Value.bool b))) (decide_eq_true hc60)) 69 rfl (by decide) ?_
                    exact AO.nilE (ρ' := [(69, (.fl undef))]) ⟨⟨69, _, rfl, rfl, rfl⟩, Sub.refl _⟩ ⟨rfl, trivial⟩ (Sub.refl _)
                  · refine StepE.calm (fun _ _ => rfl) fun L σ hc hi hd => ?_
                    refine AO.weak (ρ' := [(68, (eBool (decide (t58 ≠ (t55.1.length : Int)))))]) ⟨rfl, trivial⟩ (Sub.refl _) ?_
                    refine AO.skipG 15 true 68 rfl rfl (congrArg (fun b => some (AV.fl (Value.bool b))) (decide_eq_true hc60)) 70 rfl (by decide) ?_
                    exact AO.nilE (ρ' := [(70, (.fl undef))]) ⟨⟨70, _, rfl, rfl, rfl⟩, Sub.refl _⟩ ⟨rfl, trivial⟩ (Sub.refl _)
                  · refine StepE.calm (fun _ _ => rfl) fun L σ hc hi hd => ?_
                    refine AO.weak (ρ' := [(68, (eBool (decide (t58 ≠ (t55.1.length : Int)))))]) ⟨rfl, trivial⟩ (Sub.refl _) ?_
                    refine AO.skipG 15 true 68 rfl rfl (congrArg (fun b => some (AV.fl (Value.bool b))) (decide_eq_true hc60)) 71 rfl (by decide) ?_
                    exact AO.nilE (ρ' := [(71, (.fl undef))]) ⟨⟨71, _, rfl, rfl, rfl⟩, Sub.refl _⟩ ⟨rfl, trivial⟩ (Sub.refl _)
                  · refine StepE.calm (fun _ _ => rfl) fun L σ hc hi hd => ?_
                    refine AO.weak (ρ' := [(68, (eBool (decide (t58 ≠ (t55.1.length : Int)))))]) ⟨rfl, trivial⟩ (Sub.refl _) ?_
                    refine AO.skipG 15 true 68 rfl rfl (congrArg (fun b => some (AV.fl (Value.bool b))) (decide_eq_true hc60)) 72 rfl (by decide) ?_
                    exact AO.nilE (ρ' := [(72, (.fl undef))]) ⟨⟨72, _, rfl, rfl, rfl⟩, Sub.refl _⟩ ⟨rfl, trivial⟩ (Sub.refl _)
                  · refine StepE.calm (fun _ _ => rfl) fun L σ hc hi hd => ?_
                    refine AO.weak (ρ' := [(68, (eBool (decide (t58 ≠ (t55.1.length : Int)))))]) ⟨rfl, trivial⟩ (Sub.refl _) ?_
                    refine AO.skipG 15 true 68 rfl rfl (congrArg (fun b => some (AV.fl (Value.bool b))) (decide_eq_true hc60)) 73 rfl (by decide) ?_
                    exact AO.nilE (ρ' := [(73, (.fl undef))]) ⟨⟨73, _, rfl, rfl, rfl⟩, Sub.refl _⟩ ⟨rfl, trivial⟩ (Sub.refl _)
                  · refine StepE.calm (fun _ _ => rfl) fun L σ hc hi hd => ?_
                    refine AO.weak (ρ' := [(68, (eBool (decide (t58 ≠ (t55.1.length : Int)))))]) ⟨rfl, trivial⟩ (Sub.refl _) ?_
                    refine AO.skipG 15 true 68 rfl rfl (congrArg (fun b => some (AV.fl (Value.bool b))) (decide_eq_true hc60)) 74 rfl (by decide) ?_
                    exact AO.nilE (ρ' := [(74, (.fl undef))]) ⟨⟨74, _, rfl, rfl, rfl⟩, Sub.refl _⟩ ⟨rfl, trivial⟩ (Sub.refl _)
                  · refine StepE.calm (fun _ _ => rfl) fun L σ hc hi hd => ?_
                    refine AO.weak (ρ' := [(68, (eBool (decide (t58 ≠ (t55.1.length : Int)))))]) ⟨rfl, trivial⟩ (Sub.refl _) ?_
                    refine AO.skipG 15 true 68 rfl rfl (congrArg (fun b => some (AV.fl (Value.bool b))) (decide_eq_true hc60)) 75 rfl (by decide) ?_
                    exact AO.nilE (ρ' := [(75, (.fl undef))]) ⟨⟨75, _, rfl, rfl, rfl⟩, Sub.refl _⟩ ⟨rfl, trivial⟩ (Sub.refl _)
                  · refine StepE.calm (fun _ _ => rfl) fun L σ hc hi hd => ?_
                    refine AO.weak (ρ' := [(68, (eBool (decide (t58 ≠ (t55.1.length : Int)))))]) ⟨rfl, trivial⟩ (Sub.refl _) ?_
                    refine AO.skipG 15 true 68 rfl rfl (congrArg (fun b => some (AV.fl (Value.bool b))) (decide_eq_true hc60)) 76 rfl (by decide) ?_
                    exact AO.nilE (ρ' := [(76, (.fl undef))]) ⟨⟨76, _, rfl, rfl, rfl⟩, Sub.refl _⟩ ⟨rfl, trivial⟩ (Sub.refl _)
                  · refine StepE.calm (fun _ _ => rfl) fun L σ hc hi hd => ?_
                    refine AO.weak (ρ' := [(68, (eBool (decide (t58 ≠ (t55.1.length : Int)))))]) ⟨rfl, trivial⟩ (Sub.refl _) ?_
                    refine AO.skipG 15 true 68 rfl rfl (congrArg (fun b => some (AV.fl (Value.bool b))) (decide_eq_true hc60)) 77 rfl (by decide) ?_
                    exact AO.nilE (ρ' := [(77, (.fl undef))]) ⟨⟨77, _, rfl, rfl, rfl⟩, Sub.refl _⟩ ⟨rfl, trivial⟩ (Sub.refl _)
                  · refine StepE.calm (fun _ _ => rfl) fun L σ hc hi hd => ?_
                    refine AO.weak (ρ' := [(68, (eBool (decide (t58 ≠ (t55.1.length : Int)))))]) ⟨rfl, trivial⟩ (Sub.refl _) ?_
                    refine AO.skipG 15 true 68 rfl rfl (congrArg (fun b => some (AV.fl (Value.bool b))) (decide_eq_true hc60)) 78 rfl (by decide) ?_
                    exact AO.nilE (ρ' := [(78, (.fl undef))]) ⟨⟨78, _, rfl, rfl, rfl⟩, Sub.refl _⟩ ⟨rfl, trivial⟩ (Sub.refl _)
                  · refine StepE.calm (fun _ _ => rfl) fun L σ hc hi hd => ?_
                    refine AO.weak (ρ' := [(68, (eBool (decide (t58 ≠ (t55.1.length : Int)))))]) ⟨rfl, trivial⟩ (Sub.refl _) ?_
                    refine AO.skipG 15 true 68 rfl rfl (congrArg (fun b => some (AV.fl (Value.bool b))) (decide_eq_true hc60)) 79 rfl (by decide) ?_
                    exact AO.nilE (ρ' := [(79, (.fl undef))]) ⟨⟨79, _, rfl, rfl, rfl⟩, Sub.refl _⟩ ⟨rfl, trivial⟩ (Sub.refl _)
                  · refine StepE.calm (fun _ _ => rfl) fun L σ hc hi hd => ?_
                    refine AO.weak (ρ' := [(68, (eBool (decide (t58 ≠ (t55.1.length : Int)))))]) ⟨rfl, trivial⟩ (Sub.refl _) ?_
                    refine AO.skipG 15 true 68 rfl rfl (congrArg (fun b => some (AV.fl (Value.bool b))) (decide_eq_true hc60)) 80 rfl (by decide) ?_
                    exact AO.nilE (ρ' := [(80, (.fl undef))]) ⟨⟨80, _, rfl, rfl, rfl⟩, Sub.refl _⟩ ⟨rfl, trivial⟩ (Sub.refl _)
                  · refine StepE.calm (fun _ _ => rfl) fun L σ hc hi hd => ?_
                    refine AO.weak (ρ' := [(68, (eBool (decide (t58 ≠ (t55.1.length : Int)))))]) ⟨rfl, trivial⟩ (Sub.refl _) ?_
                    refine AO.skipG 15 true 68 rfl rfl (congrArg (fun b => some (AV.fl (Value.bool b))) (decide_eq_true hc60)) 81 rfl (by decide) ?_
                    exact AO.nilE (ρ' := [(81, (.fl undef))]) ⟨⟨81, _, rfl, rfl, rfl⟩, Sub.refl _⟩ ⟨rfl, trivial⟩ (Sub.refl _)
                  · refine StepE.calm (fun _ _ => rfl) fun L σ hc hi hd => ?_
                    refine AO.weak (ρ' := [(68, (eBool (decide (t58 ≠ (t55.1.length : Int))))), (81, (.fl undef))]) ⟨rfl, rfl, trivial⟩ (Sub.refl _) ?_
                    refine AO.calm rfl 82 rfl (by decide) (eBool true) (Calm.pickT rfl (congrArg (fun b => some (AV.fl (Value.bool b))) (decide_eq_true hc60)) rfl) ?_
                    exact AO.nilE (ρ' := [(82, (eBool true))]) ⟨⟨82, _, rfl, rfl, rfl⟩, Sub.refl _⟩ ⟨rfl, trivial⟩ (Sub.refl _)
                  · refine AO.nil (ρ' := [(0, (.fz 1 (p0.map eStr))), (1, (eStr p1)), (2, (eI64 p2)), (7, (.ptr n13 0)), (8, (.fz 1 (t55.1.map eStr))), (9, (eI64 x45)), (82, (eBool true))]) (H' := [(n13, (.mem (.st [(1, (.own n52 0 t50.2.2.f0.length)), (1, (.mp n53))]))), (n52, (.mem (.ar 1 (t50.2.2.f0.map eStr)))), (n53, (.map (encM Value.string eI64 t50.2.2.f1)))]) ⟨rfl, rfl, rfl, rfl, rfl, rfl, rfl, trivial⟩ (Sub.refl _) ?_
                    refine AW.condT rfl ?_
                    refine AW.seq ?_
                    refine AW.reg ?_
                    refine AO.calm rfl 6 rfl (by decide) (eBool false) (Calm.assign rfl rfl) ?_
                    refine AO.nil (ρ' := [(6, (eBool false))]) (H' := []) ⟨rfl, trivial⟩ (Sub.nil _) ?_
                    refine AW.ret (ρ' := [(6, (eBool false))]) (H' := []) ⟨rfl, trivial⟩ (Sub.refl _) ?_
                    have hr := Option.some.inj h
                    subst hr
                    exact ⟨[(eBool false)], ⟨rfl, rfl, trivial⟩, rfl⟩
                · have h := (if_neg hc60).symm.trans h
                  obtain ⟨hg61, h⟩ := of_guard h
                  obtain ⟨t62, et62, h⟩ := of_bind h
                  obtain ⟨hg64, h⟩ := of_guard h
                  obtain ⟨t65, et65, h⟩ := of_bind h
                  refine AW.regEff (by rfl) (by decide +kernel) (fun (σ : Nat → Nat) => ([(eI64 t50.1), (eI64 t55.2.1), (eBool (decide (t50.1 ≠ t55.2.1))), (eBool (decide (t50.1 ≠ t55.2.1))), (eI64 t50.2.1), (eI64 t55.2.2), (eBool (decide (t50.2.1 ≠ t55.2.2))), (eBool (decide (t50.2.1 ≠ t55.2.2))), (eBool (decide (t50.2.1 ≠ t55.2.2))), (.ptr n13 0), (eI64 t58), (.fz 1 (t55.1.map eStr)), (eI64 (t55.1.length : Int)), (eBool (decide (t58 ≠ (t55.1.length : Int)))), (eBool (decide (t58 ≠ (t55.1.length : Int)))), (eBool (decide (t58 ≠ (t55.1.length : Int)))), (.ptr n13 0), (.fz 1 (p0.map eStr)), (eI64 x45), (.rp (eStr (lget p0 x45))), (eStr (lget p0 x45)), (eI64 t62), (.fz 1 (t55.1.map eStr)), (.fz 1 (p0.map eStr)), (eI64 x45), (.rp (eStr (lget p0 x45))), (eStr (lget p0 x45)), (eI64 t65), (eBool (decide (t62 ≠ t65))), (eBool (decide (t62 ≠ t65)))] : List AV)) (fun (L : Nat → Bool) (σ : Nat → Nat) => ((n13, (.mem (.st [(1, (.own n52 0 t50.2.2.f0.length)), (1, (.mp n53))]))) :: (n52, (.mem (.ar 1 (t50.2.2.f0.map eStr)))) :: (n53, (.map (encM Value.string eI64 t50.2.2.f1))) :: ([]) : Heap)) [(0, (.fz 1 (p0.map eStr))), (1, (eStr p1)), (2, (eI64 p2)), (7, (.ptr n13 0)), (8, (.fz 1 (t55.1.map eStr))), (9, (eI64 x45)), (10, (eI64 t50.1)), (11, (eI64 t50.2.1)), (13, (eI64 t55.2.1)), (14, (eI64 t55.2.2))] ⟨rfl, rfl, rfl, rfl, rfl, rfl, rfl, rfl, rfl, rfl, trivial⟩ (fun _ => rfl) (fun σ => (Sub.refl _)) ⟨?_, ?_, ?_, ?_, ?_, ?_, ?_, ?_, ?_, ?_, ?_, ?_, ?_, ?_, ?_, ?_, ?_, ?_, ?_, ?_, ?_, ?_, ?_, ?_, ?_, ?_, ?_, ?_, ?_, ?_, trivial⟩ (fun σ => [(0, (.fz 1 (p0.map eStr))), (1, (eStr p1)), (2, (eI64 p2)), (7, (.ptr n13 0)), (8, (.fz 1 (t55.1.map eStr))), (9, (eI64 x45)), (82, (eBool (decide (t62 ≠ t65))))]) (fun σ => ((n13, (.mem (.st [(1, (.own n52 0 t50.2.2.f0.length)), (1, (.mp n53))]))) :: (n52, (.mem (.ar 1 (t50.2.2.f0.map eStr)))) :: (n53, (.map (encM Value.string eI64 t50.2.2.f1))) :: [])) (fun σ => ⟨rfl, rfl, rfl, rfl, rfl, rfl, rfl, trivial⟩) (fun σ => Sub.refl _) (fun σ => ?_)
                  · refine StepE.calm (fun _ _ => rfl) fun L σ hc hi hd => ?_
                    refine AO.weak (ρ' := [(10, (eI64 t50.1))]) ⟨rfl, trivial⟩ (Sub.refl _) ?_
                    refine AO.calm rfl 53 rfl (by decide) (eI64 t50.1) (Calm.move rfl rfl) ?_
                    exact AO.nilE (ρ' := [(53, (eI64 t50.1))]) ⟨⟨53, _, rfl, rfl, rfl⟩, Sub.refl _⟩ ⟨rfl, trivial⟩ (Sub.refl _)
                  · refine StepE.calm (fun _ _ => rfl) fun L σ hc hi hd => ?_
                    refine AO.weak (ρ' := [(13, (eI64 t55.2.1))]) ⟨rfl, trivial⟩ (Sub.refl _) ?_
                    refine AO.calm rfl 54 rfl (by decide) (eI64 t55.2.1) (Calm.move rfl rfl) ?_
                    exact AO.nilE (ρ' := [(54, (eI64 t55.2.1))]) ⟨⟨54, _, rfl, rfl, rfl⟩, Sub.refl _⟩ ⟨rfl, trivial⟩ (Sub.refl _)
                  · refine StepE.calm (fun _ _ => rfl) fun L σ hc hi hd => ?_
                    refine AO.weak (ρ' := [(53, (eI64 t50.1)), (54, (eI64 t55.2.1))]) ⟨rfl, rfl, trivial⟩ (Sub.refl _) ?_
                    refine AO.calm rfl 55 rfl (by decide) (eBool (decide (t50.1 ≠ t55.2.1))) (Calm.int rfl rfl rfl rfl) ?_
                    exact AO.nilE (ρ' := [(55, (eBool (decide (t50.1 ≠ t55.2.1))))]) ⟨⟨55, _, rfl, rfl, rfl⟩, Sub.refl _⟩ ⟨rfl, trivial⟩ (Sub.refl _)
                  · refine StepE.calm (fun _ _ => rfl) fun L σ hc hi hd => ?_
                    refine AO.weak (ρ' := [(55, (eBool (decide (t50.1 ≠ t55.2.1))))]) ⟨rfl, trivial⟩ (Sub.refl _) ?_
                    refine AO.calm rfl 56 rfl (by decide) (eBool (decide (t50.1 ≠ t55.2.1))) (Calm.move rfl rfl) ?_
                    exact AO.nilE (ρ' := [(56, (eBool (decide (t50.1 ≠ t55.2.1))))]) ⟨⟨56, _, rfl, rfl, rfl⟩, Sub.refl _⟩ ⟨rfl, trivial⟩ (Sub.refl _)
                  · refine StepE.calm (fun _ _ => rfl) fun L σ hc hi hd => ?_
                    refine AO.weak (ρ' := [(11, (eI64 t50.2.1)), (56, (eBool (decide (t50.1 ≠ t55.2.1))))]) ⟨rfl, rfl, trivial⟩ (Sub.refl _) ?_
                    refine AO.calmG 3 false 56 rfl rfl (congrArg (fun b => some (AV.fl (Value.bool b))) (decide_eq_false hc56)) 57 rfl (by decide) (eI64 t50.2.1) (Calm.move rfl rfl) ?_
                    exact AO.nilE (ρ' := [(57, (eI64 t50.2.1))]) ⟨⟨57, _, rfl, rfl, rfl⟩, Sub.refl _⟩ ⟨rfl, trivial⟩ (Sub.refl _)
                  · refine StepE.calm (fun _ _ => rfl) fun L σ hc hi hd => ?_
                    refine AO.weak (ρ' := [(14, (eI64 t55.2.2)), (56, (eBool (decide (t50.1 ≠ t55.2.1))))]) ⟨rfl, rfl, trivial⟩ (Sub.refl _) ?_
                    refine AO.calmG 3 false 56 rfl rfl (congrArg (fun b => some (AV.fl (Value.bool b))) (decide_eq_false hc56)) 58 rfl (by decide) (eI64 t55.2.2) (Calm.move rfl rfl) ?_
                    exact AO.nilE (ρ' := [(58, (eI64 t55.2.2))]) ⟨⟨58, _, rfl, rfl, rfl⟩, Sub.refl _⟩ ⟨rfl, trivial⟩ (Sub.refl _)
                  · refine StepE.calm (fun _ _ => rfl) fun L σ hc hi hd => ?_
                    refine AO.weak (ρ' := [(56, (eBool (decide (t50.1 ≠ t55.2.1)))), (57, (eI64 t50.2.1)), (58, (eI64 t55.2.2))]) ⟨rfl, rfl, rfl, trivial⟩ (Sub.refl _) ?_
                    refine AO.calmG 3 false 56 rfl rfl (congrArg (fun b => some (AV.fl (Value.bool b))) (decide_eq_false hc56)) 59 rfl (by decide) (eBool (decide (t50.2.1 ≠ t55.2.2))) (Calm.int rfl rfl rfl rfl) ?_
                    exact AO.nilE (ρ' := [(59, (eBool (decide (t50.2.1 ≠ t55.2.2))))]) ⟨⟨59, _, rfl, rfl, rfl⟩, Sub.refl _⟩ ⟨rfl, trivial⟩ (Sub.refl _)
                  · refine StepE.calm (fun _ _ => rfl) fun L σ hc hi hd => ?_
                    refine AO.weak (ρ' := [(56, (eBool (decide (t50.1 ≠ t55.2.1)))), (59, (eBool (decide (t50.2.1 ≠ t55.2.2))))]) ⟨rfl, rfl, trivial⟩ (Sub.refl _) ?_
                    refine AO.calm rfl 60 rfl (by decide) (eBool (decide (t50.2.1 ≠ t55.2.2))) (Calm.pickF rfl (congrArg (fun b => some (AV.fl (Value.bool b))) (decide_eq_false hc56)) rfl) ?_
                    exact AO.nilE (ρ' := [(60, (eBool (decide (t50.2.1 ≠ t55.2.2))))]) ⟨⟨60, _, rfl, rfl, rfl⟩, Sub.refl _⟩ ⟨rfl, trivial⟩ (Sub.refl _)
                  · refine StepE.calm (fun _ _ => rfl) fun L σ hc hi hd => ?_
                    refine AO.weak (ρ' := [(60, (eBool (decide (t50.2.1 ≠ t55.2.2))))]) ⟨rfl, trivial⟩ (Sub.refl _) ?_
                    refine AO.calm rfl 61 rfl (by decide) (eBool (decide (t50.2.1 ≠ t55.2.2))) (Calm.move rfl rfl) ?_
                    exact AO.nilE (ρ' := [(61, (eBool (decide (t50.2.1 ≠ t55.2.2))))]) ⟨⟨61, _, rfl, rfl, rfl⟩, Sub.refl _⟩ ⟨rfl, trivial⟩ (Sub.refl _)
                  · refine StepE.calm (fun _ _ => rfl) fun L σ hc hi hd => ?_
                    refine AO.weak (ρ' := [(7, (.ptr n13 0)), (61, (eBool (decide (t50.2.1 ≠ t55.2.2))))]) ⟨rfl, rfl, trivial⟩ (Sub.refl _) ?_
                    refine AO.calmG 8 false 61 rfl rfl (congrArg (fun b => some (AV.fl (Value.bool b))) (decide_eq_false hc57)) 62 rfl (by decide) (.ptr n13 0) (Calm.move rfl rfl) ?_
                    exact AO.nilE (ρ' := [(62, (.ptr n13 0))]) ⟨⟨62, _, rfl, rfl, rfl⟩, Sub.refl _⟩ ⟨rfl, trivial⟩ (Sub.refl _)
                  · refine StepE.calm (fun _ _ => rfl) fun L σ hc hi hd => ?_
                    refine AO.weak (ρ' := [(61, (eBool (decide (t50.2.1 ≠ t55.2.2)))), (62, (.ptr n13 0))]) ⟨rfl, rfl, trivial⟩ (Sub.refl _) ?_
                    refine AO.unguard 8 false 61 rfl rfl (congrArg (fun b => some (AV.fl (Value.bool b))) (decide_eq_false hc57)) ?_
                    refine AO.callH [(.ptr n13 0)] [(n13, (.mem (.st [(1, (.own n52 0 t50.2.2.f0.length)), (1, (.mp n53))]))), (n52, (.mem (.ar 1 (t50.2.2.f0.map eStr)))), (n53, (.map (encM Value.string eI64 t50.2.2.f1)))] _ rfl rfl rfl 63 rfl (by decide) ok28 ⟨rfl, rfl, trivial⟩ (Sub.cons 0 rfl (Sub.cons 0 rfl (Sub.cons 0 rfl (Sub.refl _)))) (symbols_Table_Len_spec et58) ?_
                    rintro _ _ ⟨rfl, hs59⟩
                    refine AO.weak (ρ' := [(61, (eBool (decide (t50.2.1 ≠ t55.2.2)))), (62, (.ptr n13 0)), (63, (eI64 t58))]) (H' := [(n13, (.mem (.st [(1, (.own n52 0 t50.2.2.f0.length)), (1, (.mp n53))]))), (n52, (.mem (.ar 1 (t50.2.2.f0.map eStr)))), (n53, (.map (encM Value.string eI64 t50.2.2.f1)))]) ⟨rfl, rfl, rfl, trivial⟩ hs59 ?_
                    exact AO.nilE (ρ' := [(63, (eI64 t58))]) ⟨⟨63, _, rfl, rfl, rfl⟩, Sub.refl _⟩ ⟨rfl, trivial⟩ (Sub.refl _)
                  · refine StepE.calm (fun _ _ => rfl) fun L σ hc hi hd => ?_
                    refine AO.weak (ρ' := [(8, (.fz 1 (t55.1.map eStr))), (61, (eBool (decide (t50.2.1 ≠ t55.2.2))))]) ⟨rfl, rfl, trivial⟩ (Sub.refl _) ?_
                    refine AO.calmG 8 false 61 rfl rfl (congrArg (fun b => some (AV.fl (Value.bool b))) (decide_eq_false hc57)) 64 rfl (by decide) (.fz 1 (t55.1.map eStr)) (Calm.move rfl rfl) ?_
                    exact AO.nilE (ρ' := [(64, (.fz 1 (t55.1.map eStr)))]) ⟨⟨64, _, rfl, rfl, rfl⟩, Sub.refl _⟩ ⟨rfl, trivial⟩ (Sub.refl _)
                  · refine StepE.calm (fun _ _ => rfl) fun L σ hc hi hd => ?_
                    refine AO.weak (ρ' := [(61, (eBool (decide (t50.2.1 ≠ t55.2.2)))), (64, (.fz 1 (t55.1.map eStr)))]) ⟨rfl, rfl, trivial⟩ (Sub.refl _) ?_
                    refine AO.calmG 8 false 61 rfl rfl (congrArg (fun b => some (AV.fl (Value.bool b))) (decide_eq_false hc57)) 65 rfl (by decide) (eI64 (t55.1.length : Int)) (Calm.lenL rfl rfl Try.underlying37) ?_
                    exact AO.nilE (ρ' := [(65, (eI64 (t55.1.length : Int)))]) ⟨⟨65, _, rfl, rfl, rfl⟩, Sub.refl _⟩ ⟨rfl, trivial⟩ (Sub.refl _)
                  · refine StepE.calm (fun _ _ => rfl) fun L σ hc hi hd => ?_
                    refine AO.weak (ρ' := [(61, (eBool (decide (t50.2.1 ≠ t55.2.2)))), (63, (eI64 t58)), (65, (eI64 (t55.1.length : Int)))]) ⟨rfl, rfl, rfl, trivial⟩ (Sub.refl _) ?_
                    refine AO.calmG 8 false 61 rfl rfl (congrArg (fun b => some (AV.fl (Value.bool b))) (decide_eq_false hc57)) 66 rfl (by decide) (eBool (decide (t58 ≠ (t55.1.length : Int)))) (Calm.int rfl rfl rfl rfl) ?_
                    exact AO.nilE (ρ' := [(66, (eBool (decide (t58 ≠ (t55.1.length : Int)))))]) ⟨⟨66, _, rfl, rfl, rfl⟩, Sub.refl _⟩ ⟨rfl, trivial⟩ (Sub.refl _)
                  · refine StepE.calm (fun _ _ => rfl) fun L σ hc hi hd => ?_
                    refine AO.weak (ρ' := [(61, (eBool (decide (t50.2.1 ≠ t55.2.2)))), (66, (eBool (decide (t58 ≠ (t55.1.length : Int)))))]) ⟨rfl, rfl, trivial⟩ (Sub.refl _) ?_
                    refine AO.calm rfl 67 rfl (by decide) (eBool (decide (t58 ≠ (t55.1.length : Int)))) (Calm.pickF rfl (congrArg (fun b => some (AV.fl (Value.bool b))) (decide_eq_false hc57)) rfl) ?_
                    exact AO.nilE (ρ' := [(67, (eBool (decide (t58 ≠ (t55.1.length : Int)))))]) ⟨⟨67, _, rfl, rfl, rfl⟩, Sub.refl _⟩ ⟨rfl, trivial⟩ (Sub.refl _)
                  · refine StepE.calm (fun _ _ => rfl) fun L σ hc hi hd => ?_
                    refine AO.weak (ρ' := [(67, (eBool (decide (t58 ≠ (t55.1.length : Int)))))]) ⟨rfl, trivial⟩ (Sub.refl _) ?_
                    refine AO.calm rfl 68 rfl (by decide) (eBool (decide (t58 ≠ (t55.1.length : Int)))) (Calm.move rfl rfl) ?_
                    exact AO.nilE (ρ' := [(68, (eBool (decide (t58 ≠ (t55.1.length : Int)))))]) ⟨⟨68, _, rfl, rfl, rfl⟩, Sub.refl _⟩ ⟨rfl, trivial⟩ (Sub.refl _)
                  · refine StepE.calm (fun _ _ => rfl) fun L σ hc hi hd => ?_
                    refine AO.weak (ρ' := [(7, (.ptr n13 0)), (68, (eBool (decide (t58 ≠ (t55.1.length : Int)))))]) ⟨rfl, rfl, trivial⟩ (Sub.refl _) ?_
                    refine AO.calmG 15 false 68 rfl rfl (congrArg (fun b => some (AV.fl (Value.bool b))) (decide_eq_false hc60)) 69 rfl (by decide) (.ptr n13 0) (Calm.move rfl rfl) ?_
                    exact AO.nilE (ρ' := [(69, (.ptr n13 0))]) ⟨⟨69, _, rfl, rfl, rfl⟩, Sub.refl _⟩ ⟨rfl, trivial⟩ (Sub.refl _)
                  · refine StepE.calm (fun _ _ => rfl) fun L σ hc hi hd => ?_
                    refine AO.weak (ρ' := [(0, (.fz 1 (p0.map eStr))), (68, (eBool (decide (t58 ≠ (t55.1.length : Int)))))]) ⟨rfl, rfl, trivial⟩ (Sub.refl _) ?_
                    refine AO.calmG 15 false 68 rfl rfl (congrArg (fun b => some (AV.fl (Value.bool b))) (decide_eq_false hc60)) 70 rfl (by decide) (.fz 1 (p0.map eStr)) (Calm.move rfl rfl) ?_
                    exact AO.nilE (ρ' := [(70, (.fz 1 (p0.map eStr)))]) ⟨⟨70, _, rfl, rfl, rfl⟩, Sub.refl _⟩ ⟨rfl, trivial⟩ (Sub.refl _)
                  · refine StepE.calm (fun _ _ => rfl) fun L σ hc hi hd => ?_
                    refine AO.weak (ρ' := [(9, (eI64 x45)), (68, (eBool (decide (t58 ≠ (t55.1.length : Int)))))]) ⟨rfl, rfl, trivial⟩ (Sub.refl _) ?_
                    refine AO.calmG 15 false 68 rfl rfl (congrArg (fun b => some (AV.fl (Value.bool b))) (decide_eq_false hc60)) 71 rfl (by decide) (eI64 x45) (Calm.move rfl rfl) ?_
                    exact AO.nilE (ρ' := [(71, (eI64 x45))]) ⟨⟨71, _, rfl, rfl, rfl⟩, Sub.refl _⟩ ⟨rfl, trivial⟩ (Sub.refl _)
                  · refine StepE.calm (fun _ _ => rfl) fun L σ hc hi hd => ?_
                    refine AO.weak (ρ' := [(68, (eBool (decide (t58 ≠ (t55.1.length : Int))))), (70, (.fz 1 (p0.map eStr))), (71, (eI64 x45))]) ⟨rfl, rfl, rfl, trivial⟩ (Sub.refl _) ?_
                    refine AO.calmG 15 false 68 rfl rfl (congrArg (fun b => some (AV.fl (Value.bool b))) (decide_eq_false hc60)) 72 rfl (by decide) (.rp (eStr (lget p0 x45))) (Calm.idxL (f := eStr) rfl rfl rfl hg61 Try.underlying37 sz9) ?_
                    exact AO.nilE (ρ' := [(72, (.rp (eStr (lget p0 x45))))]) ⟨⟨72, _, rfl, rfl, rfl⟩, Sub.refl _⟩ ⟨rfl, trivial⟩ (Sub.refl _)
                  · refine StepE.calm (fun _ _ => rfl) fun L σ hc hi hd => ?_
                    refine AO.weak (ρ' := [(68, (eBool (decide (t58 ≠ (t55.1.length : Int))))), (72, (.rp (eStr (lget p0 x45))))]) ⟨rfl, rfl, trivial⟩ (Sub.refl _) ?_
                    refine AO.calmG 15 false 68 rfl rfl (congrArg (fun b => some (AV.fl (Value.bool b))) (decide_eq_false hc60)) 73 rfl (by decide) (eStr (lget p0 x45)) (Calm.loadRp rfl rfl ag9 sz9) ?_
                    exact AO.nilE (ρ' := [(73, (eStr (lget p0 x45)))]) ⟨⟨73, _, rfl, rfl, rfl⟩, Sub.refl _⟩ ⟨rfl, trivial⟩ (Sub.refl _)
                  · refine StepE.calm (fun _ _ => rfl) fun L σ hc hi hd => ?_
                    refine AO.weak (ρ' := [(68, (eBool (decide (t58 ≠ (t55.1.length : Int))))), (69, (.ptr n13 0)), (73, (eStr (lget p0 x45)))]) ⟨rfl, rfl, rfl, trivial⟩ (Sub.refl _) ?_
                    refine AO.unguard 15 false 68 rfl rfl (congrArg (fun b => some (AV.fl (Value.bool b))) (decide_eq_false hc60)) ?_
                    refine AO.callH [(.ptr n13 0), (eStr (lget p0 x45))] [(n13, (.mem (.st [(1, (.own n52 0 t50.2.2.f0.length)), (1, (.mp n53))]))), (n52, (.mem (.ar 1 (t50.2.2.f0.map eStr)))), (n53, (.map (encM Value.string eI64 t50.2.2.f1)))] _ rfl rfl rfl 74 rfl (by decide) ok29 ⟨rfl, rfl, rfl, rfl, trivial⟩ (Sub.cons 0 rfl (Sub.cons 0 rfl (Sub.cons 0 rfl (Sub.refl _)))) (symbols_Table_Find_spec et62) ?_
                    rintro _ _ ⟨rfl, hs63⟩
                    refine AO.weak (ρ' := [(68, (eBool (decide (t58 ≠ (t55.1.length : Int))))), (69, (.ptr n13 0)), (73, (eStr (lget p0 x45))), (74, (eI64 t62))]) (H' := [(n13, (.mem (.st [(1, (.own n52 0 t50.2.2.f0.length)), (1, (.mp n53))]))), (n52, (.mem (.ar 1 (t50.2.2.f0.map eStr)))), (n53, (.map (encM Value.string eI64 t50.2.2.f1)))]) ⟨rfl, rfl, rfl, rfl, trivial⟩ hs63 ?_
                    exact AO.nilE (ρ' := [(74, (eI64 t62))]) ⟨⟨74, _, rfl, rfl, rfl⟩, Sub.refl _⟩ ⟨rfl, trivial⟩ (Sub.refl _)
                  · refine StepE.calm (fun _ _ => rfl) fun L σ hc hi hd => ?_
                    refine AO.weak (ρ' := [(8, (.fz 1 (t55.1.map eStr))), (68, (eBool (decide (t58 ≠ (t55.1.length : Int)))))]) ⟨rfl, rfl, trivial⟩ (Sub.refl _) ?_
                    refine AO.calmG 15 false 68 rfl rfl (congrArg (fun b => some (AV.fl (Value.bool b))) (decide_eq_false hc60)) 75 rfl (by decide) (.fz 1 (t55.1.map eStr)) (Calm.move rfl rfl) ?_
                    exact AO.nilE (ρ' := [(75, (.fz 1 (t55.1.map eStr)))]) ⟨⟨75, _, rfl, rfl, rfl⟩, Sub.refl _⟩ ⟨rfl, trivial⟩ (Sub.refl _)
                  · refine StepE.calm (fun _ _ => rfl) fun L σ hc hi hd => ?_
                    refine AO.weak (ρ' := [(0, (.fz 1 (p0.map eStr))), (68, (eBool (decide (t58 ≠ (t55.1.length : Int)))))]) ⟨rfl, rfl, trivial⟩ (Sub.refl _) ?_
                    refine AO.calmG 15 false 68 rfl rfl (congrArg (fun b => some (AV.fl (Value.bool b))) (decide_eq_false hc60)) 76 rfl (by decide) (.fz 1 (p0.map eStr)) (Calm.move rfl rfl) ?_
                    exact AO.nilE (ρ' := [(76, (.fz 1 (p0.map eStr)))]) ⟨⟨76, _, rfl, rfl, rfl⟩, Sub.refl _⟩ ⟨rfl, trivial⟩ (Sub.refl _)
                  · refine StepE.calm (fun _ _ => rfl) fun L σ hc hi hd => ?_
                    refine AO.weak (ρ' := [(9, (eI64 x45)), (68, (eBool (decide (t58 ≠ (t55.1.length : Int)))))]) ⟨rfl, rfl, trivial⟩ (Sub.refl _) ?_
                    refine AO.calmG 15 false 68 rfl rfl (congrArg (fun b => some (AV.fl (Value.bool b))) (decide_eq_false hc60)) 77 rfl (by decide) (eI64 x45) (Calm.move rfl rfl) ?_
                    exact AO.nilE (ρ' := [(77, (eI64 x45))]) ⟨⟨77, _, rfl, rfl, rfl⟩, Sub.refl _⟩ ⟨rfl, trivial⟩ (Sub.refl _)
                  · refine StepE.calm (fun _ _ => rfl) fun L σ hc hi hd => ?_
                    refine AO.weak (ρ' := [(68, (eBool (decide (t58 ≠ (t55.1.length : Int))))), (76, (.fz 1 (p0.map eStr))), (77, (eI64 x45))]) ⟨rfl, rfl, rfl, trivial⟩ (Sub.refl _) ?_
                    refine AO.calmG 15 false 68 rfl rfl (congrArg (fun b => some (AV.fl (Value.bool b))) (decide_eq_false hc60)) 78 rfl (by decide) (.rp (eStr (lget p0 x45))) (Calm.idxL (f := eStr) rfl rfl rfl hg64 Try.underlying37 sz9) ?_
                    exact AO.nilE (ρ' := [(78, (.rp (eStr (lget p0 x45))))]) ⟨⟨78, _, rfl, rfl, rfl⟩, Sub.refl _⟩ ⟨rfl, trivial⟩ (Sub.refl _)
                  · refine StepE.calm (fun _ _ => rfl) fun L σ hc hi hd => ?_
                    refine AO.weak (ρ' := [(68, (eBool (decide (t58 ≠ (t55.1.length : Int))))), (78, (.rp (eStr (lget p0 x45))))]) ⟨rfl, rfl, trivial⟩ (Sub.refl _) ?_
                    refine AO.calmG 15 false 68 rfl rfl (congrArg (fun b => some (AV.fl (Value.bool b))) (decide_eq_false hc60)) 79 rfl (by decide) (eStr (lget p0 x45)) (Calm.loadRp rfl rfl ag9 sz9) ?_
                    exact AO.nilE (ρ' := [(79, (eStr (lget p0 x45)))]) ⟨⟨79, _, rfl, rfl, rfl⟩, Sub.refl _⟩ ⟨rfl, trivial⟩ (Sub.refl _)
                  · refine StepE.calm (fun _ _ => rfl) fun L σ hc hi hd => ?_
                    refine AO.weak (ρ' := [(68, (eBool (decide (t58 ≠ (t55.1.length : Int))))), (75, (.fz 1 (t55.1.map eStr))), (79, (eStr (lget p0 x45)))]) ⟨rfl, rfl, rfl, trivial⟩ (Sub.refl _) ?_
                    refine AO.callG 15 false 68 [(.fz 1 (t55.1.map eStr)), (eStr (lget p0 x45))] (eI64 t65) 80 rfl (by decide) ok30 rfl rfl (congrArg (fun b => some (AV.fl (Value.bool b))) (decide_eq_false hc60)) rfl rfl ⟨rfl, rfl, rfl, rfl, trivial⟩ (bosketref16_Find_spec et65) ?_
                    exact AO.nilE (ρ' := [(80, (eI64 t65))]) ⟨⟨80, _, rfl, rfl, rfl⟩, Sub.refl _⟩ ⟨rfl, trivial⟩ (Sub.refl _)
                  · refine StepE.calm (fun _ _ => rfl) fun L σ hc hi hd => ?_
                    refine AO.weak (ρ' := [(68, (eBool (decide (t58 ≠ (t55.1.length : Int))))), (74, (eI64 t62)), (80, (eI64 t65))]) ⟨rfl, rfl, rfl, trivial⟩ (Sub.refl _) ?_
                    refine AO.calmG 15 false 68 rfl rfl (congrArg (fun b => some (AV.fl (Value.bool b))) (decide_eq_false hc60)) 81 rfl (by decide) (eBool (decide (t62 ≠ t65))) (Calm.int rfl rfl rfl rfl) ?_
                    exact AO.nilE (ρ' := [(81, (eBool (decide (t62 ≠ t65))))]) ⟨⟨81, _, rfl, rfl, rfl⟩, Sub.refl _⟩ ⟨rfl, trivial⟩ (Sub.refl _)
                  · refine StepE.calm (fun _ _ => rfl) fun L σ hc hi hd => ?_
                    refine AO.weak (ρ' := [(68, (eBool (decide (t58 ≠ (t55.1.length : Int))))), (81, (eBool (decide (t62 ≠ t65))))]) ⟨rfl, rfl, trivial⟩ (Sub.refl _) ?_
                    refine AO.calm rfl 82 rfl (by decide) (eBool (decide (t62 ≠ t65))) (Calm.pickF rfl (congrArg (fun b => some (AV.fl (Value.bool b))) (decide_eq_false hc60)) rfl) ?_
                    exact AO.nilE (ρ' := [(82, (eBool (decide (t62 ≠ t65))))]) ⟨⟨82, _, rfl, rfl, rfl⟩, Sub.refl _⟩ ⟨rfl, trivial⟩ (Sub.refl _)
                  · refine AO.nil (ρ' := [(0, (.fz 1 (p0.map eStr))), (1, (eStr p1)), (2, (eI64 p2)), (7, (.ptr n13 0)), (8, (.fz 1 (t55.1.map eStr))), (9, (eI64 x45)), (82, (eBool (decide (t62 ≠ t65))))]) (H' := [(n13, (.mem (.st [(1, (.own n52 0 t50.2.2.f0.length)), (1, (.mp n53))]))), (n52, (.mem (.ar 1 (t50.2.2.f0.map eStr)))), (n53, (.map (encM Value.string eI64 t50.2.2.f1)))]) ⟨rfl, rfl, rfl, rfl, rfl, rfl, rfl, trivial⟩ (Sub.refl _) ?_
                    by_cases hc66 : t62 ≠ t65
                    · have h := (if_pos hc66).symm.trans h
                      refine AW.condP (t62 ≠ t65) rfl hc66 ?_
                      refine AW.seq ?_
                      refine AW.reg ?_
                      refine AO.calm rfl 6 rfl (by decide) (eBool false) (Calm.assign rfl rfl) ?_
                      refine AO.nil (ρ' := [(6, (eBool false))]) (H' := []) ⟨rfl, trivial⟩ (Sub.nil _) ?_
                      refine AW.ret (ρ' := [(6, (eBool false))]) (H' := []) ⟨rfl, trivial⟩ (Sub.refl _) ?_
                      have hr := Option.some.inj h
                      subst hr
                      exact ⟨[(eBool false)], ⟨rfl, rfl, trivial⟩, rfl⟩
                    · have h := (if_neg hc66).symm.trans h
                      refine AW.condN (t62 ≠ t65) rfl hc66 ?_
                      refine AW.skip (ρ' := [(0, (.fz 1 (p0.map eStr))), (1, (eStr p1)), (2, (eI64 p2)), (7, (.ptr n13 0)), (8, (.fz 1 (t55.1.map eStr))), (9, (eI64 x45))]) (H' := [(n13, (.mem (.st [(1, (.own n52 0 t50.2.2.f0.length)), (1, (.mp n53))]))), (n52, (.mem (.ar 1 (t50.2.2.f0.map eStr)))), (n53, (.map (encM Value.string eI64 t50.2.2.f1)))]) ⟨rfl, rfl, rfl, rfl, rfl, rfl, trivial⟩ (Sub.refl _) ?_
                      refine AW.reg ?_
                      refine AO.calm rfl 31 rfl (by decide) (eI64 x45) (Calm.move rfl rfl) ?_
                      refine AO.calm rfl 32 rfl (by decide) (eI64 (w64 (x45 + (1 : Int)))) (Calm.int rfl rfl rfl rfl) ?_
                      refine AO.calm rfl 9 rfl (by decide) (eI64 (w64 (x45 + (1 : Int)))) (Calm.assign rfl rfl) ?_
                      refine AO.nil (ρ' := [(0, (.fz 1 (p0.map eStr))), (1, (eStr p1)), (2, (eI64 p2)), (7, (.ptr n13 0)), (8, (.fz 1 (t55.1.map eStr))), (9, (eI64 (w64 (x45 + (1 : Int)))))]) (H' := [(n13, (.mem (.st [(1, (.own n52 0 t50.2.2.f0.length)), (1, (.mp n53))]))), (n52, (.mem (.ar 1 (t50.2.2.f0.map eStr)))), (n53, (.map (encM Value.string eI64 t50.2.2.f1)))]) ⟨rfl, rfl, rfl, rfl, rfl, rfl, trivial⟩ (Sub.refl _) ?_
                      exact ⟨kq47, Nat.lt_succ_self _, n52, n53, t50.2.2.f0, t50.2.2.f1, t55.1, (w64 (x45 + (1 : Int))), rfl, rfl, by rw [hrec46]; exact h⟩
          · have h := (if_neg hc48).symm.trans h
            refine AW.condN (x45 < (p0.length : Int)) rfl hc48 ?_
            refine AW.exit (ρ' := [(1, (eStr p1)), (2, (eI64 p2)), (7, (.ptr n13 0)), (8, (.fz 1 (x44.map eStr)))]) (H' := [(n13, (.mem (.st [(1, (.own n40 0 x41.length)), (1, (.mp n42))]))), (n40, (.mem (.ar 1 (x41.map eStr)))), (n42, (.map (encM Value.string eI64 x43)))]) ⟨rfl, rfl, rfl, rfl, trivial⟩ (Sub.refl _) ?_
            exact ⟨n40, n42, x41, x43, x44, rfl, rfl, h⟩
        · rintro _ _ ⟨n16, n18, x17, x19, x20, rfl, rfl, h⟩
          rw [bosketlaw16_SymbolsPlays_c1.eq_1] at h
          refine AW.seq ?_
          refine AW.reg ?_
          refine AO.calm rfl 15 rfl (by decide) (eStr (ByteArray.mk #[])) (Calm.assign rfl rfl) ?_
          refine AO.nil (ρ' := [(1, (eStr p1)), (2, (eI64 p2)), (7, (.ptr n13 0)), (8, (.fz 1 (x20.map eStr))), (15, (eStr (ByteArray.mk #[])))]) (H' := [(n13, (.mem (.st [(1, (.own n16 0 x17.length)), (1, (.mp n18))]))), (n16, (.mem (.ar 1 (x17.map eStr)))), (n18, (.map (encM Value.string eI64 x19)))]) ⟨rfl, rfl, rfl, rfl, rfl, trivial⟩ (Sub.refl _) ?_
          refine AW.seq_mid (fun ρ H => ∃ (x21 : ByteArray), ρ = [(1, (eStr p1)), (2, (eI64 p2)), (7, (.ptr n13 0)), (8, (.fz 1 (x20.map eStr))), (15, (eStr x21))] ∧ H = [(n13, (.mem (.st [(1, (.own n16 0 x17.length)), (1, (.mp n18))]))), (n16, (.mem (.ar 1 (x17.map eStr)))), (n18, (.map (encM Value.string eI64 x19)))] ∧ bosketlaw16_SymbolsPlays_c0 k p1 p2 x17 x19 x20 x21 = some r) ?_ ?_
          · refine AW.seq ?_
            obtain ⟨b35, hq36, h⟩ := of_bind h
            refine AW.regM [(1, (eStr p1)), (2, (eI64 p2)), (7, (.ptr n13 0)), (8, (.fz 1 (x20.map eStr))), (15, (eStr (ByteArray.mk #[]))), (90, (eBool b35))] [(n13, (.mem (.st [(1, (.own n16 0 x17.length)), (1, (.mp n18))]))), (n16, (.mem (.ar 1 (x17.map eStr)))), (n18, (.map (encM Value.string eI64 x19)))] ?_ ?_
            · refine AO.calm rfl 83 rfl (by decide) (eI64 p2) (Calm.move rfl rfl) ?_
              refine AO.calm rfl 84 rfl (by decide) (eBool (decide ((0 : Int) ≤ p2))) (Calm.int rfl rfl rfl rfl) ?_
              refine AO.calm rfl 85 rfl (by decide) (eBool (decide ((0 : Int) ≤ p2))) (Calm.move rfl rfl) ?_
              by_cases hc37 : (0 : Int) ≤ p2
              · have hq36 := (if_pos hc37).symm.trans hq36
                refine AO.calmG 2 true 85 rfl rfl (congrArg (fun b => some (AV.fl (Value.bool b))) (decide_eq_true hc37)) 86 rfl (by decide) (eI64 p2) (Calm.move rfl rfl) ?_
                refine AO.calmG 2 true 85 rfl rfl (congrArg (fun b => some (AV.fl (Value.bool b))) (decide_eq_true hc37)) 87 rfl (by decide) (.fz 1 (x20.map eStr)) (Calm.move rfl rfl) ?_
                refine AO.calmG 2 true 85 rfl rfl (congrArg (fun b => some (AV.fl (Value.bool b))) (decide_eq_true hc37)) 88 rfl (by decide) (eI64 (x20.length : Int)) (Calm.lenL rfl rfl Try.underlying37) ?_
                refine AO.calmG 2 true 85 rfl rfl (congrArg (fun b => some (AV.fl (Value.bool b))) (decide_eq_true hc37)) 89 rfl (by decide) (eBool (decide (p2 < (x20.length : Int)))) (Calm.int rfl rfl rfl rfl) ?_
                refine AO.calm rfl 90 rfl (by decide) (eBool (decide (p2 < (x20.length : Int)))) (Calm.pickT rfl (congrArg (fun b => some (AV.fl (Value.bool b))) (decide_eq_true hc37)) rfl) ?_
                cases hq36
                refine AO.nilE ⟨rfl, rfl⟩ ?_ ?_
                · exact ⟨rfl, rfl, rfl, rfl, rfl, rfl, trivial⟩
                · exact (Sub.refl _)
              · have hq36 := (if_neg hc37).symm.trans hq36
                refine AO.skipG 2 false 85 rfl rfl (congrArg (fun b => some (AV.fl (Value.bool b))) (decide_eq_false hc37)) 86 rfl (by decide) ?_
                refine AO.skipG 2 false 85 rfl rfl (congrArg (fun b => some (AV.fl (Value.bool b))) (decide_eq_false hc37)) 87 rfl (by decide) ?_
                refine AO.skipG 2 false 85 rfl rfl (congrArg (fun b => some (AV.fl (Value.bool b))) (decide_eq_false hc37)) 88 rfl (by decide) ?_
                refine AO.skipG 2 false 85 rfl rfl (congrArg (fun b => some (AV.fl (Value.bool b))) (decide_eq_false hc37)) 89 rfl (by decide) ?_
                refine AO.calm rfl 90 rfl (by decide) (eBool false) (Calm.pickF rfl (congrArg (fun b => some (AV.fl (Value.bool b))) (decide_eq_false hc37)) rfl) ?_
                cases hq36
                refine AO.nilE ⟨rfl, rfl⟩ ?_ ?_
                · exact ⟨rfl, rfl, rfl, rfl, rfl, rfl, trivial⟩
                · exact (Sub.refl _)
            · by_cases hc38 : b35 = true
              · have h := (if_pos hc38).symm.trans h
                refine AW.condT' b35 rfl hc38 ?_
                refine AW.reg ?_
                refine AO.calm rfl 91 rfl (by decide) (.fz 1 (x20.map eStr)) (Calm.move rfl rfl) ?_
                refine AO.calm rfl 92 rfl (by decide) (eI64 p2) (Calm.move rfl rfl) ?_
                obtain ⟨hg39, h⟩ := of_guard h
                refine AO.calm rfl 93 rfl (by decide) (.rp (eStr (lget x20 p2))) (Calm.idxL (f := eStr) rfl rfl rfl hg39 Try.underlying37 sz9) ?_
                refine AO.calm rfl 94 rfl (by decide) (eStr (lget x20 p2)) (Calm.loadRp rfl rfl ag9 sz9) ?_
                refine AO.calm rfl 15 rfl (by decide) (eStr (lget x20 p2)) (Calm.assign rfl rfl) ?_
                refine AO.nil (ρ' := [(1, (eStr p1)), (2, (eI64 p2)), (7, (.ptr n13 0)), (8, (.fz 1 (x20.map eStr))), (15, (eStr (lget x20 p2)))]) (H' := [(n13, (.mem (.st [(1, (.own n16 0 x17.length)), (1, (.mp n18))]))), (n16, (.mem (.ar 1 (x17.map eStr)))), (n18, (.map (encM Value.string eI64 x19)))]) ⟨rfl, rfl, rfl, rfl, rfl, trivial⟩ (Sub.refl _) ?_
                exact ⟨(lget x20 p2), rfl, rfl, h⟩
              · have h := (if_neg hc38).symm.trans h
                refine AW.condF' b35 rfl hc38 ?_
                refine AW.skip (ρ' := [(1, (eStr p1)), (2, (eI64 p2)), (7, (.ptr n13 0)), (8, (.fz 1 (x20.map eStr))), (15, (eStr (ByteArray.mk #[])))]) (H' := [(n13, (.mem (.st [(1, (.own n16 0 x17.length)), (1, (.mp n18))]))), (n16, (.mem (.ar 1 (x17.map eStr)))), (n18, (.map (encM Value.string eI64 x19)))]) ⟨rfl, rfl, rfl, rfl, rfl, trivial⟩ (Sub.refl _) ?_
                exact ⟨(ByteArray.mk #[]), rfl, rfl, h⟩
          · rintro _ _ ⟨x21, rfl, rfl, h⟩
            rw [bosketlaw16_SymbolsPlays_c0.eq_1] at h
            refine AW.seq ?_
            obtain ⟨b22, hq23, h⟩ := of_bind h
            refine AW.regM [(6, (eBool b22))] [] ?_ ?_
            · refine AO.calm rfl 95 rfl (by decide) (.ptr n13 0) (Calm.move rfl rfl) ?_
              obtain ⟨t24, et24, hq23⟩ := of_bind hq23
              refine AO.callH [(.ptr n13 0)] [(n13, (.mem (.st [(1, (.own n16 0 x17.length)), (1, (.mp n18))]))), (n16, (.mem (.ar 1 (x17.map eStr)))), (n18, (.map (encM Value.string eI64 x19)))] _ rfl rfl rfl 96 rfl (by decide) ok24 ⟨rfl, rfl, trivial⟩ (Sub.cons 0 rfl (Sub.cons 0 rfl (Sub.cons 0 rfl (Sub.refl _)))) (symbols_Table_Names_spec et24) ?_
              rintro _ _ ⟨n26, rfl, hs25⟩
              refine AO.weak (ρ' := [(1, (eStr p1)), (2, (eI64 p2)), (7, (.ptr n13 0)), (8, (.fz 1 (x20.map eStr))), (15, (eStr x21)), (95, (.ptr n13 0)), (96, (.own n26 0 t24.length))]) (H' := [(n26, (.mem (.ar 1 (t24.map eStr)))), (n13, (.mem (.st [(1, (.own n16 0 x17.length)), (1, (.mp n18))]))), (n16, (.mem (.ar 1 (x17.map eStr)))), (n18, (.map (encM Value.string eI64 x19)))]) ⟨rfl, rfl, rfl, rfl, rfl, rfl, rfl, trivial⟩ hs25 ?_
              refine AO.calm rfl 97 rfl (by decide) (.fz 1 (x20.map eStr)) (Calm.move rfl rfl) ?_
              obtain ⟨t27, et27, hq23⟩ := of_bind hq23
              refine AO.calm rfl 98 rfl (by decide) (eBool t27) (Calm.callB (args := [(.fz 1 (t24.map eStr)), (.fz 1 (x20.map eStr))]) rfl rfl ok25 ⟨.inr ⟨_, 0, _, _, _, 0, rfl, rfl, by simp, by rw [own_all]⟩, .inl ⟨rfl, rfl⟩, trivial⟩ rfl (bosketref16_Same_spec et27)) ?_
              refine AO.calm rfl 99 rfl (by decide) (eBool t27) (Calm.move rfl rfl) ?_
              by_cases hc28 : t27 = true
              · have hq23 := (if_pos hc28).symm.trans hq23
                refine AO.calmG 4 true 99 rfl rfl (congrArg (fun b => some (AV.fl (Value.bool b))) hc28) 100 rfl (by decide) (.ptr n13 0) (Calm.move rfl rfl) ?_
                refine AO.calmG 4 true 99 rfl rfl (congrArg (fun b => some (AV.fl (Value.bool b))) hc28) 101 rfl (by decide) (eStr p1) (Calm.move rfl rfl) ?_
                obtain ⟨t29, et29, hq23⟩ := of_bind hq23
                refine AO.unguard 4 true 99 rfl rfl (congrArg (fun b => some (AV.fl (Value.bool b))) hc28) ?_
                refine AO.callH [(.ptr n13 0), (eStr p1)] [(n13, (.mem (.st [(1, (.own n16 0 x17.length)), (1, (.mp n18))]))), (n16, (.mem (.ar 1 (x17.map eStr)))), (n18, (.map (encM Value.string eI64 x19))), (n26, (.mem (.ar 1 (t24.map eStr))))] _ rfl rfl rfl 102 rfl (by decide) ok29 ⟨rfl, rfl, rfl, rfl, trivial⟩ (Sub.cons 1 rfl (Sub.cons 1 rfl (Sub.cons 1 rfl (Sub.refl _)))) (symbols_Table_Find_spec et29) ?_
                rintro _ _ ⟨rfl, hs30⟩
                refine AO.weak (ρ' := [(1, (eStr p1)), (2, (eI64 p2)), (7, (.ptr n13 0)), (8, (.fz 1 (x20.map eStr))), (15, (eStr x21)), (95, (.ptr n13 0)), (96, (.own n26 0 t24.length)), (97, (.fz 1 (x20.map eStr))), (98, (eBool t27)), (99, (eBool t27)), (100, (.ptr n13 0)), (101, (eStr p1)), (102, (eI64 t29))]) (H' := [(n13, (.mem (.st [(1, (.own n16 0 x17.length)), (1, (.mp n18))]))), (n16, (.mem (.ar 1 (x17.map eStr)))), (n18, (.map (encM Value.string eI64 x19))), (n26, (.mem (.ar 1 (t24.map eStr))))]) ⟨rfl, rfl, rfl, rfl, rfl, rfl, rfl, rfl, rfl, rfl, rfl, rfl, rfl, trivial⟩ hs30 ?_
                refine AO.weak (ρ' := [(1, (eStr p1)), (2, (eI64 p2)), (7, (.ptr n13 0)), (8, (.fz 1 (x20.map eStr))), (15, (eStr x21)), (95, (.ptr n13 0)), (96, (.own n26 0 t24.length)), (97, (.fz 1 (x20.map eStr))), (98, (eBool t27)), (99, (eBool t27)), (100, (.ptr n13 0)), (101, (eStr p1)), (102, (eI64 t29))]) (H' := [(n26, (.mem (.ar 1 (t24.map eStr)))), (n13, (.mem (.st [(1, (.own n16 0 x17.length)), (1, (.mp n18))]))), (n16, (.mem (.ar 1 (x17.map eStr)))), (n18, (.map (encM Value.string eI64 x19)))]) ⟨rfl, rfl, rfl, rfl, rfl, rfl, rfl, rfl, rfl, rfl, rfl, rfl, rfl, trivial⟩ (Sub.cons 3 rfl (Sub.cons 0 rfl (Sub.cons 0 rfl (Sub.cons 0 rfl (Sub.refl _))))) ?_
                refine AO.calmG 4 true 99 rfl rfl (congrArg (fun b => some (AV.fl (Value.bool b))) hc28) 103 rfl (by decide) (.fz 1 (x20.map eStr)) (Calm.move rfl rfl) ?_
                refine AO.calmG 4 true 99 rfl rfl (congrArg (fun b => some (AV.fl (Value.bool b))) hc28) 104 rfl (by decide) (eStr p1) (Calm.move rfl rfl) ?_
                obtain ⟨t31, et31, hq23⟩ := of_bind hq23
                refine AO.callG 4 true 99 [(.fz 1 (x20.map eStr)), (eStr p1)] (eI64 t31) 105 rfl (by decide) ok30 rfl rfl (congrArg (fun b => some (AV.fl (Value.bool b))) hc28) rfl rfl ⟨rfl, rfl, rfl, rfl, trivial⟩ (bosketref16_Find_spec et31) ?_
                refine AO.calmG 4 true 99 rfl rfl (congrArg (fun b => some (AV.fl (Value.bool b))) hc28) 106 rfl (by decide) (eBool (decide (t29 = t31))) (Calm.int rfl rfl rfl rfl) ?_
                refine AO.calm rfl 107 rfl (by decide) (eBool (decide (t29 = t31))) (Calm.pickT rfl (congrArg (fun b => some (AV.fl (Value.bool b))) hc28) rfl) ?_
                refine AO.calm rfl 108 rfl (by decide) (eBool (decide (t29 = t31))) (Calm.move rfl rfl) ?_
                by_cases hc32 : t29 = t31
                · have hq23 := (if_pos hc32).symm.trans hq23
                  refine AO.calmG 13 true 108 rfl rfl (congrArg (fun b => some (AV.fl (Value.bool b))) (decide_eq_true hc32)) 109 rfl (by decide) (.ptr n13 0) (Calm.move rfl rfl) ?_
                  refine AO.calmG 13 true 108 rfl rfl (congrArg (fun b => some (AV.fl (Value.bool b))) (decide_eq_true hc32)) 110 rfl (by decide) (eI64 p2) (Calm.move rfl rfl) ?_
                  obtain ⟨t33, et33, hq23⟩ := of_bind hq23
                  refine AO.unguard 13 true 108 rfl rfl (congrArg (fun b => some (AV.fl (Value.bool b))) (decide_eq_true hc32)) ?_
                  refine AO.callH [(.ptr n13 0), (eI64 p2)] [(n13, (.mem (.st [(1, (.own n16 0 x17.length)), (1, (.mp n18))]))), (n16, (.mem (.ar 1 (x17.map eStr)))), (n18, (.map (encM Value.string eI64 x19))), (n26, (.mem (.ar 1 (t24.map eStr))))] _ rfl rfl rfl 111 rfl (by decide) ok31 ⟨rfl, rfl, rfl, rfl, trivial⟩ (Sub.cons 1 rfl (Sub.cons 1 rfl (Sub.cons 1 rfl (Sub.refl _)))) (symbols_Table_Name_spec et33) ?_
                  rintro _ _ ⟨rfl, hs34⟩
                  refine AO.weak (ρ' := [(1, (eStr p1)), (2, (eI64 p2)), (7, (.ptr n13 0)), (8, (.fz 1 (x20.map eStr))), (15, (eStr x21)), (95, (.ptr n13 0)), (96, (.own n26 0 t24.length)), (97, (.fz 1 (x20.map eStr))), (98, (eBool t27)), (99, (eBool t27)), (100, (.ptr n13 0)), (101, (eStr p1)), (102, (eI64 t29)), (103, (.fz 1 (x20.map eStr))), (104, (eStr p1)), (105, (eI64 t31)), (106, (eBool (decide (t29 = t31)))), (107, (eBool (decide (t29 = t31)))), (108, (eBool (decide (t29 = t31)))), (109, (.ptr n13 0)), (110, (eI64 p2)), (111, (eStr t33))]) (H' := [(n13, (.mem (.st [(1, (.own n16 0 x17.length)), (1, (.mp n18))]))), (n16, (.mem (.ar 1 (x17.map eStr)))), (n18, (.map (encM Value.string eI64 x19))), (n26, (.mem (.ar 1 (t24.map eStr))))]) ⟨rfl, rfl, rfl, rfl, rfl, rfl, rfl, rfl, rfl, rfl, rfl, rfl, rfl, rfl, rfl, rfl, rfl, rfl, rfl, rfl, rfl, rfl, trivial⟩ hs34 ?_
                  refine AO.weak (ρ' := [(1, (eStr p1)), (2, (eI64 p2)), (7, (.ptr n13 0)), (8, (.fz 1 (x20.map eStr))), (15, (eStr x21)), (95, (.ptr n13 0)), (96, (.own n26 0 t24.length)), (97, (.fz 1 (x20.map eStr))), (98, (eBool t27)), (99, (eBool t27)), (100, (.ptr n13 0)), (101, (eStr p1)), (102, (eI64 t29)), (103, (.fz 1 (x20.map eStr))), (104, (eStr p1)), (105, (eI64 t31)), (106, (eBool (decide (t29 = t31)))), (107, (eBool (decide (t29 = t31)))), (108, (eBool (decide (t29 = t31)))), (109, (.ptr n13 0)), (110, (eI64 p2)), (111, (eStr t33))]) (H' := [(n26, (.mem (.ar 1 (t24.map eStr)))), (n13, (.mem (.st [(1, (.own n16 0 x17.length)), (1, (.mp n18))]))), (n16, (.mem (.ar 1 (x17.map eStr)))), (n18, (.map (encM Value.string eI64 x19)))]) ⟨rfl, rfl, rfl, rfl, rfl, rfl, rfl, rfl, rfl, rfl, rfl, rfl, rfl, rfl, rfl, rfl, rfl, rfl, rfl, rfl, rfl, rfl, trivial⟩ (Sub.cons 3 rfl (Sub.cons 0 rfl (Sub.cons 0 rfl (Sub.cons 0 rfl (Sub.refl _))))) ?_
                  refine AO.calmG 13 true 108 rfl rfl (congrArg (fun b => some (AV.fl (Value.bool b))) (decide_eq_true hc32)) 112 rfl (by decide) (eStr x21) (Calm.move rfl rfl) ?_
                  refine AO.calmG 13 true 108 rfl rfl (congrArg (fun b => some (AV.fl (Value.bool b))) (decide_eq_true hc32)) 113 rfl (by decide) (eBool (decide (t33 = x21))) (Calm.str rfl rfl rfl rfl) ?_
                  refine AO.calm rfl 114 rfl (by decide) (eBool (decide (t33 = x21))) (Calm.pickT rfl (congrArg (fun b => some (AV.fl (Value.bool b))) (decide_eq_true hc32)) rfl) ?_
                  refine AO.calm rfl 6 rfl (by decide) (eBool (decide (t33 = x21))) (Calm.assign rfl rfl) ?_
                  cases hq23
                  refine AO.nilE ⟨rfl, rfl⟩ ?_ ?_
                  · exact ⟨rfl, trivial⟩
                  · exact (Sub.nil _)
                · have hq23 := (if_neg hc32).symm.trans hq23
                  refine AO.skipG 13 false 108 rfl rfl (congrArg (fun b => some (AV.fl (Value.bool b))) (decide_eq_false hc32)) 109 rfl (by decide) ?_
                  refine AO.skipG 13 false 108 rfl rfl (congrArg (fun b => some (AV.fl (Value.bool b))) (decide_eq_false hc32)) 110 rfl (by decide) ?_
                  refine AO.skipG 13 false 108 rfl rfl (congrArg (fun b => some (AV.fl (Value.bool b))) (decide_eq_false hc32)) 111 rfl (by decide) ?_
                  refine AO.skipG 13 false 108 rfl rfl (congrArg (fun b => some (AV.fl (Value.bool b))) (decide_eq_false hc32)) 112 rfl (by decide) ?_
                  refine AO.skipG 13 false 108 rfl rfl (congrArg (fun b => some (AV.fl (Value.bool b))) (decide_eq_false hc32)) 113 rfl (by decide) ?_
                  refine AO.calm rfl 114 rfl (by decide) (eBool false) (Calm.pickF rfl (congrArg (fun b => some (AV.fl (Value.bool b))) (decide_eq_false hc32)) rfl) ?_
                  refine AO.calm rfl 6 rfl (by decide) (eBool false) (Calm.assign rfl rfl) ?_
                  cases hq23
                  refine AO.nilE ⟨rfl, rfl⟩ ?_ ?_
                  · exact ⟨rfl, trivial⟩
                  · exact (Sub.nil _)
              · have hq23 := (if_neg hc28).symm.trans hq23
                refine AO.skipG 4 false 99 rfl rfl (congrArg (fun b => some (AV.fl (Value.bool b))) (eq_false_of_ne_true hc28)) 100 rfl (by decide) ?_
                refine AO.skipG 4 false 99 rfl rfl (congrArg (fun b => some (AV.fl (Value.bool b))) (eq_false_of_ne_true hc28)) 101 rfl (by decide) ?_
                refine AO.skipG 4 false 99 rfl rfl (congrArg (fun b => some (AV.fl (Value.bool b))) (eq_false_of_ne_true hc28)) 102 rfl (by decide) ?_
                refine AO.skipG 4 false 99 rfl rfl (congrArg (fun b => some (AV.fl (Value.bool b))) (eq_false_of_ne_true hc28)) 103 rfl (by decide) ?_
                refine AO.skipG 4 false 99 rfl rfl (congrArg (fun b => some (AV.fl (Value.bool b))) (eq_false_of_ne_true hc28)) 104 rfl (by decide) ?_
                refine AO.skipG 4 false 99 rfl rfl (congrArg (fun b => some (AV.fl (Value.bool b))) (eq_false_of_ne_true hc28)) 105 rfl (by decide) ?_
                refine AO.skipG 4 false 99 rfl rfl (congrArg (fun b => some (AV.fl (Value.bool b))) (eq_false_of_ne_true hc28)) 106 rfl (by decide) ?_
                refine AO.calm rfl 107 rfl (by decide) (eBool false) (Calm.pickF rfl (congrArg (fun b => some (AV.fl (Value.bool b))) (eq_false_of_ne_true hc28)) rfl) ?_
                refine AO.calm rfl 108 rfl (by decide) (eBool false) (Calm.move rfl rfl) ?_
                refine AO.skipG 13 false 108 rfl rfl rfl 109 rfl (by decide) ?_
                refine AO.skipG 13 false 108 rfl rfl rfl 110 rfl (by decide) ?_
                refine AO.skipG 13 false 108 rfl rfl rfl 111 rfl (by decide) ?_
                refine AO.skipG 13 false 108 rfl rfl rfl 112 rfl (by decide) ?_
                refine AO.skipG 13 false 108 rfl rfl rfl 113 rfl (by decide) ?_
                refine AO.calm rfl 114 rfl (by decide) (eBool false) (Calm.pickF rfl rfl rfl) ?_
                refine AO.calm rfl 6 rfl (by decide) (eBool false) (Calm.assign rfl rfl) ?_
                cases hq23
                refine AO.nilE ⟨rfl, rfl⟩ ?_ ?_
                · exact ⟨rfl, trivial⟩
                · exact (Sub.nil _)
            · refine AW.ret (ρ' := [(6, (eBool b22))]) (H' := []) ⟨rfl, trivial⟩ (Sub.refl _) ?_
              have hr := Option.some.inj h
              subst hr
              exact ⟨[(eBool b22)], ⟨rfl, rfl, trivial⟩, rfl⟩
end Go.Avl.T4
