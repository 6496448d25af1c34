/- Parts: T4f22, T4f30, T4f23, T4f24, T4f25, T4f28, T4f29, T4f31, T4f5. -/
import Derived.Test.YthfongdjcpmpfaaAF1
/- bosket/symbols.Of; printed by avmain.py. -/
namespace Go.Avl.T4
open Go Go.RowKit Go.Proofs Go.Avl
set_option linter.unusedVariables false
set_option maxRecDepth 100000
set_option maxHeartbeats 4000000
attribute [local irreducible] AW AO AQ Spec SpecH Calm

def symbols_Of_c0 (k : Nat) (p0 : (List ByteArray)) (x8 : (List ByteArray)) (x10 : (List (ByteArray × Int))) : Option ((Option S85) × Int × Int) :=
  some ((some (S85.mk x8 x10)), (p0.length : Int), (0 : Int))
def symbols_Of_l1 (k : Nat) (p0 : (List ByteArray)) : Nat → (List ByteArray) → (List (ByteArray × Int)) → Int → Option ((Option S85) × Int × Int)
  | 0, _, _, _ => none
  | j + 1, x12, x14, x15 =>
    if x15 < (p0.length : Int) then if 0 ≤ x15 ∧ x15 < (p0.length : Int) then (symbols_Table_Add k (S85.mk x12 x14) (lget p0 x15)).bind fun t20 =>
    if t20.2.1 ≠ (0 : Int) then some (none, x15, t20.2.1)
    else (symbols_Of_l1 k p0 j) t20.2.2.f0 t20.2.2.f1 (w64 (x15 + (1 : Int)))
    else none
    else symbols_Of_c0 k p0 x12 x14
def symbols_Of (k : Nat) (p0 : (List ByteArray)) : Option ((Option S85) × Int × Int) :=
  (symbols_New k).bind fun t2 =>
  symbols_Of_l1 k p0 k t2.f0 t2.f1 (0 : Int)
theorem symbols_Of_spec {k : Nat} {p0 : (List ByteArray)} {r : ((Option S85) × Int × Int)} (h : symbols_Of k p0 = some r) {T0 : Heap} : SpecH Try.prog 22 [(.fz 1 (p0.map eStr))] (T0) (fun x H' => (r.1).elim (x = .tup [.fl (.pointer none), (eI64 r.2.1), (eI64 r.2.2)] ∧ Sub T0 H') (fun s0 => ∃ m m_0 m_1, x = .tup [.ptr m 0, (eI64 r.2.1), (eI64 r.2.2)] ∧ Sub ((m, (.mem (.st [(1, (.own m_0 0 s0.f0.length)), (1, (.mp m_1))]))) :: (m_0, (.mem (.ar 1 (s0.f0.map eStr)))) :: (m_1, (.map (encM Value.string eI64 s0.f1))) :: T0) H')) := by
  rw [symbols_Of.eq_1] at h
  refine SpecH.intro (res := [.tmp 2, .tmp 3, .tmp 4]) Try.func22 rfl rfl rfl (Nat.le_of_ble_eq_true rfl) ?_
  refine AW.seq ?_
  refine AW.reg ?_
  refine AO.calm rfl 2 rfl (by decide) (.fl (.pointer none)) (Calm.assign rfl rfl) ?_
  refine AO.calm rfl 3 rfl (by decide) (eI64 (0 : Int)) (Calm.assign rfl rfl) ?_
  refine AO.calm rfl 4 rfl (by decide) (eI64 (0 : Int)) (Calm.assign rfl rfl) ?_
  refine AO.nil (ρ' := [(0, (.fz 1 (p0.map eStr)))]) (H' := (T0)) ⟨rfl, trivial⟩ (Sub.refl _) ?_
  refine AW.seq ?_
  refine AW.reg ?_
  obtain ⟨t2, et2, h⟩ := of_bind h
  refine AO.callH [] (T0) _ rfl rfl rfl 10 rfl (by decide) ok26 trivial (Sub.refl _) (symbols_New_spec et2) ?_
  rintro _ _ ⟨n4, n5, n6, rfl, hs3⟩
  refine AO.weak (ρ' := [(0, (.fz 1 (p0.map eStr))), (10, (.ptr n4 0))]) (H' := ((n4, (.mem (.st [(1, (.own n5 0 t2.f0.length)), (1, (.mp n6))]))) :: (n5, (.mem (.ar 1 (t2.f0.map eStr)))) :: (n6, (.map (encM Value.string eI64 t2.f1))) :: T0)) ⟨rfl, rfl, trivial⟩ hs3 ?_
  refine AO.calm rfl 5 rfl (by decide) (.ptr n4 0) (Calm.assign rfl rfl) ?_
  refine AO.nil (ρ' := [(0, (.fz 1 (p0.map eStr))), (5, (.ptr n4 0))]) (H' := ((n4, (.mem (.st [(1, (.own n5 0 t2.f0.length)), (1, (.mp n6))]))) :: (n5, (.mem (.ar 1 (t2.f0.map eStr)))) :: (n6, (.map (encM Value.string eI64 t2.f1))) :: T0)) ⟨rfl, rfl, trivial⟩ (Sub.refl _) ?_
  refine AW.seq_mid (fun ρ H => ∃ (n7 : Nat) (n9 : Nat) (x8 : (List ByteArray)) (x10 : (List (ByteArray × Int))), ρ = [(0, (.fz 1 (p0.map eStr))), (5, (.ptr n4 0))] ∧ H = ((n4, (.mem (.st [(1, (.own n7 0 x8.length)), (1, (.mp n9))]))) :: (n7, (.mem (.ar 1 (x8.map eStr)))) :: (n9, (.map (encM Value.string eI64 x10))) :: T0) ∧ symbols_Of_c0 k p0 x8 x10 = some r) ?_ ?_
  · refine AW.seq ?_
    refine AW.reg ?_
    refine AO.calm rfl 11 rfl (by decide) (.fz 1 (p0.map eStr)) (Calm.move rfl rfl) ?_
    refine AO.calm rfl 12 rfl (by decide) (eI64 (p0.length : Int)) (Calm.lenL rfl rfl Try.underlying37) ?_
    refine AO.calm rfl 13 rfl (by decide) (eI64 (0 : Int)) (Calm.move rfl rfl) ?_
    refine AO.nil (ρ' := [(0, (.fz 1 (p0.map eStr))), (5, (.ptr n4 0)), (11, (.fz 1 (p0.map eStr))), (12, (eI64 (p0.length : Int))), (13, (eI64 (0 : Int)))]) (H' := ((n4, (.mem (.st [(1, (.own n5 0 t2.f0.length)), (1, (.mp n6))]))) :: (n5, (.mem (.ar 1 (t2.f0.map eStr)))) :: (n6, (.map (encM Value.string eI64 t2.f1))) :: T0)) ⟨rfl, rfl, rfl, rfl, rfl, trivial⟩ (Sub.refl _) ?_
    refine AW.block ?_
    refine AW.weak (ρ' := [(0, (.fz 1 (p0.map eStr))), (5, (.ptr n4 0)), (11, (.fz 1 (p0.map eStr))), (12, (eI64 (p0.length : Int))), (13, (eI64 (0 : Int)))]) (H' := ((n4, (.mem (.st [(1, (.own n5 0 t2.f0.length)), (1, (.mp n6))]))) :: (n5, (.mem (.ar 1 (t2.f0.map eStr)))) :: (n6, (.map (encM Value.string eI64 t2.f1))) :: T0)) ⟨rfl, rfl, rfl, rfl, rfl, trivial⟩ (Sub.refl _) ?_
    refine AW.loop (fun kq ρ H => ∃ (n11 : Nat) (n13 : Nat) (x12 : (List ByteArray)) (x14 : (List (ByteArray × Int))) (x15 : Int), ρ = [(0, (.fz 1 (p0.map eStr))), (5, (.ptr n4 0)), (11, (.fz 1 (p0.map eStr))), (12, (eI64 (p0.length : Int))), (13, (eI64 x15))] ∧ H = ((n4, (.mem (.st [(1, (.own n11 0 x12.length)), (1, (.mp n13))]))) :: (n11, (.mem (.ar 1 (x12.map eStr)))) :: (n13, (.map (encM Value.string eI64 x14))) :: T0) ∧ symbols_Of_l1 k p0 kq x12 x14 x15 = some r) k ⟨n5, n6, t2.f0, t2.f1, (0 : Int), rfl, rfl, h⟩ ?_
    rintro kq17 _ _ ⟨n11, n13, x12, x14, x15, rfl, rfl, h⟩
    cases kq17 with
    | zero => rw [symbols_Of_l1.eq_1] at h; cases h
    | succ kq17 =>
    rw [symbols_Of_l1.eq_2] at h
    generalize hrec16 : symbols_Of_l1 k p0 kq17 = rec16 at h
    refine AW.seq ?_
    refine AW.reg ?_
    refine AO.calm rfl 14 rfl (by decide) (eBool (decide (x15 < (p0.length : Int)))) (Calm.int rfl rfl rfl rfl) ?_
    refine AO.nil (ρ' := [(0, (.fz 1 (p0.map eStr))), (5, (.ptr n4 0)), (11, (.fz 1 (p0.map eStr))), (12, (eI64 (p0.length : Int))), (13, (eI64 x15)), (14, (eBool (decide (x15 < (p0.length : Int)))))]) (H' := ((n4, (.mem (.st [(1, (.own n11 0 x12.length)), (1, (.mp n13))]))) :: (n11, (.mem (.ar 1 (x12.map eStr)))) :: (n13, (.map (encM Value.string eI64 x14))) :: T0)) ⟨rfl, rfl, rfl, rfl, rfl, rfl, trivial⟩ (Sub.refl _) ?_
    refine AW.seq ?_
    by_cases hc18 : x15 < (p0.length : Int)
    · have h := (if_pos hc18).symm.trans h
      refine AW.condP (x15 < (p0.length : Int)) rfl hc18 ?_
      refine AW.skip (ρ' := [(0, (.fz 1 (p0.map eStr))), (5, (.ptr n4 0)), (11, (.fz 1 (p0.map eStr))), (12, (eI64 (p0.length : Int))), (13, (eI64 x15))]) (H' := ((n4, (.mem (.st [(1, (.own n11 0 x12.length)), (1, (.mp n13))]))) :: (n11, (.mem (.ar 1 (x12.map eStr)))) :: (n13, (.map (encM Value.string eI64 x14))) :: T0)) ⟨rfl, rfl, rfl, rfl, rfl, trivial⟩ (Sub.refl _) ?_
      refine AW.seq ?_
      refine AW.block ?_
      refine AW.seq ?_
      refine AW.reg ?_
      refine AO.calm rfl 15 rfl (by decide) (eI64 x15) (Calm.move rfl rfl) ?_
      obtain ⟨hg19, h⟩ := of_guard h
      refine AO.calm rfl 16 rfl (by decide) (.rp (eStr (lget p0 x15))) (Calm.idxL (f := eStr) rfl rfl rfl hg19 Try.underlying37 sz9) ?_
      refine AO.calm rfl 17 rfl (by decide) (eStr (lget p0 x15)) (Calm.loadRp rfl rfl ag9 sz9) ?_
      refine AO.calm rfl 6 rfl (by decide) (eI64 x15) (Calm.assign rfl rfl) ?_
      refine AO.calm rfl 7 rfl (by decide) (eStr (lget p0 x15)) (Calm.assign rfl rfl) ?_
      refine AO.nil (ρ' := [(0, (.fz 1 (p0.map eStr))), (5, (.ptr n4 0)), (6, (eI64 x15)), (7, (eStr (lget p0 x15))), (11, (.fz 1 (p0.map eStr))), (12, (eI64 (p0.length : Int))), (13, (eI64 x15))]) (H' := ((n4, (.mem (.st [(1, (.own n11 0 x12.length)), (1, (.mp n13))]))) :: (n11, (.mem (.ar 1 (x12.map eStr)))) :: (n13, (.map (encM Value.string eI64 x14))) :: T0)) ⟨rfl, rfl, rfl, rfl, rfl, rfl, rfl, trivial⟩ (Sub.refl _) ?_
      refine AW.seq ?_
      refine AW.reg ?_
      refine AO.calm rfl 19 rfl (by decide) (.ptr n4 0) (Calm.move rfl rfl) ?_
      refine AO.calm rfl 20 rfl (by decide) (eStr (lget p0 x15)) (Calm.move rfl rfl) ?_
      obtain ⟨t20, et20, h⟩ := of_bind h
      refine AO.callH [(.ptr n4 0), (eStr (lget p0 x15))] ((n4, (.mem (.st [(1, (.own n11 0 x12.length)), (1, (.mp n13))]))) :: (n11, (.mem (.ar 1 (x12.map eStr)))) :: (n13, (.map (encM Value.string eI64 x14))) :: T0) _ rfl rfl rfl 21 rfl (by decide) ok27 ⟨rfl, rfl, rfl, rfl, trivial⟩ (Sub.cons 0 rfl (Sub.cons 0 rfl (Sub.cons 0 rfl (Sub.refl _)))) (symbols_Table_Add_spec et20) ?_
      rintro _ _ ⟨n22, n23, rfl, hs21⟩
      refine AO.weak (ρ' := [(0, (.fz 1 (p0.map eStr))), (5, (.ptr n4 0)), (6, (eI64 x15)), (7, (eStr (lget p0 x15))), (11, (.fz 1 (p0.map eStr))), (12, (eI64 (p0.length : Int))), (13, (eI64 x15)), (19, (.ptr n4 0)), (20, (eStr (lget p0 x15))), (21, (.tup [(eI64 t20.1), (eI64 t20.2.1)]))]) (H' := ((n4, (.mem (.st [(1, (.own n22 0 t20.2.2.f0.length)), (1, (.mp n23))]))) :: (n22, (.mem (.ar 1 (t20.2.2.f0.map eStr)))) :: (n23, (.map (encM Value.string eI64 t20.2.2.f1))) :: T0)) ⟨rfl, rfl, rfl, rfl, rfl, rfl, rfl, rfl, rfl, rfl, trivial⟩ hs21 ?_
      refine AO.calm rfl 18 rfl (by decide) (.tup [(eI64 t20.1), (eI64 t20.2.1)]) (Calm.move rfl rfl) ?_
      refine AO.calm rfl 22 rfl (by decide) (eI64 t20.1) (Calm.extract rfl rfl rfl) ?_
      refine AO.calm rfl 23 rfl (by decide) (eI64 t20.2.1) (Calm.extract rfl rfl rfl) ?_
      refine AO.calm rfl 8 rfl (by decide) (eI64 t20.1) (Calm.assign rfl rfl) ?_
      refine AO.calm rfl 9 rfl (by decide) (eI64 t20.2.1) (Calm.assign rfl rfl) ?_
      refine AO.nil (ρ' := [(0, (.fz 1 (p0.map eStr))), (5, (.ptr n4 0)), (6, (eI64 x15)), (9, (eI64 t20.2.1)), (11, (.fz 1 (p0.map eStr))), (12, (eI64 (p0.length : Int))), (13, (eI64 x15))]) (H' := ((n4, (.mem (.st [(1, (.own n22 0 t20.2.2.f0.length)), (1, (.mp n23))]))) :: (n22, (.mem (.ar 1 (t20.2.2.f0.map eStr)))) :: (n23, (.map (encM Value.string eI64 t20.2.2.f1))) :: T0)) ⟨rfl, rfl, rfl, rfl, rfl, rfl, rfl, trivial⟩ (Sub.refl _) ?_
      refine AW.seq ?_
      refine AW.reg ?_
      refine AO.calm rfl 24 rfl (by decide) (eI64 t20.2.1) (Calm.move rfl rfl) ?_
      refine AO.calm rfl 25 rfl (by decide) (eBool (decide (t20.2.1 ≠ (0 : Int)))) (Calm.int rfl rfl rfl rfl) ?_
      refine AO.nil (ρ' := [(0, (.fz 1 (p0.map eStr))), (5, (.ptr n4 0)), (6, (eI64 x15)), (9, (eI64 t20.2.1)), (11, (.fz 1 (p0.map eStr))), (12, (eI64 (p0.length : Int))), (13, (eI64 x15)), (25, (eBool (decide (t20.2.1 ≠ (0 : Int)))))]) (H' := ((n4, (.mem (.st [(1, (.own n22 0 t20.2.2.f0.length)), (1, (.mp n23))]))) :: (n22, (.mem (.ar 1 (t20.2.2.f0.map eStr)))) :: (n23, (.map (encM Value.string eI64 t20.2.2.f1))) :: T0)) ⟨rfl, rfl, rfl, rfl, rfl, rfl, rfl, rfl, trivial⟩ (Sub.refl _) ?_
      by_cases hc24 : t20.2.1 ≠ (0 : Int)
      · have h := (if_pos hc24).symm.trans h
        refine AW.condP (t20.2.1 ≠ (0 : Int)) rfl hc24 ?_
        refine AW.seq ?_
        refine AW.reg ?_
        refine AO.calm rfl 26 rfl (by decide) (eI64 x15) (Calm.move rfl rfl) ?_
        refine AO.calm rfl 27 rfl (by decide) (eI64 t20.2.1) (Calm.move rfl rfl) ?_
        refine AO.calm rfl 2 rfl (by decide) (.fl (.pointer none)) (Calm.assign rfl rfl) ?_
        refine AO.calm rfl 3 rfl (by decide) (eI64 x15) (Calm.assign rfl rfl) ?_
        refine AO.calm rfl 4 rfl (by decide) (eI64 t20.2.1) (Calm.assign rfl rfl) ?_
        refine AO.nil (ρ' := [(2, (.fl (.pointer none))), (3, (eI64 x15)), (4, (eI64 t20.2.1))]) (H' := (T0)) ⟨rfl, rfl, rfl, trivial⟩ (Sub.drop (Sub.drop (Sub.drop (Sub.refl _)))) ?_
        refine AW.ret (ρ' := [(2, (.fl (.pointer none))), (3, (eI64 x15)), (4, (eI64 t20.2.1))]) (H' := (T0)) ⟨rfl, rfl, rfl, trivial⟩ (Sub.refl _) ?_
        have hr := Option.some.inj h
        subst hr
        exact ⟨[(.fl (.pointer none)), (eI64 x15), (eI64 t20.2.1)], ⟨rfl, rfl, rfl, rfl, rfl, rfl, trivial⟩, elimN ⟨rfl, (Sub.refl _)⟩⟩
      · have h := (if_neg hc24).symm.trans h
        refine AW.condN (t20.2.1 ≠ (0 : Int)) rfl hc24 ?_
        refine AW.skip (ρ' := [(0, (.fz 1 (p0.map eStr))), (5, (.ptr n4 0)), (11, (.fz 1 (p0.map eStr))), (12, (eI64 (p0.length : Int))), (13, (eI64 x15))]) (H' := ((n4, (.mem (.st [(1, (.own n22 0 t20.2.2.f0.length)), (1, (.mp n23))]))) :: (n22, (.mem (.ar 1 (t20.2.2.f0.map eStr)))) :: (n23, (.map (encM Value.string eI64 t20.2.2.f1))) :: T0)) ⟨rfl, rfl, rfl, rfl, rfl, trivial⟩ (Sub.refl _) ?_
        refine AW.reg ?_
        refine AO.calm rfl 28 rfl (by decide) (eI64 (w64 (x15 + (1 : Int)))) (Calm.int rfl rfl rfl rfl) ?_
        refine AO.calm rfl 13 rfl (by decide) (eI64 (w64 (x15 + (1 : Int)))) (Calm.move rfl rfl) ?_
        refine AO.nil (ρ' := [(0, (.fz 1 (p0.map eStr))), (5, (.ptr n4 0)), (11, (.fz 1 (p0.map eStr))), (12, (eI64 (p0.length : Int))), (13, (eI64 (w64 (x15 + (1 : Int)))))]) (H' := ((n4, (.mem (.st [(1, (.own n22 0 t20.2.2.f0.length)), (1, (.mp n23))]))) :: (n22, (.mem (.ar 1 (t20.2.2.f0.map eStr)))) :: (n23, (.map (encM Value.string eI64 t20.2.2.f1))) :: T0)) ⟨rfl, rfl, rfl, rfl, rfl, trivial⟩ (Sub.refl _) ?_
        exact ⟨kq17, Nat.lt_succ_self _, n22, n23, t20.2.2.f0, t20.2.2.f1, (w64 (x15 + (1 : Int))), rfl, rfl, by rw [hrec16]; exact h⟩
    · have h := (if_neg hc18).symm.trans h
      refine AW.condN (x15 < (p0.length : Int)) rfl hc18 ?_
      refine AW.exit (ρ' := [(0, (.fz 1 (p0.map eStr))), (5, (.ptr n4 0))]) (H' := ((n4, (.mem (.st [(1, (.own n11 0 x12.length)), (1, (.mp n13))]))) :: (n11, (.mem (.ar 1 (x12.map eStr)))) :: (n13, (.map (encM Value.string eI64 x14))) :: T0)) ⟨rfl, rfl, trivial⟩ (Sub.refl _) ?_
      exact ⟨n11, n13, x12, x14, rfl, rfl, h⟩
  · rintro _ _ ⟨n7, n9, x8, x10, rfl, rfl, h⟩
    rw [symbols_Of_c0.eq_1] at h
    refine AW.seq ?_
    refine AW.reg ?_
    refine AO.calm rfl 29 rfl (by decide) (.ptr n4 0) (Calm.move rfl rfl) ?_
    refine AO.calm rfl 30 rfl (by decide) (.fz 1 (p0.map eStr)) (Calm.move rfl rfl) ?_
    refine AO.calm rfl 31 rfl (by decide) (eI64 (p0.length : Int)) (Calm.lenL rfl rfl Try.underlying37) ?_
    refine AO.calm rfl 2 rfl (by decide) (.ptr n4 0) (Calm.assign rfl rfl) ?_
    refine AO.calm rfl 3 rfl (by decide) (eI64 (p0.length : Int)) (Calm.assign rfl rfl) ?_
    refine AO.calm rfl 4 rfl (by decide) (eI64 (0 : Int)) (Calm.assign rfl rfl) ?_
    refine AO.nil (ρ' := [(2, (.ptr n4 0)), (3, (eI64 (p0.length : Int))), (4, (eI64 (0 : Int)))]) (H' := ((n4, (.mem (.st [(1, (.own n7 0 x8.length)), (1, (.mp n9))]))) :: (n7, (.mem (.ar 1 (x8.map eStr)))) :: (n9, (.map (encM Value.string eI64 x10))) :: T0)) ⟨rfl, rfl, rfl, trivial⟩ (Sub.refl _) ?_
    refine AW.ret (ρ' := [(2, (.ptr n4 0)), (3, (eI64 (p0.length : Int))), (4, (eI64 (0 : Int)))]) (H' := ((n4, (.mem (.st [(1, (.own n7 0 x8.length)), (1, (.mp n9))]))) :: (n7, (.mem (.ar 1 (x8.map eStr)))) :: (n9, (.map (encM Value.string eI64 x10))) :: T0)) ⟨rfl, rfl, rfl, trivial⟩ (Sub.refl _) ?_
    have hr := Option.some.inj h
    subst hr
    exact ⟨[(.ptr n4 0), (eI64 (p0.length : Int)), (eI64 (0 : Int))], ⟨rfl, rfl, rfl, rfl, rfl, rfl, trivial⟩, elimS ⟨n4, n7, n9, rfl, (Sub.cons 0 rfl (Sub.cons 0 rfl (Sub.cons 0 rfl (Sub.refl _))))⟩⟩
end Go.Avl.T4
/- bosket/bosketref16.Find; printed by avmain.py. -/
namespace Go.Avl.T4
open Go Go.RowKit Go.Proofs Go.Avl
set_option linter.unusedVariables false
set_option maxRecDepth 100000
set_option maxHeartbeats 4000000
attribute [local irreducible] AW AO AQ Spec SpecH Calm

def bosketref16_Find_c0 (k : Nat) : Option Int :=
  some ((-1 : Int))
def bosketref16_Find_l1 (k : Nat) (p0 : (List ByteArray)) (p1 : ByteArray) : Nat → Int → Option Int
  | 0, _ => none
  | j + 1, x3 =>
    if x3 < (p0.length : Int) then if 0 ≤ x3 ∧ x3 < (p0.length : Int) then if (lget p0 x3) = p1 then some (x3)
    else (bosketref16_Find_l1 k p0 p1 j) (w64 (x3 + (1 : Int)))
    else none
    else bosketref16_Find_c0 k
def bosketref16_Find (k : Nat) (p0 : (List ByteArray)) (p1 : ByteArray) : Option Int :=
  bosketref16_Find_l1 k p0 p1 k (0 : Int)
theorem bosketref16_Find_spec {k : Nat} {p0 : (List ByteArray)} {p1 : ByteArray} {r : Int} (h : bosketref16_Find k p0 p1 = some r) : Spec Try.prog 30 [(.fz 1 (p0.map eStr)), (eStr p1)] (eI64 r) := by
  rw [bosketref16_Find.eq_1] at h
  refine Spec.intro (res := [.tmp 4]) Try.func30 rfl rfl rfl (Nat.le_of_ble_eq_true rfl) ?_
  refine AW.seq ?_
  refine AW.reg ?_
  refine AO.calm rfl 4 rfl (by decide) (eI64 (0 : Int)) (Calm.assign rfl rfl) ?_
  refine AO.nil (ρ' := [(0, (.fz 1 (p0.map eStr))), (1, (eStr p1))]) (H' := []) ⟨rfl, rfl, trivial⟩ (Sub.refl _) ?_
  refine AW.seq_mid (fun ρ H => ρ = [] ∧ H = [] ∧ bosketref16_Find_c0 k = some r) ?_ ?_
  · refine AW.seq ?_
    refine AW.reg ?_
    refine AO.calm rfl 5 rfl (by decide) (eI64 (0 : Int)) (Calm.assign rfl rfl) ?_
    refine AO.nil (ρ' := [(0, (.fz 1 (p0.map eStr))), (1, (eStr p1)), (5, (eI64 (0 : Int)))]) (H' := []) ⟨rfl, rfl, rfl, trivial⟩ (Sub.refl _) ?_
    refine AW.block ?_
    refine AW.weak (ρ' := [(0, (.fz 1 (p0.map eStr))), (1, (eStr p1)), (5, (eI64 (0 : Int)))]) (H' := []) ⟨rfl, rfl, rfl, trivial⟩ (Sub.refl _) ?_
    refine AW.loop (fun kq ρ H => ∃ (x3 : Int), ρ = [(0, (.fz 1 (p0.map eStr))), (1, (eStr p1)), (5, (eI64 x3))] ∧ H = [] ∧ bosketref16_Find_l1 k p0 p1 kq x3 = some r) k ⟨(0 : Int), rfl, rfl, h⟩ ?_
    rintro kq5 _ _ ⟨x3, rfl, rfl, h⟩
    cases kq5 with
    | zero => rw [bosketref16_Find_l1.eq_1] at h; cases h
    | succ kq5 =>
    rw [bosketref16_Find_l1.eq_2] at h
    generalize hrec4 : bosketref16_Find_l1 k p0 p1 kq5 = rec4 at h
    refine AW.seq ?_
    refine AW.seq ?_
    refine AW.reg ?_
    refine AO.calm rfl 6 rfl (by decide) (eI64 x3) (Calm.move rfl rfl) ?_
    refine AO.calm rfl 7 rfl (by decide) (.fz 1 (p0.map eStr)) (Calm.move rfl rfl) ?_
    refine AO.calm rfl 8 rfl (by decide) (eI64 (p0.length : Int)) (Calm.lenL rfl rfl Try.underlying37) ?_
    refine AO.calm rfl 9 rfl (by decide) (eBool (decide (x3 < (p0.length : Int)))) (Calm.int rfl rfl rfl rfl) ?_
    refine AO.nil (ρ' := [(0, (.fz 1 (p0.map eStr))), (1, (eStr p1)), (5, (eI64 x3)), (9, (eBool (decide (x3 < (p0.length : Int)))))]) (H' := []) ⟨rfl, rfl, rfl, rfl, trivial⟩ (Sub.refl _) ?_
    by_cases hc6 : x3 < (p0.length : Int)
    · have h := (if_pos hc6).symm.trans h
      refine AW.condP (x3 < (p0.length : Int)) rfl hc6 ?_
      refine AW.skip (ρ' := [(0, (.fz 1 (p0.map eStr))), (1, (eStr p1)), (5, (eI64 x3))]) (H' := []) ⟨rfl, rfl, rfl, trivial⟩ (Sub.refl _) ?_
      refine AW.seq ?_
      refine AW.block ?_
      refine AW.seq ?_
      refine AW.reg ?_
      refine AO.calm rfl 12 rfl (by decide) (.fz 1 (p0.map eStr)) (Calm.move rfl rfl) ?_
      refine AO.calm rfl 13 rfl (by decide) (eI64 x3) (Calm.move rfl rfl) ?_
      obtain ⟨hg7, h⟩ := of_guard h
      refine AO.calm rfl 14 rfl (by decide) (.rp (eStr (lget p0 x3))) (Calm.idxL (f := eStr) rfl rfl rfl hg7 Try.underlying37 sz9) ?_
      refine AO.calm rfl 15 rfl (by decide) (eStr (lget p0 x3)) (Calm.loadRp rfl rfl ag9 sz9) ?_
      refine AO.calm rfl 16 rfl (by decide) (eStr p1) (Calm.move rfl rfl) ?_
      refine AO.calm rfl 17 rfl (by decide) (eBool (decide ((lget p0 x3) = p1))) (Calm.str rfl rfl rfl rfl) ?_
      refine AO.nil (ρ' := [(0, (.fz 1 (p0.map eStr))), (1, (eStr p1)), (5, (eI64 x3)), (17, (eBool (decide ((lget p0 x3) = p1))))]) (H' := []) ⟨rfl, rfl, rfl, rfl, trivial⟩ (Sub.refl _) ?_
      by_cases hc8 : (lget p0 x3) = p1
      · have h := (if_pos hc8).symm.trans h
        refine AW.condP ((lget p0 x3) = p1) rfl hc8 ?_
        refine AW.seq ?_
        refine AW.reg ?_
        refine AO.calm rfl 18 rfl (by decide) (eI64 x3) (Calm.move rfl rfl) ?_
        refine AO.calm rfl 4 rfl (by decide) (eI64 x3) (Calm.assign rfl rfl) ?_
        refine AO.nil (ρ' := [(4, (eI64 x3))]) (H' := []) ⟨rfl, trivial⟩ (Sub.refl _) ?_
        refine AW.ret (ρ' := [(4, (eI64 x3))]) (H' := []) ⟨rfl, trivial⟩ (Sub.refl _) ?_
        have hr := Option.some.inj h
        subst hr
        exact ⟨[(eI64 x3)], ⟨rfl, rfl, trivial⟩, rfl⟩
      · have h := (if_neg hc8).symm.trans h
        refine AW.condN ((lget p0 x3) = p1) rfl hc8 ?_
        refine AW.skip (ρ' := [(0, (.fz 1 (p0.map eStr))), (1, (eStr p1)), (5, (eI64 x3))]) (H' := []) ⟨rfl, rfl, rfl, trivial⟩ (Sub.refl _) ?_
        refine AW.reg ?_
        refine AO.calm rfl 10 rfl (by decide) (eI64 x3) (Calm.move rfl rfl) ?_
        refine AO.calm rfl 11 rfl (by decide) (eI64 (w64 (x3 + (1 : Int)))) (Calm.int rfl rfl rfl rfl) ?_
        refine AO.calm rfl 5 rfl (by decide) (eI64 (w64 (x3 + (1 : Int)))) (Calm.assign rfl rfl) ?_
        refine AO.nil (ρ' := [(0, (.fz 1 (p0.map eStr))), (1, (eStr p1)), (5, (eI64 (w64 (x3 + (1 : Int)))))]) (H' := []) ⟨rfl, rfl, rfl, trivial⟩ (Sub.refl _) ?_
        exact ⟨kq5, Nat.lt_succ_self _, (w64 (x3 + (1 : Int))), rfl, rfl, by rw [hrec4]; exact h⟩
    · have h := (if_neg hc6).symm.trans h
      refine AW.condN (x3 < (p0.length : Int)) rfl hc6 ?_
      refine AW.exit (ρ' := []) (H' := []) trivial (Sub.refl _) ?_
      exact ⟨rfl, rfl, h⟩
  · rintro _ _ ⟨rfl, rfl, h⟩
    rw [bosketref16_Find_c0.eq_1] at h
    refine AW.seq ?_
    refine AW.reg ?_
    refine AO.calm rfl 4 rfl (by decide) (eI64 (-1 : Int)) (Calm.assign rfl rfl) ?_
    refine AO.nil (ρ' := [(4, (eI64 (-1 : Int)))]) (H' := []) ⟨rfl, trivial⟩ (Sub.refl _) ?_
    refine AW.ret (ρ' := [(4, (eI64 (-1 : Int)))]) (H' := []) ⟨rfl, trivial⟩ (Sub.refl _) ?_
    have hr := Option.some.inj h
    subst hr
    exact ⟨[(eI64 (-1 : Int))], ⟨rfl, rfl, trivial⟩, rfl⟩
end Go.Avl.T4
/- bosket/bosketref16.Add; printed by avmain.py. -/
namespace Go.Avl.T4
open Go Go.RowKit Go.Proofs Go.Avl
set_option linter.unusedVariables false
set_option maxRecDepth 100000
set_option maxHeartbeats 4000000
attribute [local irreducible] AW AO AQ Spec SpecH Calm

def bosketref16_Add (k : Nat) (p0 : (List ByteArray)) (p1 : ByteArray) : Option ((List ByteArray) × Int × Int) :=
  (bosketref03_Name k p1).bind fun t3 =>
  if (!t3) = true then some (p0, (0 : Int), (8 : Int))
  else (bosketref16_Find k p0 p1).bind fun t5 =>
  if (0 : Int) ≤ t5 then (bosketref16_Find k p0 p1).bind fun t7 =>
  some (p0, t7, (9 : Int))
  else if (300 : Int) ≤ (p0.length : Int) then some (p0, (0 : Int), (6 : Int))
  else if (([] : List ByteArray) ++ p0).length * 16 ≤ 140737488355328 then if ((([] : List ByteArray) ++ p0) ++ ([p1] : List ByteArray)).length * 16 ≤ 140737488355328 then some (((([] : List ByteArray) ++ p0) ++ ([p1] : List ByteArray)), (p0.length : Int), (0 : Int))
  else none
  else none
theorem bosketref16_Add_spec {k : Nat} {p0 : (List ByteArray)} {p1 : ByteArray} {r : ((List ByteArray) × Int × Int)} (h : bosketref16_Add k p0 p1 = some r) : Spec Try.prog 23 [(.fz 1 (p0.map eStr)), (eStr p1)] (.tup [(.fz 1 (r.1.map eStr)), (eI64 r.2.1), (eI64 r.2.2)]) := by
  rw [bosketref16_Add.eq_1] at h
  refine Spec.intro (res := [.tmp 4, .tmp 5, .tmp 6]) Try.func23 rfl rfl rfl (Nat.le_of_ble_eq_true rfl) ?_
  refine AW.seq ?_
  refine AW.reg ?_
  refine AO.calm rfl 4 rfl (by decide) (.fl (.slice none 0 0)) (Calm.assign rfl rfl) ?_
  refine AO.calm rfl 5 rfl (by decide) (eI64 (0 : Int)) (Calm.assign rfl rfl) ?_
  refine AO.calm rfl 6 rfl (by decide) (eI64 (0 : Int)) (Calm.assign rfl rfl) ?_
  refine AO.nil (ρ' := [(0, (.fz 1 (p0.map eStr))), (1, (eStr p1))]) (H' := []) ⟨rfl, rfl, trivial⟩ (Sub.refl _) ?_
  refine AW.seq ?_
  refine AW.block ?_
  refine AW.seq ?_
  refine AW.reg ?_
  refine AO.calm rfl 8 rfl (by decide) (eStr p1) (Calm.move rfl rfl) ?_
  obtain ⟨t3, et3, h⟩ := of_bind h
  refine AO.callS [(eStr p1)] (eBool t3) 9 rfl (by decide) ok38 rfl rfl rfl ⟨rfl, rfl, trivial⟩ (bosketref03_Name_spec et3) ?_
  refine AO.calm rfl 10 rfl (by decide) (eBool (!t3)) (Calm.not rfl rfl) ?_
  refine AO.calm rfl 7 rfl (by decide) (eBool (!t3)) (Calm.assign rfl rfl) ?_
  refine AO.nil (ρ' := [(0, (.fz 1 (p0.map eStr))), (1, (eStr p1)), (7, (eBool (!t3)))]) (H' := []) ⟨rfl, rfl, rfl, trivial⟩ (Sub.refl _) ?_
  by_cases hc4 : (!t3) = true
  · have h := (if_pos hc4).symm.trans h
    refine AW.condT' (!t3) rfl hc4 ?_
    refine AW.seq ?_
    refine AW.reg ?_
    refine AO.calm rfl 11 rfl (by decide) (.fz 1 (p0.map eStr)) (Calm.move rfl rfl) ?_
    refine AO.calm rfl 4 rfl (by decide) (.fz 1 (p0.map eStr)) (Calm.assign rfl rfl) ?_
    refine AO.calm rfl 5 rfl (by decide) (eI64 (0 : Int)) (Calm.assign rfl rfl) ?_
    refine AO.calm rfl 6 rfl (by decide) (eI64 (8 : Int)) (Calm.assign rfl rfl) ?_
    refine AO.nil (ρ' := [(4, (.fz 1 (p0.map eStr))), (5, (eI64 (0 : Int))), (6, (eI64 (8 : Int)))]) (H' := []) ⟨rfl, rfl, rfl, trivial⟩ (Sub.refl _) ?_
    refine AW.ret (ρ' := [(4, (.fz 1 (p0.map eStr))), (5, (eI64 (0 : Int))), (6, (eI64 (8 : Int)))]) (H' := []) ⟨rfl, rfl, rfl, trivial⟩ (Sub.refl _) ?_
    have hr := Option.some.inj h
    subst hr
    exact ⟨[(.fz 1 (p0.map eStr)), (eI64 (0 : Int)), (eI64 (8 : Int))], ⟨rfl, rfl, rfl, rfl, rfl, rfl, trivial⟩, rfl⟩
  · have h := (if_neg hc4).symm.trans h
    refine AW.condF' (!t3) rfl hc4 ?_
    refine AW.seq ?_
    refine AW.reg ?_
    refine AO.calm rfl 13 rfl (by decide) (.fz 1 (p0.map eStr)) (Calm.move rfl rfl) ?_
    refine AO.calm rfl 14 rfl (by decide) (eStr p1) (Calm.move rfl rfl) ?_
    obtain ⟨t5, et5, h⟩ := of_bind h
    refine AO.callS [(.fz 1 (p0.map eStr)), (eStr p1)] (eI64 t5) 15 rfl (by decide) ok30 rfl rfl rfl ⟨rfl, rfl, rfl, rfl, trivial⟩ (bosketref16_Find_spec et5) ?_
    refine AO.calm rfl 16 rfl (by decide) (eBool (decide ((0 : Int) ≤ t5))) (Calm.int rfl rfl rfl rfl) ?_
    refine AO.calm rfl 12 rfl (by decide) (eBool (decide ((0 : Int) ≤ t5))) (Calm.assign rfl rfl) ?_
    refine AO.nil (ρ' := [(0, (.fz 1 (p0.map eStr))), (1, (eStr p1)), (12, (eBool (decide ((0 : Int) ≤ t5))))]) (H' := []) ⟨rfl, rfl, rfl, trivial⟩ (Sub.refl _) ?_
    by_cases hc6 : (0 : Int) ≤ t5
    · have h := (if_pos hc6).symm.trans h
      refine AW.condP ((0 : Int) ≤ t5) rfl hc6 ?_
      refine AW.seq ?_
      refine AW.reg ?_
      refine AO.calm rfl 17 rfl (by decide) (.fz 1 (p0.map eStr)) (Calm.move rfl rfl) ?_
      refine AO.calm rfl 18 rfl (by decide) (.fz 1 (p0.map eStr)) (Calm.move rfl rfl) ?_
      refine AO.calm rfl 19 rfl (by decide) (eStr p1) (Calm.move rfl rfl) ?_
      obtain ⟨t7, et7, h⟩ := of_bind h
      refine AO.callS [(.fz 1 (p0.map eStr)), (eStr p1)] (eI64 t7) 20 rfl (by decide) ok30 rfl rfl rfl ⟨rfl, rfl, rfl, rfl, trivial⟩ (bosketref16_Find_spec et7) ?_
      refine AO.calm rfl 4 rfl (by decide) (.fz 1 (p0.map eStr)) (Calm.assign rfl rfl) ?_
      refine AO.calm rfl 5 rfl (by decide) (eI64 t7) (Calm.assign rfl rfl) ?_
      refine AO.calm rfl 6 rfl (by decide) (eI64 (9 : Int)) (Calm.assign rfl rfl) ?_
      refine AO.nil (ρ' := [(4, (.fz 1 (p0.map eStr))), (5, (eI64 t7)), (6, (eI64 (9 : Int)))]) (H' := []) ⟨rfl, rfl, rfl, trivial⟩ (Sub.refl _) ?_
      refine AW.ret (ρ' := [(4, (.fz 1 (p0.map eStr))), (5, (eI64 t7)), (6, (eI64 (9 : Int)))]) (H' := []) ⟨rfl, rfl, rfl, trivial⟩ (Sub.refl _) ?_
      have hr := Option.some.inj h
      subst hr
      exact ⟨[(.fz 1 (p0.map eStr)), (eI64 t7), (eI64 (9 : Int))], ⟨rfl, rfl, rfl, rfl, rfl, rfl, trivial⟩, rfl⟩
    · have h := (if_neg hc6).symm.trans h
      refine AW.condN ((0 : Int) ≤ t5) rfl hc6 ?_
      refine AW.seq ?_
      refine AW.reg ?_
      refine AO.calm rfl 22 rfl (by decide) (.fz 1 (p0.map eStr)) (Calm.move rfl rfl) ?_
      refine AO.calm rfl 23 rfl (by decide) (eI64 (p0.length : Int)) (Calm.lenL rfl rfl Try.underlying37) ?_
      refine AO.calm rfl 24 rfl (by decide) (eBool (decide ((300 : Int) ≤ (p0.length : Int)))) (Calm.int rfl rfl rfl rfl) ?_
      refine AO.calm rfl 21 rfl (by decide) (eBool (decide ((300 : Int) ≤ (p0.length : Int)))) (Calm.assign rfl rfl) ?_
      refine AO.nil (ρ' := [(0, (.fz 1 (p0.map eStr))), (1, (eStr p1)), (21, (eBool (decide ((300 : Int) ≤ (p0.length : Int)))))]) (H' := []) ⟨rfl, rfl, rfl, trivial⟩ (Sub.refl _) ?_
      by_cases hc8 : (300 : Int) ≤ (p0.length : Int)
      · have h := (if_pos hc8).symm.trans h
        refine AW.condP ((300 : Int) ≤ (p0.length : Int)) rfl hc8 ?_
        refine AW.seq ?_
        refine AW.reg ?_
        refine AO.calm rfl 25 rfl (by decide) (.fz 1 (p0.map eStr)) (Calm.move rfl rfl) ?_
        refine AO.calm rfl 4 rfl (by decide) (.fz 1 (p0.map eStr)) (Calm.assign rfl rfl) ?_
        refine AO.calm rfl 5 rfl (by decide) (eI64 (0 : Int)) (Calm.assign rfl rfl) ?_
        refine AO.calm rfl 6 rfl (by decide) (eI64 (6 : Int)) (Calm.assign rfl rfl) ?_
        refine AO.nil (ρ' := [(4, (.fz 1 (p0.map eStr))), (5, (eI64 (0 : Int))), (6, (eI64 (6 : Int)))]) (H' := []) ⟨rfl, rfl, rfl, trivial⟩ (Sub.refl _) ?_
        refine AW.ret (ρ' := [(4, (.fz 1 (p0.map eStr))), (5, (eI64 (0 : Int))), (6, (eI64 (6 : Int)))]) (H' := []) ⟨rfl, rfl, rfl, trivial⟩ (Sub.refl _) ?_
        have hr := Option.some.inj h
        subst hr
        exact ⟨[(.fz 1 (p0.map eStr)), (eI64 (0 : Int)), (eI64 (6 : Int))], ⟨rfl, rfl, rfl, rfl, rfl, rfl, trivial⟩, rfl⟩
      · have h := (if_neg hc8).symm.trans h
        refine AW.condN ((300 : Int) ≤ (p0.length : Int)) rfl hc8 ?_
        refine AW.skip (ρ' := [(0, (.fz 1 (p0.map eStr))), (1, (eStr p1))]) (H' := []) ⟨rfl, rfl, trivial⟩ (Sub.refl _) ?_
        refine AW.seq ?_
        refine AW.reg ?_
        refine AO.lit (Z := (eStr ByteArray.empty)) (xs := (([] : List ByteArray).map eStr)) (qs := []) rfl 26 rfl (by decide) rfl trivial Try.underlying37 sz9 zr9 lay9 rfl (by decide) (litOK (z := 1) [] rfl trivial) rfl fun n9 => ?_
        refine AO.calm rfl 27 rfl (by decide) (.fz 1 (p0.map eStr)) (Calm.move rfl rfl) ?_
        obtain ⟨hg11, h⟩ := of_guard h
        refine AO.appendL (l := ([] : List ByteArray)) (m := p0) 0 28 rfl (by decide) rfl rfl rfl rfl rfl Src.fz Try.underlying37 Try.underlying37 sz9 by9 zr9 rfl hg11 (by decide) fun n10 => ?_
        refine AO.calm rfl 29 rfl (by decide) (eStr p1) (Calm.move rfl rfl) ?_
        refine AO.lit (Z := (eStr ByteArray.empty)) (xs := (([p1] : List ByteArray).map eStr)) (qs := [(0, (eStr p1))]) rfl 30 rfl (by decide) rfl ⟨rfl, rfl, rfl, trivial⟩ Try.underlying37 sz9 zr9 lay9 rfl (by decide) (litOK (z := 1) [(eStr p1)] rfl ⟨⟨rfl, rfl⟩, trivial⟩) rfl fun n12 => ?_
        obtain ⟨hg14, h⟩ := of_guard h
        refine AO.appendL (l := (([] : List ByteArray) ++ p0)) (m := ([p1] : List ByteArray)) 1 31 rfl (by decide) rfl rfl rfl rfl rfl (Src.ownL (f := eStr) (l := ([p1] : List ByteArray)) 0 rfl) Try.underlying37 Try.underlying37 sz9 by9 zr9 rfl hg14 (by decide) fun n13 => ?_
        refine AO.calm rfl 32 rfl (by decide) (.fz 1 (p0.map eStr)) (Calm.move rfl rfl) ?_
        refine AO.calm rfl 33 rfl (by decide) (eI64 (p0.length : Int)) (Calm.lenL rfl rfl Try.underlying37) ?_
        refine AO.calm rfl 4 rfl (by decide) (.own n13 0 ((([] : List ByteArray) ++ p0) ++ ([p1] : List ByteArray)).length) (Calm.assign rfl rfl) ?_
        refine AO.calm rfl 5 rfl (by decide) (eI64 (p0.length : Int)) (Calm.assign rfl rfl) ?_
        refine AO.calm rfl 6 rfl (by decide) (eI64 (0 : Int)) (Calm.assign rfl rfl) ?_
        refine AO.nil (ρ' := [(4, (.own n13 0 ((([] : List ByteArray) ++ p0) ++ ([p1] : List ByteArray)).length)), (5, (eI64 (p0.length : Int))), (6, (eI64 (0 : Int)))]) (H' := [(n13, (.mem (.ar 1 (((([] : List ByteArray) ++ p0) ++ ([p1] : List ByteArray)).map eStr))))]) ⟨rfl, rfl, rfl, trivial⟩ (Sub.cons 1 rfl (Sub.nil _)) ?_
        refine AW.freezeS 0 [(4, (.fz 1 (((([] : List ByteArray) ++ p0) ++ ([p1] : List ByteArray)).map eStr)))] rfl ⟨fz_all rfl, trivial⟩ ?_
        refine AW.ret (ρ' := [(4, (.fz 1 (((([] : List ByteArray) ++ p0) ++ ([p1] : List ByteArray)).map eStr))), (5, (eI64 (p0.length : Int))), (6, (eI64 (0 : Int)))]) (H' := []) ⟨rfl, rfl, rfl, trivial⟩ (Sub.refl _) ?_
        have hr := Option.some.inj h
        subst hr
        exact ⟨[(.fz 1 (((([] : List ByteArray) ++ p0) ++ ([p1] : List ByteArray)).map eStr)), (eI64 (p0.length : Int)), (eI64 (0 : Int))], ⟨rfl, rfl, rfl, rfl, rfl, rfl, trivial⟩, rfl⟩
end Go.Avl.T4
/- (*bosket/symbols.Table).Names; printed by avmain.py. -/
namespace Go.Avl.T4
open Go Go.RowKit Go.Proofs Go.Avl
set_option linter.unusedVariables false
set_option maxRecDepth 100000
set_option maxHeartbeats 4000000
attribute [local irreducible] AW AO AQ Spec SpecH Calm

def symbols_Table_Names (k : Nat) (p0 : S85) : Option (List ByteArray) :=
  if (([] : List ByteArray) ++ p0.f0).length * 16 ≤ 140737488355328 then some ((([] : List ByteArray) ++ p0.f0))
  else none
theorem symbols_Table_Names_spec {k : Nat} {p0 : S85} {r : (List ByteArray)} (h : symbols_Table_Names k p0 = some r) {q0 : Nat} {q0_0 : Nat} {q0_1 : Nat} {T0 : Heap} : SpecH Try.prog 24 [(.ptr q0 0)] ((q0, (.mem (.st [(1, (.own q0_0 0 p0.f0.length)), (1, (.mp q0_1))]))) :: (q0_0, (.mem (.ar 1 (p0.f0.map eStr)))) :: (q0_1, (.map (encM Value.string eI64 p0.f1))) :: T0) (fun x H' => ∃ m, x = .own m 0 r.length ∧ Sub ((m, .mem (.ar 1 (r.map eStr))) :: (q0, (.mem (.st [(1, (.own q0_0 0 p0.f0.length)), (1, (.mp q0_1))]))) :: (q0_0, (.mem (.ar 1 (p0.f0.map eStr)))) :: (q0_1, (.map (encM Value.string eI64 p0.f1))) :: T0) H') := by
  rw [symbols_Table_Names.eq_1] at h
  refine SpecH.intro (res := [.tmp 2]) Try.func24 rfl rfl rfl (Nat.le_of_ble_eq_true rfl) ?_
  refine AW.seq ?_
  refine AW.reg ?_
  refine AO.calm rfl 2 rfl (by decide) (.fl (.slice none 0 0)) (Calm.assign rfl rfl) ?_
  refine AO.nil (ρ' := [(0, (.ptr q0 0))]) (H' := ((q0, (.mem (.st [(1, (.own q0_0 0 p0.f0.length)), (1, (.mp q0_1))]))) :: (q0_0, (.mem (.ar 1 (p0.f0.map eStr)))) :: (q0_1, (.map (encM Value.string eI64 p0.f1))) :: T0)) ⟨rfl, trivial⟩ (Sub.refl _) ?_
  refine AW.seq ?_
  refine AW.reg ?_
  refine AO.lit (Z := (eStr ByteArray.empty)) (xs := (([] : List ByteArray).map eStr)) (qs := []) rfl 3 rfl (by decide) rfl trivial Try.underlying37 sz9 zr9 lay9 rfl (by decide) (litOK (z := 1) [] rfl trivial) rfl fun n2 => ?_
  refine AO.calm rfl 4 rfl (by decide) (.ptr q0 0) (Calm.move rfl rfl) ?_
  refine AO.calm rfl 5 rfl (by decide) (.ptr q0 0) (Calm.nilCheck rfl rfl) ?_
  refine AO.calm rfl 6 rfl (by decide) (.ptr q0 0) (Calm.fldPtr rfl rfl Try.underlying85 rfl sz37 _ rfl) ?_
  refine AO.calm rfl 7 rfl (by decide) (.own q0_0 0 p0.f0.length) (Calm.load 1 rfl rfl rfl (At.cast (At.fld0 At.here) rfl) ag37 sz37) ?_
  obtain ⟨hg4, h⟩ := of_guard h
  refine AO.appendL (l := ([] : List ByteArray)) (m := p0.f0) 0 8 rfl (by decide) rfl rfl rfl rfl rfl (Src.ownL (f := eStr) (l := p0.f0) 2 rfl) Try.underlying37 Try.underlying37 sz9 by9 zr9 rfl hg4 (by decide) fun n3 => ?_
  refine AO.calm rfl 2 rfl (by decide) (.own n3 0 (([] : List ByteArray) ++ p0.f0).length) (Calm.assign rfl rfl) ?_
  refine AO.nil (ρ' := [(2, (.own n3 0 (([] : List ByteArray) ++ p0.f0).length))]) (H' := ((q0, (.mem (.st [(1, (.own q0_0 0 p0.f0.length)), (1, (.mp q0_1))]))) :: (q0_0, (.mem (.ar 1 (p0.f0.map eStr)))) :: (q0_1, (.map (encM Value.string eI64 p0.f1))) :: (n3, (.mem (.ar 1 ((([] : List ByteArray) ++ p0.f0).map eStr)))) :: T0)) ⟨rfl, trivial⟩ (Sub.cons 1 rfl (Sub.cons 1 rfl (Sub.cons 1 rfl (Sub.cons 0 rfl (Sub.refl _))))) ?_
  refine AW.ret (ρ' := [(2, (.own n3 0 (([] : List ByteArray) ++ p0.f0).length))]) (H' := ((q0, (.mem (.st [(1, (.own q0_0 0 p0.f0.length)), (1, (.mp q0_1))]))) :: (q0_0, (.mem (.ar 1 (p0.f0.map eStr)))) :: (q0_1, (.map (encM Value.string eI64 p0.f1))) :: (n3, (.mem (.ar 1 ((([] : List ByteArray) ++ p0.f0).map eStr)))) :: T0)) ⟨rfl, trivial⟩ (Sub.refl _) ?_
  have hr := Option.some.inj h
  subst hr
  exact ⟨[(.own n3 0 (([] : List ByteArray) ++ p0.f0).length)], ⟨rfl, rfl, trivial⟩, n3, rfl, (Sub.cons 3 rfl (Sub.cons 0 rfl (Sub.cons 0 rfl (Sub.cons 0 rfl (Sub.refl _)))))⟩
end Go.Avl.T4
/- bosket/bosketref16.Same; printed by avmain.py. -/
namespace Go.Avl.T4
open Go Go.RowKit Go.Proofs Go.Avl
set_option linter.unusedVariables false
set_option maxRecDepth 100000
set_option maxHeartbeats 4000000
attribute [local irreducible] AW AO AQ Spec SpecH Calm

def bosketref16_Same_c0 (k : Nat) : Option Bool :=
  some (true)
def bosketref16_Same_l1 (k : Nat) (p0 : (List ByteArray)) (p1 : (List ByteArray)) : Nat → Int → Option Bool
  | 0, _ => none
  | j + 1, x4 =>
    if x4 < (p0.length : Int) then if 0 ≤ x4 ∧ x4 < (p0.length : Int) then if 0 ≤ x4 ∧ x4 < (p1.length : Int) then if (lget p0 x4) ≠ (lget p1 x4) then some (false)
    else (bosketref16_Same_l1 k p0 p1 j) (w64 (x4 + (1 : Int)))
    else none
    else none
    else bosketref16_Same_c0 k
def bosketref16_Same (k : Nat) (p0 : (List ByteArray)) (p1 : (List ByteArray)) : Option Bool :=
  if (p0.length : Int) ≠ (p1.length : Int) then some (false)
  else bosketref16_Same_l1 k p0 p1 k (0 : Int)
theorem bosketref16_Same_spec {k : Nat} {p0 : (List ByteArray)} {p1 : (List ByteArray)} {r : Bool} (h : bosketref16_Same k p0 p1 = some r) : Spec Try.prog 25 [(.fz 1 (p0.map eStr)), (.fz 1 (p1.map eStr))] (eBool r) := by
  rw [bosketref16_Same.eq_1] at h
  refine Spec.intro (res := [.tmp 4]) Try.func25 rfl rfl rfl (Nat.le_of_ble_eq_true rfl) ?_
  refine AW.seq ?_
  refine AW.reg ?_
  refine AO.calm rfl 4 rfl (by decide) (eBool false) (Calm.assign rfl rfl) ?_
  refine AO.nil (ρ' := [(0, (.fz 1 (p0.map eStr))), (1, (.fz 1 (p1.map eStr)))]) (H' := []) ⟨rfl, rfl, trivial⟩ (Sub.refl _) ?_
  refine AW.seq ?_
  refine AW.seq ?_
  refine AW.reg ?_
  refine AO.calm rfl 6 rfl (by decide) (.fz 1 (p0.map eStr)) (Calm.move rfl rfl) ?_
  refine AO.calm rfl 7 rfl (by decide) (eI64 (p0.length : Int)) (Calm.lenL rfl rfl Try.underlying37) ?_
  refine AO.calm rfl 8 rfl (by decide) (.fz 1 (p1.map eStr)) (Calm.move rfl rfl) ?_
  refine AO.calm rfl 9 rfl (by decide) (eI64 (p1.length : Int)) (Calm.lenL rfl rfl Try.underlying37) ?_
  refine AO.calm rfl 10 rfl (by decide) (eBool (decide ((p0.length : Int) ≠ (p1.length : Int)))) (Calm.int rfl rfl rfl rfl) ?_
  refine AO.nil (ρ' := [(0, (.fz 1 (p0.map eStr))), (1, (.fz 1 (p1.map eStr))), (10, (eBool (decide ((p0.length : Int) ≠ (p1.length : Int)))))]) (H' := []) ⟨rfl, rfl, rfl, trivial⟩ (Sub.refl _) ?_
  by_cases hc3 : (p0.length : Int) ≠ (p1.length : Int)
  · have h := (if_pos hc3).symm.trans h
    refine AW.condP ((p0.length : Int) ≠ (p1.length : Int)) rfl hc3 ?_
    refine AW.seq ?_
    refine AW.reg ?_
    refine AO.calm rfl 4 rfl (by decide) (eBool false) (Calm.assign rfl rfl) ?_
    refine AO.nil (ρ' := [(4, (eBool false))]) (H' := []) ⟨rfl, trivial⟩ (Sub.refl _) ?_
    refine AW.ret (ρ' := [(4, (eBool false))]) (H' := []) ⟨rfl, trivial⟩ (Sub.refl _) ?_
    have hr := Option.some.inj h
    subst hr
    exact ⟨[(eBool false)], ⟨rfl, rfl, trivial⟩, rfl⟩
  · have h := (if_neg hc3).symm.trans h
    refine AW.condN ((p0.length : Int) ≠ (p1.length : Int)) rfl hc3 ?_
    refine AW.skip (ρ' := [(0, (.fz 1 (p0.map eStr))), (1, (.fz 1 (p1.map eStr)))]) (H' := []) ⟨rfl, rfl, trivial⟩ (Sub.refl _) ?_
    refine AW.seq_mid (fun ρ H => ρ = [] ∧ H = [] ∧ bosketref16_Same_c0 k = some r) ?_ ?_
    · refine AW.seq ?_
      refine AW.reg ?_
      refine AO.calm rfl 5 rfl (by decide) (eI64 (0 : Int)) (Calm.assign rfl rfl) ?_
      refine AO.nil (ρ' := [(0, (.fz 1 (p0.map eStr))), (1, (.fz 1 (p1.map eStr))), (5, (eI64 (0 : Int)))]) (H' := []) ⟨rfl, rfl, rfl, trivial⟩ (Sub.refl _) ?_
      refine AW.block ?_
      refine AW.weak (ρ' := [(0, (.fz 1 (p0.map eStr))), (1, (.fz 1 (p1.map eStr))), (5, (eI64 (0 : Int)))]) (H' := []) ⟨rfl, rfl, rfl, trivial⟩ (Sub.refl _) ?_
      refine AW.loop (fun kq ρ H => ∃ (x4 : Int), ρ = [(0, (.fz 1 (p0.map eStr))), (1, (.fz 1 (p1.map eStr))), (5, (eI64 x4))] ∧ H = [] ∧ bosketref16_Same_l1 k p0 p1 kq x4 = some r) k ⟨(0 : Int), rfl, rfl, h⟩ ?_
      rintro kq6 _ _ ⟨x4, rfl, rfl, h⟩
      cases kq6 with
      | zero => rw [bosketref16_Same_l1.eq_1] at h; cases h
      | succ kq6 =>
      rw [bosketref16_Same_l1.eq_2] at h
      generalize hrec5 : bosketref16_Same_l1 k p0 p1 kq6 = rec5 at h
      refine AW.seq ?_
      refine AW.seq ?_
      refine AW.reg ?_
      refine AO.calm rfl 11 rfl (by decide) (eI64 x4) (Calm.move rfl rfl) ?_
      refine AO.calm rfl 12 rfl (by decide) (.fz 1 (p0.map eStr)) (Calm.move rfl rfl) ?_
      refine AO.calm rfl 13 rfl (by decide) (eI64 (p0.length : Int)) (Calm.lenL rfl rfl Try.underlying37) ?_
      refine AO.calm rfl 14 rfl (by decide) (eBool (decide (x4 < (p0.length : Int)))) (Calm.int rfl rfl rfl rfl) ?_
      refine AO.nil (ρ' := [(0, (.fz 1 (p0.map eStr))), (1, (.fz 1 (p1.map eStr))), (5, (eI64 x4)), (14, (eBool (decide (x4 < (p0.length : Int)))))]) (H' := []) ⟨rfl, rfl, rfl, rfl, trivial⟩ (Sub.refl _) ?_
      by_cases hc7 : x4 < (p0.length : Int)
      · have h := (if_pos hc7).symm.trans h
        refine AW.condP (x4 < (p0.length : Int)) rfl hc7 ?_
        refine AW.skip (ρ' := [(0, (.fz 1 (p0.map eStr))), (1, (.fz 1 (p1.map eStr))), (5, (eI64 x4))]) (H' := []) ⟨rfl, rfl, rfl, trivial⟩ (Sub.refl _) ?_
        refine AW.seq ?_
        refine AW.block ?_
        refine AW.seq ?_
        refine AW.regQ (by rfl) (by decide +kernel) ?_
        refine AQ.calm rfl 17 rfl (by decide) (.fz 1 (p0.map eStr)) (Calm.move rfl rfl) ?_
        refine AQ.calm rfl 18 rfl (by decide) (eI64 x4) (Calm.move rfl rfl) ?_
        obtain ⟨hg8, h⟩ := of_guard h
        refine AQ.calm rfl 19 rfl (by decide) (.rp (eStr (lget p0 x4))) (Calm.idxL (f := eStr) rfl rfl rfl hg8 Try.underlying37 sz9) ?_
        refine AQ.calm rfl 20 rfl (by decide) (eStr (lget p0 x4)) (Calm.loadRp rfl rfl ag9 sz9) ?_
        refine AQ.calm rfl 21 rfl (by decide) (.fz 1 (p1.map eStr)) (Calm.move rfl rfl) ?_
        refine AQ.calm rfl 22 rfl (by decide) (eI64 x4) (Calm.move rfl rfl) ?_
        obtain ⟨hg9, h⟩ := of_guard h
        refine AQ.calm rfl 23 rfl (by decide) (.rp (eStr (lget p1 x4))) (Calm.idxL (f := eStr) rfl rfl rfl hg9 Try.underlying37 sz9) ?_
        refine AQ.calm rfl 24 rfl (by decide) (eStr (lget p1 x4)) (Calm.loadRp rfl rfl ag9 sz9) ?_
        refine AQ.calm rfl 25 rfl (by decide) (eBool (decide ((lget p0 x4) ≠ (lget p1 x4)))) (Calm.str rfl rfl rfl rfl) ?_
        refine AQ.nil (ρ' := [(0, (.fz 1 (p0.map eStr))), (1, (.fz 1 (p1.map eStr))), (5, (eI64 x4)), (25, (eBool (decide ((lget p0 x4) ≠ (lget p1 x4)))))]) ⟨rfl, rfl, rfl, rfl, trivial⟩ ?_
        by_cases hc10 : (lget p0 x4) ≠ (lget p1 x4)
        · have h := (if_pos hc10).symm.trans h
          refine AW.condP ((lget p0 x4) ≠ (lget p1 x4)) rfl hc10 ?_
          refine AW.seq ?_
          refine AW.reg ?_
          refine AO.calm rfl 4 rfl (by decide) (eBool false) (Calm.assign rfl rfl) ?_
          refine AO.nil (ρ' := [(4, (eBool false))]) (H' := []) ⟨rfl, trivial⟩ (Sub.refl _) ?_
          refine AW.ret (ρ' := [(4, (eBool false))]) (H' := []) ⟨rfl, trivial⟩ (Sub.refl _) ?_
          have hr := Option.some.inj h
          subst hr
          exact ⟨[(eBool false)], ⟨rfl, rfl, trivial⟩, rfl⟩
        · have h := (if_neg hc10).symm.trans h
          refine AW.condN ((lget p0 x4) ≠ (lget p1 x4)) rfl hc10 ?_
          refine AW.skip (ρ' := [(0, (.fz 1 (p0.map eStr))), (1, (.fz 1 (p1.map eStr))), (5, (eI64 x4))]) (H' := []) ⟨rfl, rfl, rfl, trivial⟩ (Sub.refl _) ?_
          refine AW.reg ?_
          refine AO.calm rfl 15 rfl (by decide) (eI64 x4) (Calm.move rfl rfl) ?_
          refine AO.calm rfl 16 rfl (by decide) (eI64 (w64 (x4 + (1 : Int)))) (Calm.int rfl rfl rfl rfl) ?_
          refine AO.calm rfl 5 rfl (by decide) (eI64 (w64 (x4 + (1 : Int)))) (Calm.assign rfl rfl) ?_
          refine AO.nil (ρ' := [(0, (.fz 1 (p0.map eStr))), (1, (.fz 1 (p1.map eStr))), (5, (eI64 (w64 (x4 + (1 : Int)))))]) (H' := []) ⟨rfl, rfl, rfl, trivial⟩ (Sub.refl _) ?_
          exact ⟨kq6, Nat.lt_succ_self _, (w64 (x4 + (1 : Int))), rfl, rfl, by rw [hrec5]; exact h⟩
      · have h := (if_neg hc7).symm.trans h
        refine AW.condN (x4 < (p0.length : Int)) rfl hc7 ?_
        refine AW.exit (ρ' := []) (H' := []) trivial (Sub.refl _) ?_
        exact ⟨rfl, rfl, h⟩
    · rintro _ _ ⟨rfl, rfl, h⟩
      rw [bosketref16_Same_c0.eq_1] at h
      refine AW.seq ?_
      refine AW.reg ?_
      refine AO.calm rfl 4 rfl (by decide) (eBool true) (Calm.assign rfl rfl) ?_
      refine AO.nil (ρ' := [(4, (eBool true))]) (H' := []) ⟨rfl, trivial⟩ (Sub.refl _) ?_
      refine AW.ret (ρ' := [(4, (eBool true))]) (H' := []) ⟨rfl, trivial⟩ (Sub.refl _) ?_
      have hr := Option.some.inj h
      subst hr
      exact ⟨[(eBool true)], ⟨rfl, rfl, trivial⟩, rfl⟩
end Go.Avl.T4
/- (*bosket/symbols.Table).Len; printed by avmain.py. -/
namespace Go.Avl.T4
open Go Go.RowKit Go.Proofs Go.Avl
set_option linter.unusedVariables false
set_option maxRecDepth 100000
set_option maxHeartbeats 4000000
attribute [local irreducible] AW AO AQ Spec SpecH Calm

def symbols_Table_Len (k : Nat) (p0 : S85) : Option Int :=
  some ((p0.f0.length : Int))
theorem symbols_Table_Len_spec {k : Nat} {p0 : S85} {r : Int} (h : symbols_Table_Len k p0 = some r) {q0 : Nat} {q0_0 : Nat} {q0_1 : Nat} {T0 : Heap} : SpecH Try.prog 28 [(.ptr q0 0)] ((q0, (.mem (.st [(1, (.own q0_0 0 p0.f0.length)), (1, (.mp q0_1))]))) :: (q0_0, (.mem (.ar 1 (p0.f0.map eStr)))) :: (q0_1, (.map (encM Value.string eI64 p0.f1))) :: T0) (fun x H' => x = eI64 r ∧ Sub ((q0, (.mem (.st [(1, (.own q0_0 0 p0.f0.length)), (1, (.mp q0_1))]))) :: (q0_0, (.mem (.ar 1 (p0.f0.map eStr)))) :: (q0_1, (.map (encM Value.string eI64 p0.f1))) :: T0) H') := by
  rw [symbols_Table_Len.eq_1] at h
  refine SpecH.intro (res := [.tmp 2]) Try.func28 rfl rfl rfl (Nat.le_of_ble_eq_true rfl) ?_
  refine AW.seq ?_
  refine AW.reg ?_
  refine AO.calm rfl 2 rfl (by decide) (eI64 (0 : Int)) (Calm.assign rfl rfl) ?_
  refine AO.nil (ρ' := [(0, (.ptr q0 0))]) (H' := ((q0, (.mem (.st [(1, (.own q0_0 0 p0.f0.length)), (1, (.mp q0_1))]))) :: (q0_0, (.mem (.ar 1 (p0.f0.map eStr)))) :: (q0_1, (.map (encM Value.string eI64 p0.f1))) :: T0)) ⟨rfl, trivial⟩ (Sub.refl _) ?_
  refine AW.seq ?_
  refine AW.reg ?_
  refine AO.calm rfl 3 rfl (by decide) (.ptr q0 0) (Calm.move rfl rfl) ?_
  refine AO.calm rfl 4 rfl (by decide) (.ptr q0 0) (Calm.nilCheck rfl rfl) ?_
  refine AO.calm rfl 5 rfl (by decide) (.ptr q0 0) (Calm.fldPtr rfl rfl Try.underlying85 rfl sz37 _ rfl) ?_
  refine AO.calm rfl 6 rfl (by decide) (.own q0_0 0 p0.f0.length) (Calm.load 0 rfl rfl rfl (At.cast (At.fld0 At.here) rfl) ag37 sz37) ?_
  refine AO.calm rfl 7 rfl (by decide) (eI64 (p0.f0.length : Int)) (Calm.lenOwn rfl rfl Try.underlying37) ?_
  refine AO.calm rfl 2 rfl (by decide) (eI64 (p0.f0.length : Int)) (Calm.assign rfl rfl) ?_
  refine AO.nil (ρ' := [(2, (eI64 (p0.f0.length : Int)))]) (H' := ((q0, (.mem (.st [(1, (.own q0_0 0 p0.f0.length)), (1, (.mp q0_1))]))) :: (q0_0, (.mem (.ar 1 (p0.f0.map eStr)))) :: (q0_1, (.map (encM Value.string eI64 p0.f1))) :: T0)) ⟨rfl, trivial⟩ (Sub.refl _) ?_
  refine AW.ret (ρ' := [(2, (eI64 (p0.f0.length : Int)))]) (H' := ((q0, (.mem (.st [(1, (.own q0_0 0 p0.f0.length)), (1, (.mp q0_1))]))) :: (q0_0, (.mem (.ar 1 (p0.f0.map eStr)))) :: (q0_1, (.map (encM Value.string eI64 p0.f1))) :: T0)) ⟨rfl, trivial⟩ (Sub.refl _) ?_
  have hr := Option.some.inj h
  subst hr
  exact ⟨[(eI64 (p0.f0.length : Int))], ⟨rfl, rfl, trivial⟩, rfl, (Sub.cons 0 rfl (Sub.cons 0 rfl (Sub.cons 0 rfl (Sub.refl _))))⟩
end Go.Avl.T4
/- (*bosket/symbols.Table).Find; printed by avmain.py. -/
namespace Go.Avl.T4
open Go Go.RowKit Go.Proofs Go.Avl
set_option linter.unusedVariables false
set_option maxRecDepth 100000
set_option maxHeartbeats 4000000
attribute [local irreducible] AW AO AQ Spec SpecH Calm

def symbols_Table_Find (k : Nat) (p0 : S85) (p1 : ByteArray) : Option Int :=
  if ((mget p0.f1 p1).isSome) = true then some (((mget p0.f1 p1).getD (0 : Int)))
  else some ((-1 : Int))
theorem symbols_Table_Find_spec {k : Nat} {p0 : S85} {p1 : ByteArray} {r : Int} (h : symbols_Table_Find k p0 p1 = some r) {q0 : Nat} {q0_0 : Nat} {q0_1 : Nat} {T0 : Heap} : SpecH Try.prog 29 [(.ptr q0 0), (eStr p1)] ((q0, (.mem (.st [(1, (.own q0_0 0 p0.f0.length)), (1, (.mp q0_1))]))) :: (q0_0, (.mem (.ar 1 (p0.f0.map eStr)))) :: (q0_1, (.map (encM Value.string eI64 p0.f1))) :: T0) (fun x H' => x = eI64 r ∧ Sub ((q0, (.mem (.st [(1, (.own q0_0 0 p0.f0.length)), (1, (.mp q0_1))]))) :: (q0_0, (.mem (.ar 1 (p0.f0.map eStr)))) :: (q0_1, (.map (encM Value.string eI64 p0.f1))) :: T0) H') := by
  rw [symbols_Table_Find.eq_1] at h
  refine SpecH.intro (res := [.tmp 4]) Try.func29 rfl rfl rfl (Nat.le_of_ble_eq_true rfl) ?_
  refine AW.seq ?_
  refine AW.reg ?_
  refine AO.calm rfl 4 rfl (by decide) (eI64 (0 : Int)) (Calm.assign rfl rfl) ?_
  refine AO.nil (ρ' := [(0, (.ptr q0 0)), (1, (eStr p1))]) (H' := ((q0, (.mem (.st [(1, (.own q0_0 0 p0.f0.length)), (1, (.mp q0_1))]))) :: (q0_0, (.mem (.ar 1 (p0.f0.map eStr)))) :: (q0_1, (.map (encM Value.string eI64 p0.f1))) :: T0)) ⟨rfl, rfl, trivial⟩ (Sub.refl _) ?_
  refine AW.seq ?_
  refine AW.seq ?_
  refine AW.reg ?_
  refine AO.calm rfl 8 rfl (by decide) (.ptr q0 0) (Calm.move rfl rfl) ?_
  refine AO.calm rfl 9 rfl (by decide) (.ptr q0 0) (Calm.nilCheck rfl rfl) ?_
  refine AO.calm rfl 10 rfl (by decide) (.ptr q0 1) (Calm.fldPtr rfl rfl Try.underlying85 rfl sz83 _ rfl) ?_
  refine AO.calm rfl 11 rfl (by decide) (.mp q0_1) (Calm.load 0 rfl rfl rfl (At.cast (At.fldS (At.fld0 At.here)) rfl) ag83 sz83) ?_
  refine AO.calm rfl 12 rfl (by decide) (eStr p1) (Calm.move rfl rfl) ?_
  refine AO.calm rfl 13 rfl (by decide) (.tup [(eI64 ((mget p0.f1 p1).getD (0 : Int))), (eBool ((mget p0.f1 p1).isSome))]) (Calm.look2 (f := eI64) string_inj string_key (0 : Int) 2 rfl rfl rfl rfl Try.underlying83 Try.underlying9 mz3) ?_
  refine AO.calm rfl 7 rfl (by decide) (.tup [(eI64 ((mget p0.f1 p1).getD (0 : Int))), (eBool ((mget p0.f1 p1).isSome))]) (Calm.move rfl rfl) ?_
  refine AO.calm rfl 14 rfl (by decide) (eI64 ((mget p0.f1 p1).getD (0 : Int))) (Calm.extract rfl rfl rfl) ?_
  refine AO.calm rfl 15 rfl (by decide) (eBool ((mget p0.f1 p1).isSome)) (Calm.extract rfl rfl rfl) ?_
  refine AO.calm rfl 5 rfl (by decide) (eI64 ((mget p0.f1 p1).getD (0 : Int))) (Calm.assign rfl rfl) ?_
  refine AO.calm rfl 6 rfl (by decide) (eBool ((mget p0.f1 p1).isSome)) (Calm.assign rfl rfl) ?_
  refine AO.nil (ρ' := [(5, (eI64 ((mget p0.f1 p1).getD (0 : Int)))), (6, (eBool ((mget p0.f1 p1).isSome)))]) (H' := ((q0, (.mem (.st [(1, (.own q0_0 0 p0.f0.length)), (1, (.mp q0_1))]))) :: (q0_0, (.mem (.ar 1 (p0.f0.map eStr)))) :: (q0_1, (.map (encM Value.string eI64 p0.f1))) :: T0)) ⟨rfl, rfl, trivial⟩ (Sub.refl _) ?_
  refine AW.seq ?_
  refine AW.reg ?_
  refine AO.calm rfl 16 rfl (by decide) (eBool ((mget p0.f1 p1).isSome)) (Calm.move rfl rfl) ?_
  refine AO.nil (ρ' := [(5, (eI64 ((mget p0.f1 p1).getD (0 : Int)))), (16, (eBool ((mget p0.f1 p1).isSome)))]) (H' := ((q0, (.mem (.st [(1, (.own q0_0 0 p0.f0.length)), (1, (.mp q0_1))]))) :: (q0_0, (.mem (.ar 1 (p0.f0.map eStr)))) :: (q0_1, (.map (encM Value.string eI64 p0.f1))) :: T0)) ⟨rfl, rfl, trivial⟩ (Sub.refl _) ?_
  by_cases hc3 : ((mget p0.f1 p1).isSome) = true
  · have h := (if_pos hc3).symm.trans h
    refine AW.condT' ((mget p0.f1 p1).isSome) rfl hc3 ?_
    refine AW.seq ?_
    refine AW.reg ?_
    refine AO.calm rfl 17 rfl (by decide) (eI64 ((mget p0.f1 p1).getD (0 : Int))) (Calm.move rfl rfl) ?_
    refine AO.calm rfl 4 rfl (by decide) (eI64 ((mget p0.f1 p1).getD (0 : Int))) (Calm.assign rfl rfl) ?_
    refine AO.nil (ρ' := [(4, (eI64 ((mget p0.f1 p1).getD (0 : Int))))]) (H' := ((q0, (.mem (.st [(1, (.own q0_0 0 p0.f0.length)), (1, (.mp q0_1))]))) :: (q0_0, (.mem (.ar 1 (p0.f0.map eStr)))) :: (q0_1, (.map (encM Value.string eI64 p0.f1))) :: T0)) ⟨rfl, trivial⟩ (Sub.refl _) ?_
    refine AW.ret (ρ' := [(4, (eI64 ((mget p0.f1 p1).getD (0 : Int))))]) (H' := ((q0, (.mem (.st [(1, (.own q0_0 0 p0.f0.length)), (1, (.mp q0_1))]))) :: (q0_0, (.mem (.ar 1 (p0.f0.map eStr)))) :: (q0_1, (.map (encM Value.string eI64 p0.f1))) :: T0)) ⟨rfl, trivial⟩ (Sub.refl _) ?_
    have hr := Option.some.inj h
    subst hr
    exact ⟨[(eI64 ((mget p0.f1 p1).getD (0 : Int)))], ⟨rfl, rfl, trivial⟩, rfl, (Sub.cons 0 rfl (Sub.cons 0 rfl (Sub.cons 0 rfl (Sub.refl _))))⟩
  · have h := (if_neg hc3).symm.trans h
    refine AW.condF' ((mget p0.f1 p1).isSome) rfl hc3 ?_
    refine AW.skip (ρ' := []) (H' := ((q0, (.mem (.st [(1, (.own q0_0 0 p0.f0.length)), (1, (.mp q0_1))]))) :: (q0_0, (.mem (.ar 1 (p0.f0.map eStr)))) :: (q0_1, (.map (encM Value.string eI64 p0.f1))) :: T0)) trivial (Sub.refl _) ?_
    refine AW.seq ?_
    refine AW.reg ?_
    refine AO.calm rfl 4 rfl (by decide) (eI64 (-1 : Int)) (Calm.assign rfl rfl) ?_
    refine AO.nil (ρ' := [(4, (eI64 (-1 : Int)))]) (H' := ((q0, (.mem (.st [(1, (.own q0_0 0 p0.f0.length)), (1, (.mp q0_1))]))) :: (q0_0, (.mem (.ar 1 (p0.f0.map eStr)))) :: (q0_1, (.map (encM Value.string eI64 p0.f1))) :: T0)) ⟨rfl, trivial⟩ (Sub.refl _) ?_
    refine AW.ret (ρ' := [(4, (eI64 (-1 : Int)))]) (H' := ((q0, (.mem (.st [(1, (.own q0_0 0 p0.f0.length)), (1, (.mp q0_1))]))) :: (q0_0, (.mem (.ar 1 (p0.f0.map eStr)))) :: (q0_1, (.map (encM Value.string eI64 p0.f1))) :: T0)) ⟨rfl, trivial⟩ (Sub.refl _) ?_
    have hr := Option.some.inj h
    subst hr
    exact ⟨[(eI64 (-1 : Int))], ⟨rfl, rfl, trivial⟩, rfl, (Sub.cons 0 rfl (Sub.cons 0 rfl (Sub.cons 0 rfl (Sub.refl _))))⟩
end Go.Avl.T4
/- (*bosket/symbols.Table).Name; printed by avmain.py. -/
namespace Go.Avl.T4
open Go Go.RowKit Go.Proofs Go.Avl
set_option linter.unusedVariables false
set_option maxRecDepth 100000
set_option maxHeartbeats 4000000
attribute [local irreducible] AW AO AQ Spec SpecH Calm

def symbols_Table_Name (k : Nat) (p0 : S85) (p1 : Int) : Option ByteArray :=
  Option.bind (α := Bool) (if p1 < (0 : Int) then some (true)
  else some (decide ((p0.f0.length : Int) ≤ p1))) fun b3 =>
  if b3 = true then some ((ByteArray.mk #[]))
  else if 0 ≤ p1 ∧ p1 < (p0.f0.length : Int) then some ((lget p0.f0 p1))
  else none
theorem symbols_Table_Name_spec {k : Nat} {p0 : S85} {p1 : Int} {r : ByteArray} (h : symbols_Table_Name k p0 p1 = some r) {q0 : Nat} {q0_0 : Nat} {q0_1 : Nat} {T0 : Heap} : SpecH Try.prog 31 [(.ptr q0 0), (eI64 p1)] ((q0, (.mem (.st [(1, (.own q0_0 0 p0.f0.length)), (1, (.mp q0_1))]))) :: (q0_0, (.mem (.ar 1 (p0.f0.map eStr)))) :: (q0_1, (.map (encM Value.string eI64 p0.f1))) :: T0) (fun x H' => x = eStr r ∧ Sub ((q0, (.mem (.st [(1, (.own q0_0 0 p0.f0.length)), (1, (.mp q0_1))]))) :: (q0_0, (.mem (.ar 1 (p0.f0.map eStr)))) :: (q0_1, (.map (encM Value.string eI64 p0.f1))) :: T0) H') := by
  rw [symbols_Table_Name.eq_1] at h
  refine SpecH.intro (res := [.tmp 4]) Try.func31 rfl rfl rfl (Nat.le_of_ble_eq_true rfl) ?_
  refine AW.seq ?_
  refine AW.reg ?_
  refine AO.calm rfl 4 rfl (by decide) (eStr (ByteArray.mk #[])) (Calm.assign rfl rfl) ?_
  refine AO.nil (ρ' := [(0, (.ptr q0 0)), (1, (eI64 p1))]) (H' := ((q0, (.mem (.st [(1, (.own q0_0 0 p0.f0.length)), (1, (.mp q0_1))]))) :: (q0_0, (.mem (.ar 1 (p0.f0.map eStr)))) :: (q0_1, (.map (encM Value.string eI64 p0.f1))) :: T0)) ⟨rfl, rfl, trivial⟩ (Sub.refl _) ?_
  refine AW.seq ?_
  refine AW.seq ?_
  obtain ⟨b3, hq4, h⟩ := of_bind h
  refine AW.regM [(0, (.ptr q0 0)), (1, (eI64 p1)), (15, (eBool b3))] ((q0, (.mem (.st [(1, (.own q0_0 0 p0.f0.length)), (1, (.mp q0_1))]))) :: (q0_0, (.mem (.ar 1 (p0.f0.map eStr)))) :: (q0_1, (.map (encM Value.string eI64 p0.f1))) :: T0) ?_ ?_
  · refine AO.calm rfl 5 rfl (by decide) (eI64 p1) (Calm.move rfl rfl) ?_
    refine AO.calm rfl 6 rfl (by decide) (eBool (decide (p1 < (0 : Int)))) (Calm.int rfl rfl rfl rfl) ?_
    refine AO.calm rfl 7 rfl (by decide) (eBool (decide (p1 < (0 : Int)))) (Calm.move rfl rfl) ?_
    by_cases hc5 : p1 < (0 : Int)
    · have hq4 := (if_pos hc5).symm.trans hq4
      refine AO.skipG 2 true 7 rfl rfl (congrArg (fun b => some (AV.fl (Value.bool b))) (decide_eq_true hc5)) 8 rfl (by decide) ?_
      refine AO.skipG 2 true 7 rfl rfl (congrArg (fun b => some (AV.fl (Value.bool b))) (decide_eq_true hc5)) 9 rfl (by decide) ?_
      refine AO.skipG 2 true 7 rfl rfl (congrArg (fun b => some (AV.fl (Value.bool b))) (decide_eq_true hc5)) 10 rfl (by decide) ?_
      refine AO.skipG 2 true 7 rfl rfl (congrArg (fun b => some (AV.fl (Value.bool b))) (decide_eq_true hc5)) 11 rfl (by decide) ?_
      refine AO.skipG 2 true 7 rfl rfl (congrArg (fun b => some (AV.fl (Value.bool b))) (decide_eq_true hc5)) 12 rfl (by decide) ?_
      refine AO.skipG 2 true 7 rfl rfl (congrArg (fun b => some (AV.fl (Value.bool b))) (decide_eq_true hc5)) 13 rfl (by decide) ?_
      refine AO.skipG 2 true 7 rfl rfl (congrArg (fun b => some (AV.fl (Value.bool b))) (decide_eq_true hc5)) 14 rfl (by decide) ?_
      refine AO.calm rfl 15 rfl (by decide) (eBool true) (Calm.pickT rfl (congrArg (fun b => some (AV.fl (Value.bool b))) (decide_eq_true hc5)) rfl) ?_
      cases hq4
      refine AO.nilE ⟨rfl, rfl⟩ ?_ ?_
      · exact ⟨rfl, rfl, rfl, trivial⟩
      · exact (Sub.refl _)
    · have hq4 := (if_neg hc5).symm.trans hq4
      refine AO.calmG 2 false 7 rfl rfl (congrArg (fun b => some (AV.fl (Value.bool b))) (decide_eq_false hc5)) 8 rfl (by decide) (eI64 p1) (Calm.move rfl rfl) ?_
      refine AO.calmG 2 false 7 rfl rfl (congrArg (fun b => some (AV.fl (Value.bool b))) (decide_eq_false hc5)) 9 rfl (by decide) (.ptr q0 0) (Calm.move rfl rfl) ?_
      refine AO.calmG 2 false 7 rfl rfl (congrArg (fun b => some (AV.fl (Value.bool b))) (decide_eq_false hc5)) 10 rfl (by decide) (.ptr q0 0) (Calm.nilCheck rfl rfl) ?_
      refine AO.calmG 2 false 7 rfl rfl (congrArg (fun b => some (AV.fl (Value.bool b))) (decide_eq_false hc5)) 11 rfl (by decide) (.ptr q0 0) (Calm.fldPtr rfl rfl Try.underlying85 rfl sz37 _ rfl) ?_
      refine AO.calmG 2 false 7 rfl rfl (congrArg (fun b => some (AV.fl (Value.bool b))) (decide_eq_false hc5)) 12 rfl (by decide) (.own q0_0 0 p0.f0.length) (Calm.load 0 rfl rfl rfl (At.cast (At.fld0 At.here) rfl) ag37 sz37) ?_
      refine AO.calmG 2 false 7 rfl rfl (congrArg (fun b => some (AV.fl (Value.bool b))) (decide_eq_false hc5)) 13 rfl (by decide) (eI64 (p0.f0.length : Int)) (Calm.lenOwn rfl rfl Try.underlying37) ?_
      refine AO.calmG 2 false 7 rfl rfl (congrArg (fun b => some (AV.fl (Value.bool b))) (decide_eq_false hc5)) 14 rfl (by decide) (eBool (decide ((p0.f0.length : Int) ≤ p1))) (Calm.int rfl rfl rfl rfl) ?_
      refine AO.calm rfl 15 rfl (by decide) (eBool (decide ((p0.f0.length : Int) ≤ p1))) (Calm.pickF rfl (congrArg (fun b => some (AV.fl (Value.bool b))) (decide_eq_false hc5)) rfl) ?_
      cases hq4
      refine AO.nilE ⟨rfl, rfl⟩ ?_ ?_
      · exact ⟨rfl, rfl, rfl, trivial⟩
      · exact (Sub.refl _)
  · by_cases hc6 : b3 = true
    · have h := (if_pos hc6).symm.trans h
      refine AW.condT' b3 rfl hc6 ?_
      refine AW.seq ?_
      refine AW.reg ?_
      refine AO.calm rfl 4 rfl (by decide) (eStr (ByteArray.mk #[])) (Calm.assign rfl rfl) ?_
      refine AO.nil (ρ' := [(4, (eStr (ByteArray.mk #[])))]) (H' := ((q0, (.mem (.st [(1, (.own q0_0 0 p0.f0.length)), (1, (.mp q0_1))]))) :: (q0_0, (.mem (.ar 1 (p0.f0.map eStr)))) :: (q0_1, (.map (encM Value.string eI64 p0.f1))) :: T0)) ⟨rfl, trivial⟩ (Sub.refl _) ?_
      refine AW.ret (ρ' := [(4, (eStr (ByteArray.mk #[])))]) (H' := ((q0, (.mem (.st [(1, (.own q0_0 0 p0.f0.length)), (1, (.mp q0_1))]))) :: (q0_0, (.mem (.ar 1 (p0.f0.map eStr)))) :: (q0_1, (.map (encM Value.string eI64 p0.f1))) :: T0)) ⟨rfl, trivial⟩ (Sub.refl _) ?_
      have hr := Option.some.inj h
      subst hr
      exact ⟨[(eStr (ByteArray.mk #[]))], ⟨rfl, rfl, trivial⟩, rfl, (Sub.cons 0 rfl (Sub.cons 0 rfl (Sub.cons 0 rfl (Sub.refl _))))⟩
    · have h := (if_neg hc6).symm.trans h
      refine AW.condF' b3 rfl hc6 ?_
      refine AW.skip (ρ' := [(0, (.ptr q0 0)), (1, (eI64 p1))]) (H' := ((q0, (.mem (.st [(1, (.own q0_0 0 p0.f0.length)), (1, (.mp q0_1))]))) :: (q0_0, (.mem (.ar 1 (p0.f0.map eStr)))) :: (q0_1, (.map (encM Value.string eI64 p0.f1))) :: T0)) ⟨rfl, rfl, trivial⟩ (Sub.refl _) ?_
      refine AW.seq ?_
      refine AW.reg ?_
      refine AO.calm rfl 16 rfl (by decide) (.ptr q0 0) (Calm.move rfl rfl) ?_
      refine AO.calm rfl 17 rfl (by decide) (.ptr q0 0) (Calm.nilCheck rfl rfl) ?_
      refine AO.calm rfl 18 rfl (by decide) (.ptr q0 0) (Calm.fldPtr rfl rfl Try.underlying85 rfl sz37 _ rfl) ?_
      refine AO.calm rfl 19 rfl (by decide) (.own q0_0 0 p0.f0.length) (Calm.load 0 rfl rfl rfl (At.cast (At.fld0 At.here) rfl) ag37 sz37) ?_
      refine AO.calm rfl 20 rfl (by decide) (eI64 p1) (Calm.move rfl rfl) ?_
      obtain ⟨hg7, h⟩ := of_guard h
      refine AO.calm rfl 21 rfl (by decide) (.ptr q0_0 (p1.toNat * 1 + 0)) (Calm.idxO 1 rfl rfl rfl rfl hg7 Try.underlying37 sz9) ?_
      refine AO.calm rfl 22 rfl (by decide) (eStr (lget p0.f0 p1)) (Calm.load 1 rfl rfl rfl (At.cast (At.lidx p1 hg7.1 hg7.2 At.here) (by omega)) ag9 sz9) ?_
      refine AO.calm rfl 4 rfl (by decide) (eStr (lget p0.f0 p1)) (Calm.assign rfl rfl) ?_
      refine AO.nil (ρ' := [(4, (eStr (lget p0.f0 p1)))]) (H' := ((q0, (.mem (.st [(1, (.own q0_0 0 p0.f0.length)), (1, (.mp q0_1))]))) :: (q0_0, (.mem (.ar 1 (p0.f0.map eStr)))) :: (q0_1, (.map (encM Value.string eI64 p0.f1))) :: T0)) ⟨rfl, trivial⟩ (Sub.refl _) ?_
      refine AW.ret (ρ' := [(4, (eStr (lget p0.f0 p1)))]) (H' := ((q0, (.mem (.st [(1, (.own q0_0 0 p0.f0.length)), (1, (.mp q0_1))]))) :: (q0_0, (.mem (.ar 1 (p0.f0.map eStr)))) :: (q0_1, (.map (encM Value.string eI64 p0.f1))) :: T0)) ⟨rfl, trivial⟩ (Sub.refl _) ?_
      have hr := Option.some.inj h
      subst hr
      exact ⟨[(eStr (lget p0.f0 p1))], ⟨rfl, rfl, trivial⟩, rfl, (Sub.cons 0 rfl (Sub.cons 0 rfl (Sub.cons 0 rfl (Sub.refl _))))⟩
end Go.Avl.T4
/- bosket/bosketlaw16.SymbolsOf; printed by avmain.py. -/
namespace Go.Avl.T4
open Go Go.RowKit Go.Proofs Go.Avl
set_option linter.unusedVariables false
set_option maxRecDepth 100000
set_option maxHeartbeats 4000000
attribute [local irreducible] AW AO AQ Spec SpecH Calm

def bosketlaw16_SymbolsOf_c0 (k : Nat) : Option Bool :=
  some (false)
def bosketlaw16_SymbolsOf_l1 (k : Nat) (p0 : (List ByteArray)) (t6 : ((Option S85) × Int × Int)) : Nat → (List ByteArray) → Int → Option Bool
  | 0, _, _ => none
  | j + 1, x13, x14 =>
    if x14 < (p0.length : Int) then if 0 ≤ x14 ∧ x14 < (p0.length : Int) then (bosketref16_Add k x13 (lget p0 x14)).bind fun t19 =>
    if t19.2.2 ≠ (0 : Int) then Option.bind (α := Bool) (if t6.2.1 = x14 then some (decide (t6.2.2 = t19.2.2))
    else some (false)) fun b21 =>
    some (b21)
    else (bosketlaw16_SymbolsOf_l1 k p0 t6 j) t19.1 (w64 (x14 + (1 : Int)))
    else none
    else bosketlaw16_SymbolsOf_c0 k
def bosketlaw16_SymbolsOf_c2 (k : Nat) (p0 : (List ByteArray)) (x8 : S85) : Option Bool :=
  (symbols_Table_Names k (S85.mk x8.f0 x8.f1)).bind fun t31 =>
  (bosketref16_Same k t31 p0).bind fun t34 =>
  some (t34)
def bosketlaw16_SymbolsOf_l3 (k : Nat) (p0 : (List ByteArray)) (x8 : S85) : Nat → (List ByteArray) → Int → Option Bool
  | 0, _, _ => none
  | j + 1, x35, x36 =>
    if x36 < (x35.length : Int) then if 0 ≤ x36 ∧ x36 < (x35.length : Int) then (bosketlaw16_SymbolsOf_l3 k p0 x8 j) (lset x35 x36 (ByteArray.mk #[120])) (w64 (x36 + (1 : Int)))
    else none
    else bosketlaw16_SymbolsOf_c2 k p0 x8
def bosketlaw16_SymbolsOf_c4 (k : Nat) (p0 : (List ByteArray)) (t6 : ((Option S85) × Int × Int)) (x8 : S85) : Option Bool :=
  Option.bind (α := Bool) (if t6.2.1 ≠ (p0.length : Int) then some (true)
  else some (decide (t6.2.2 ≠ (0 : Int)))) fun b24 =>
  if b24 = true then some (false)
  else (symbols_Table_Names k (S85.mk x8.f0 x8.f1)).bind fun t28 =>
  bosketlaw16_SymbolsOf_l3 k p0 x8 k t28 (0 : Int)
def bosketlaw16_SymbolsOf_l5 (k : Nat) (p0 : (List ByteArray)) (t6 : ((Option S85) × Int × Int)) (x8 : S85) : Nat → (List ByteArray) → Int → Option Bool
  | 0, _, _ => none
  | j + 1, x41, x42 =>
    if x42 < (p0.length : Int) then if 0 ≤ x42 ∧ x42 < (p0.length : Int) then (bosketref16_Add k x41 (lget p0 x42)).bind fun t47 =>
    if t47.2.2 ≠ (0 : Int) then some (false)
    else (bosketlaw16_SymbolsOf_l5 k p0 t6 x8 j) t47.1 (w64 (x42 + (1 : Int)))
    else none
    else bosketlaw16_SymbolsOf_c4 k p0 t6 x8
def bosketlaw16_SymbolsOf (k : Nat) (p0 : (List ByteArray)) : Option Bool :=
  (bosketlaw16_awake k).bind fun t2 =>
  if (!t2) = true then some (false)
  else (bosketlaw16_few k p0).bind fun t4 =>
  if (!t4) = true then some (true)
  else (symbols_Of k p0).bind fun t6 =>
  (t6.1).elim (bosketlaw16_SymbolsOf_l1 k p0 t6 k [] (0 : Int)) (fun x8 =>
  bosketlaw16_SymbolsOf_l5 k p0 t6 x8 k [] (0 : Int))
theorem bosketlaw16_SymbolsOf_spec {k : Nat} {p0 : (List ByteArray)} {r : Bool} (h : bosketlaw16_SymbolsOf k p0 = some r) : Spec Try.prog 5 [(.fz 1 (p0.map eStr))] (eBool r) := by
  rw [bosketlaw16_SymbolsOf.eq_1] at h
  refine Spec.intro (res := [.tmp 2]) Try.func5 rfl rfl rfl (Nat.le_of_ble_eq_true rfl) ?_
  refine AW.seq ?_
  refine AW.reg ?_
  refine AO.calm rfl 2 rfl (by decide) (eBool false) (Calm.assign rfl rfl) ?_
  refine AO.nil (ρ' := [(0, (.fz 1 (p0.map eStr)))]) (H' := []) ⟨rfl, trivial⟩ (Sub.refl _) ?_
  refine AW.seq ?_
  refine AW.seq ?_
  refine AW.reg ?_
  obtain ⟨t2, et2, h⟩ := of_bind h
  refine AO.callS [] (eBool t2) 13 rfl (by decide) ok20 rfl rfl rfl trivial (bosketlaw16_awake_spec et2) ?_
  refine AO.calm rfl 14 rfl (by decide) (eBool (!t2)) (Calm.not rfl rfl) ?_
  refine AO.nil (ρ' := [(0, (.fz 1 (p0.map eStr))), (14, (eBool (!t2)))]) (H' := []) ⟨rfl, rfl, trivial⟩ (Sub.refl _) ?_
  by_cases hc3 : (!t2) = true
  · have h := (if_pos hc3).symm.trans h
    refine AW.condT' (!t2) rfl hc3 ?_
    refine AW.seq ?_
    refine AW.reg ?_
    refine AO.calm rfl 2 rfl (by decide) (eBool false) (Calm.assign rfl rfl) ?_
    refine AO.nil (ρ' := [(2, (eBool false))]) (H' := []) ⟨rfl, trivial⟩ (Sub.refl _) ?_
    refine AW.ret (ρ' := [(2, (eBool false))]) (H' := []) ⟨rfl, trivial⟩ (Sub.refl _) ?_
    have hr := Option.some.inj h
    subst hr
    exact ⟨[(eBool false)], ⟨rfl, rfl, trivial⟩, rfl⟩
  · have h := (if_neg hc3).symm.trans h
    refine AW.condF' (!t2) rfl hc3 ?_
    refine AW.skip (ρ' := [(0, (.fz 1 (p0.map eStr)))]) (H' := []) ⟨rfl, trivial⟩ (Sub.refl _) ?_
    refine AW.seq ?_
    refine AW.seq ?_
    refine AW.reg ?_
    refine AO.calm rfl 15 rfl (by decide) (.fz 1 (p0.map eStr)) (Calm.move rfl rfl) ?_
    obtain ⟨t4, et4, h⟩ := of_bind h
    refine AO.callS [(.fz 1 (p0.map eStr))] (eBool t4) 16 rfl (by decide) ok21 rfl rfl rfl ⟨rfl, rfl, trivial⟩ (bosketlaw16_few_spec et4) ?_
    refine AO.calm rfl 17 rfl (by decide) (eBool (!t4)) (Calm.not rfl rfl) ?_
    refine AO.nil (ρ' := [(0, (.fz 1 (p0.map eStr))), (17, (eBool (!t4)))]) (H' := []) ⟨rfl, rfl, trivial⟩ (Sub.refl _) ?_
    by_cases hc5 : (!t4) = true
    · have h := (if_pos hc5).symm.trans h
      refine AW.condT' (!t4) rfl hc5 ?_
      refine AW.seq ?_
      refine AW.reg ?_
      refine AO.calm rfl 2 rfl (by decide) (eBool true) (Calm.assign rfl rfl) ?_
      refine AO.nil (ρ' := [(2, (eBool true))]) (H' := []) ⟨rfl, trivial⟩ (Sub.refl _) ?_
      refine AW.ret (ρ' := [(2, (eBool true))]) (H' := []) ⟨rfl, trivial⟩ (Sub.refl _) ?_
      have hr := Option.some.inj h
      subst hr
      exact ⟨[(eBool true)], ⟨rfl, rfl, trivial⟩, rfl⟩
    · have h := (if_neg hc5).symm.trans h
      refine AW.condF' (!t4) rfl hc5 ?_
      refine AW.skip (ρ' := [(0, (.fz 1 (p0.map eStr)))]) (H' := []) ⟨rfl, trivial⟩ (Sub.refl _) ?_
      refine AW.seq ?_
      refine AW.reg ?_
      refine AO.calm rfl 19 rfl (by decide) (.fz 1 (p0.map eStr)) (Calm.move rfl rfl) ?_
      obtain ⟨t6, et6, h⟩ := of_bind h
      cases ho9 : t6.1 with
      | none =>
        have h := of_elimN ho9 h
        refine AO.callH [(.fz 1 (p0.map eStr))] [] _ rfl rfl rfl 20 rfl (by decide) ok22 ⟨rfl, rfl, trivial⟩ (Sub.refl _) (symbols_Of_spec et6) ?_
        intro xq hq heq
        obtain ⟨rfl, hs7⟩ := of_elimQN ho9 heq
        refine AO.weak (ρ' := [(0, (.fz 1 (p0.map eStr))), (19, (.fz 1 (p0.map eStr))), (20, (.tup [(.fl (.pointer none)), (eI64 t6.2.1), (eI64 t6.2.2)]))]) (H' := []) ⟨rfl, rfl, rfl, trivial⟩ hs7 ?_
        refine AO.calm rfl 18 rfl (by decide) (.tup [(.fl (.pointer none)), (eI64 t6.2.1), (eI64 t6.2.2)]) (Calm.move rfl rfl) ?_
        refine AO.calm rfl 21 rfl (by decide) (.fl (.pointer none)) (Calm.extract rfl rfl rfl) ?_
        refine AO.calm rfl 22 rfl (by decide) (eI64 t6.2.1) (Calm.extract rfl rfl rfl) ?_
        refine AO.calm rfl 23 rfl (by decide) (eI64 t6.2.2) (Calm.extract rfl rfl rfl) ?_
        refine AO.calm rfl 3 rfl (by decide) (.fl (.pointer none)) (Calm.assign rfl rfl) ?_
        refine AO.calm rfl 4 rfl (by decide) (eI64 t6.2.1) (Calm.assign rfl rfl) ?_
        refine AO.calm rfl 5 rfl (by decide) (eI64 t6.2.2) (Calm.assign rfl rfl) ?_
        refine AO.nil (ρ' := [(0, (.fz 1 (p0.map eStr))), (3, (.fl (.pointer none))), (4, (eI64 t6.2.1)), (5, (eI64 t6.2.2))]) (H' := []) ⟨rfl, rfl, rfl, rfl, trivial⟩ (Sub.refl _) ?_
        refine AW.seq ?_
        refine AW.reg ?_
        refine AO.calm rfl 6 rfl (by decide) (.fl (.slice none 0 0)) (Calm.assign rfl rfl) ?_
        refine AO.nil (ρ' := [(0, (.fz 1 (p0.map eStr))), (3, (.fl (.pointer none))), (4, (eI64 t6.2.1)), (5, (eI64 t6.2.2)), (6, (.fl (.slice none 0 0)))]) (H' := []) ⟨rfl, rfl, rfl, rfl, rfl, trivial⟩ (Sub.refl _) ?_
        refine AW.seq_mid (fun ρ H => ρ = [(0, (.fz 1 (p0.map eStr))), (3, (.fl (.pointer none))), (4, (eI64 t6.2.1)), (5, (eI64 t6.2.2))] ∧ H = [] ∧ bosketlaw16_SymbolsOf_c0 k = some r) ?_ ?_
        · refine AW.seq ?_
          refine AW.reg ?_
          refine AO.calm rfl 7 rfl (by decide) (eI64 (0 : Int)) (Calm.assign rfl rfl) ?_
          refine AO.nil (ρ' := [(0, (.fz 1 (p0.map eStr))), (3, (.fl (.pointer none))), (4, (eI64 t6.2.1)), (5, (eI64 t6.2.2)), (6, (.fl (.slice none 0 0))), (7, (eI64 (0 : Int)))]) (H' := []) ⟨rfl, rfl, rfl, rfl, rfl, rfl, trivial⟩ (Sub.refl _) ?_
          refine AW.block ?_
          refine AW.coeC 6 (y' := (.fz 1 (([] : List ByteArray).map eStr))) rfl Coe.nil ?_
          refine AW.weak (ρ' := [(0, (.fz 1 (p0.map eStr))), (3, (.fl (.pointer none))), (4, (eI64 t6.2.1)), (5, (eI64 t6.2.2)), (6, (.fz 1 (([] : List ByteArray).map eStr))), (7, (eI64 (0 : Int)))]) (H' := []) ⟨rfl, rfl, rfl, rfl, rfl, rfl, trivial⟩ (Sub.refl _) ?_
          refine AW.loop (fun kq ρ H => ∃ (x13 : (List ByteArray)) (x14 : Int), ρ = [(0, (.fz 1 (p0.map eStr))), (3, (.fl (.pointer none))), (4, (eI64 t6.2.1)), (5, (eI64 t6.2.2)), (6, (.fz 1 (x13.map eStr))), (7, (eI64 x14))] ∧ H = [] ∧ bosketlaw16_SymbolsOf_l1 k p0 t6 kq x13 x14 = some r) k ⟨[], (0 : Int), rfl, rfl, h⟩ ?_
          rintro kq16 _ _ ⟨x13, x14, rfl, rfl, h⟩
          cases kq16 with
          | zero => rw [bosketlaw16_SymbolsOf_l1.eq_1] at h; cases h
          | succ kq16 =>
          rw [bosketlaw16_SymbolsOf_l1.eq_2] at h
          generalize hrec15 : bosketlaw16_SymbolsOf_l1 k p0 t6 kq16 = rec15 at h
          refine AW.seq ?_
          refine AW.seq ?_
          refine AW.reg ?_
          refine AO.calm rfl 24 rfl (by decide) (eI64 x14) (Calm.move rfl rfl) ?_
          refine AO.calm rfl 25 rfl (by decide) (.fz 1 (p0.map eStr)) (Calm.move rfl rfl) ?_
          refine AO.calm rfl 26 rfl (by decide) (eI64 (p0.length : Int)) (Calm.lenL rfl rfl Try.underlying37) ?_
          refine AO.calm rfl 27 rfl (by decide) (eBool (decide (x14 < (p0.length : Int)))) (Calm.int rfl rfl rfl rfl) ?_
          refine AO.nil (ρ' := [(0, (.fz 1 (p0.map eStr))), (3, (.fl (.pointer none))), (4, (eI64 t6.2.1)), (5, (eI64 t6.2.2)), (6, (.fz 1 (x13.map eStr))), (7, (eI64 x14)), (27, (eBool (decide (x14 < (p0.length : Int)))))]) (H' := []) ⟨rfl, rfl, rfl, rfl, rfl, rfl, rfl, trivial⟩ (Sub.refl _) ?_
          by_cases hc17 : x14 < (p0.length : Int)
          · have h := (if_pos hc17).symm.trans h
            refine AW.condP (x14 < (p0.length : Int)) rfl hc17 ?_
            refine AW.skip (ρ' := [(0, (.fz 1 (p0.map eStr))), (3, (.fl (.pointer none))), (4, (eI64 t6.2.1)), (5, (eI64 t6.2.2)), (6, (.fz 1 (x13.map eStr))), (7, (eI64 x14))]) (H' := []) ⟨rfl, rfl, rfl, rfl, rfl, rfl, trivial⟩ (Sub.refl _) ?_
            refine AW.seq ?_
            refine AW.block ?_
            refine AW.seq ?_
            refine AW.reg ?_
            refine AO.calm rfl 31 rfl (by decide) (.fz 1 (x13.map eStr)) (Calm.move rfl rfl) ?_
            refine AO.calm rfl 32 rfl (by decide) (.fz 1 (p0.map eStr)) (Calm.move rfl rfl) ?_
            refine AO.calm rfl 33 rfl (by decide) (eI64 x14) (Calm.move rfl rfl) ?_
            obtain ⟨hg18, h⟩ := of_guard h
            refine AO.calm rfl 34 rfl (by decide) (.rp (eStr (lget p0 x14))) (Calm.idxL (f := eStr) rfl rfl rfl hg18 Try.underlying37 sz9) ?_
            refine AO.calm rfl 35 rfl (by decide) (eStr (lget p0 x14)) (Calm.loadRp rfl rfl ag9 sz9) ?_
            obtain ⟨t19, et19, h⟩ := of_bind h
            refine AO.callS [(.fz 1 (x13.map eStr)), (eStr (lget p0 x14))] (.tup [(.fz 1 (t19.1.map eStr)), (eI64 t19.2.1), (eI64 t19.2.2)]) 36 rfl (by decide) ok23 rfl rfl rfl ⟨rfl, rfl, rfl, rfl, trivial⟩ (bosketref16_Add_spec et19) ?_
            refine AO.calm rfl 30 rfl (by decide) (.tup [(.fz 1 (t19.1.map eStr)), (eI64 t19.2.1), (eI64 t19.2.2)]) (Calm.move rfl rfl) ?_
            refine AO.calm rfl 37 rfl (by decide) (.fz 1 (t19.1.map eStr)) (Calm.extract rfl rfl rfl) ?_
            refine AO.calm rfl 38 rfl (by decide) (eI64 t19.2.1) (Calm.extract rfl rfl rfl) ?_
            refine AO.calm rfl 39 rfl (by decide) (eI64 t19.2.2) (Calm.extract rfl rfl rfl) ?_
            refine AO.calm rfl 8 rfl (by decide) (.fz 1 (t19.1.map eStr)) (Calm.assign rfl rfl) ?_
            refine AO.calm rfl 9 rfl (by decide) (eI64 t19.2.1) (Calm.assign rfl rfl) ?_
            refine AO.calm rfl 10 rfl (by decide) (eI64 t19.2.2) (Calm.assign rfl rfl) ?_
            refine AO.nil (ρ' := [(0, (.fz 1 (p0.map eStr))), (3, (.fl (.pointer none))), (4, (eI64 t6.2.1)), (5, (eI64 t6.2.2)), (7, (eI64 x14)), (8, (.fz 1 (t19.1.map eStr))), (10, (eI64 t19.2.2))]) (H' := []) ⟨rfl, rfl, rfl, rfl, rfl, rfl, rfl, trivial⟩ (Sub.refl _) ?_
            refine AW.seq ?_
            refine AW.reg ?_
            refine AO.calm rfl 40 rfl (by decide) (.fz 1 (t19.1.map eStr)) (Calm.move rfl rfl) ?_
            refine AO.calm rfl 6 rfl (by decide) (.fz 1 (t19.1.map eStr)) (Calm.assign rfl rfl) ?_
            refine AO.nil (ρ' := [(0, (.fz 1 (p0.map eStr))), (3, (.fl (.pointer none))), (4, (eI64 t6.2.1)), (5, (eI64 t6.2.2)), (6, (.fz 1 (t19.1.map eStr))), (7, (eI64 x14)), (10, (eI64 t19.2.2))]) (H' := []) ⟨rfl, rfl, rfl, rfl, rfl, rfl, rfl, trivial⟩ (Sub.refl _) ?_
            refine AW.seq ?_
            refine AW.reg ?_
            refine AO.calm rfl 41 rfl (by decide) (eI64 t19.2.2) (Calm.move rfl rfl) ?_
            refine AO.calm rfl 42 rfl (by decide) (eBool (decide (t19.2.2 ≠ (0 : Int)))) (Calm.int rfl rfl rfl rfl) ?_
            refine AO.nil (ρ' := [(0, (.fz 1 (p0.map eStr))), (3, (.fl (.pointer none))), (4, (eI64 t6.2.1)), (5, (eI64 t6.2.2)), (6, (.fz 1 (t19.1.map eStr))), (7, (eI64 x14)), (10, (eI64 t19.2.2)), (42, (eBool (decide (t19.2.2 ≠ (0 : Int)))))]) (H' := []) ⟨rfl, rfl, rfl, rfl, rfl, rfl, rfl, rfl, trivial⟩ (Sub.refl _) ?_
            by_cases hc20 : t19.2.2 ≠ (0 : Int)
            · have h := (if_pos hc20).symm.trans h
              refine AW.condP (t19.2.2 ≠ (0 : Int)) rfl hc20 ?_
              refine AW.seq ?_
              obtain ⟨b21, hq22, h⟩ := of_bind h
              refine AW.regM [(2, (eBool b21))] [] ?_ ?_
              · refine AO.calm rfl 43 rfl (by decide) (.fl (.pointer none)) (Calm.move rfl rfl) ?_
                refine AO.calm rfl 44 rfl (by decide) (eBool true) (Calm.nilNilE rfl rfl rfl Try.underlying39) ?_
                refine AO.calm rfl 45 rfl (by decide) (eBool true) (Calm.move rfl rfl) ?_
                refine AO.calmG 2 true 45 rfl rfl rfl 46 rfl (by decide) (eI64 t6.2.1) (Calm.move rfl rfl) ?_
                refine AO.calmG 2 true 45 rfl rfl rfl 47 rfl (by decide) (eI64 x14) (Calm.move rfl rfl) ?_
                refine AO.calmG 2 true 45 rfl rfl rfl 48 rfl (by decide) (eBool (decide (t6.2.1 = x14))) (Calm.int rfl rfl rfl rfl) ?_
                refine AO.calm rfl 49 rfl (by decide) (eBool (decide (t6.2.1 = x14))) (Calm.pickT rfl rfl rfl) ?_
                refine AO.calm rfl 50 rfl (by decide) (eBool (decide (t6.2.1 = x14))) (Calm.move rfl rfl) ?_
                by_cases hc23 : t6.2.1 = x14
                · have hq22 := (if_pos hc23).symm.trans hq22
                  refine AO.calmG 7 true 50 rfl rfl (congrArg (fun b => some (AV.fl (Value.bool b))) (decide_eq_true hc23)) 51 rfl (by decide) (eI64 t6.2.2) (Calm.move rfl rfl) ?_
                  refine AO.calmG 7 true 50 rfl rfl (congrArg (fun b => some (AV.fl (Value.bool b))) (decide_eq_true hc23)) 52 rfl (by decide) (eI64 t19.2.2) (Calm.move rfl rfl) ?_
                  refine AO.calmG 7 true 50 rfl rfl (congrArg (fun b => some (AV.fl (Value.bool b))) (decide_eq_true hc23)) 53 rfl (by decide) (eBool (decide (t6.2.2 = t19.2.2))) (Calm.int rfl rfl rfl rfl) ?_
                  refine AO.calm rfl 54 rfl (by decide) (eBool (decide (t6.2.2 = t19.2.2))) (Calm.pickT rfl (congrArg (fun b => some (AV.fl (Value.bool b))) (decide_eq_true hc23)) rfl) ?_
                  refine AO.calm rfl 2 rfl (by decide) (eBool (decide (t6.2.2 = t19.2.2))) (Calm.assign rfl rfl) ?_
                  cases hq22
                  refine AO.nilE ⟨rfl, rfl⟩ ?_ ?_
                  · exact ⟨rfl, trivial⟩
                  · exact (Sub.refl _)
                · have hq22 := (if_neg hc23).symm.trans hq22
                  refine AO.skipG 7 false 50 rfl rfl (congrArg (fun b => some (AV.fl (Value.bool b))) (decide_eq_false hc23)) 51 rfl (by decide) ?_
                  refine AO.skipG 7 false 50 rfl rfl (congrArg (fun b => some (AV.fl (Value.bool b))) (decide_eq_false hc23)) 52 rfl (by decide) ?_
                  refine AO.skipG 7 false 50 rfl rfl (congrArg (fun b => some (AV.fl (Value.bool b))) (decide_eq_false hc23)) 53 rfl (by decide) ?_
                  refine AO.calm rfl 54 rfl (by decide) (eBool false) (Calm.pickF rfl (congrArg (fun b => some (AV.fl (Value.bool b))) (decide_eq_false hc23)) rfl) ?_
                  refine AO.calm rfl 2 rfl (by decide) (eBool false) (Calm.assign rfl rfl) ?_
                  cases hq22
                  refine AO.nilE ⟨rfl, rfl⟩ ?_ ?_
                  · exact ⟨rfl, trivial⟩
                  · exact (Sub.refl _)
              · refine AW.ret (ρ' := [(2, (eBool b21))]) (H' := []) ⟨rfl, trivial⟩ (Sub.refl _) ?_
                have hr := Option.some.inj h
                subst hr
                exact ⟨[(eBool b21)], ⟨rfl, rfl, trivial⟩, rfl⟩
            · have h := (if_neg hc20).symm.trans h
              refine AW.condN (t19.2.2 ≠ (0 : Int)) rfl hc20 ?_
              refine AW.skip (ρ' := [(0, (.fz 1 (p0.map eStr))), (3, (.fl (.pointer none))), (4, (eI64 t6.2.1)), (5, (eI64 t6.2.2)), (6, (.fz 1 (t19.1.map eStr))), (7, (eI64 x14))]) (H' := []) ⟨rfl, rfl, rfl, rfl, rfl, rfl, trivial⟩ (Sub.refl _) ?_
              refine AW.reg ?_
              refine AO.calm rfl 28 rfl (by decide) (eI64 x14) (Calm.move rfl rfl) ?_
              refine AO.calm rfl 29 rfl (by decide) (eI64 (w64 (x14 + (1 : Int)))) (Calm.int rfl rfl rfl rfl) ?_
              refine AO.calm rfl 7 rfl (by decide) (eI64 (w64 (x14 + (1 : Int)))) (Calm.assign rfl rfl) ?_
              refine AO.nil (ρ' := [(0, (.fz 1 (p0.map eStr))), (3, (.fl (.pointer none))), (4, (eI64 t6.2.1)), (5, (eI64 t6.2.2)), (6, (.fz 1 (t19.1.map eStr))), (7, (eI64 (w64 (x14 + (1 : Int)))))]) (H' := []) ⟨rfl, rfl, rfl, rfl, rfl, rfl, trivial⟩ (Sub.refl _) ?_
              exact ⟨kq16, Nat.lt_succ_self _, t19.1, (w64 (x14 + (1 : Int))), rfl, rfl, by rw [hrec15]; exact h⟩
          · have h := (if_neg hc17).symm.trans h
            refine AW.condN (x14 < (p0.length : Int)) rfl hc17 ?_
            refine AW.exit (ρ' := [(0, (.fz 1 (p0.map eStr))), (3, (.fl (.pointer none))), (4, (eI64 t6.2.1)), (5, (eI64 t6.2.2))]) (H' := []) ⟨rfl, rfl, rfl, rfl, trivial⟩ (Sub.refl _) ?_
            exact ⟨rfl, rfl, h⟩
        · rintro _ _ ⟨rfl, rfl, h⟩
          rw [bosketlaw16_SymbolsOf_c0.eq_1] at h
          refine AW.seq ?_
          refine AW.seq ?_
          refine AW.reg ?_
          refine AO.calm rfl 55 rfl (by decide) (.fl (.pointer none)) (Calm.move rfl rfl) ?_
          refine AO.calm rfl 56 rfl (by decide) (eBool true) (Calm.nilNilE rfl rfl rfl Try.underlying39) ?_
          refine AO.calm rfl 57 rfl (by decide) (eBool true) (Calm.move rfl rfl) ?_
          refine AO.skipG 2 true 57 rfl rfl rfl 58 rfl (by decide) ?_
          refine AO.skipG 2 true 57 rfl rfl rfl 59 rfl (by decide) ?_
          refine AO.skipG 2 true 57 rfl rfl rfl 60 rfl (by decide) ?_
          refine AO.skipG 2 true 57 rfl rfl rfl 61 rfl (by decide) ?_
          refine AO.calm rfl 62 rfl (by decide) (eBool true) (Calm.pickT rfl rfl rfl) ?_
          refine AO.calm rfl 63 rfl (by decide) (eBool true) (Calm.move rfl rfl) ?_
          refine AO.skipG 8 true 63 rfl rfl rfl 64 rfl (by decide) ?_
          refine AO.skipG 8 true 63 rfl rfl rfl 65 rfl (by decide) ?_
          refine AO.calm rfl 66 rfl (by decide) (eBool true) (Calm.pickT rfl rfl rfl) ?_
          refine AO.nil (ρ' := [(0, (.fz 1 (p0.map eStr))), (3, (.fl (.pointer none))), (66, (eBool true))]) (H' := []) ⟨rfl, rfl, rfl, trivial⟩ (Sub.refl _) ?_
          refine AW.condT rfl ?_
          refine AW.seq ?_
          refine AW.reg ?_
          refine AO.calm rfl 2 rfl (by decide) (eBool false) (Calm.assign rfl rfl) ?_
          refine AO.nil (ρ' := [(2, (eBool false))]) (H' := []) ⟨rfl, trivial⟩ (Sub.refl _) ?_
          refine AW.ret (ρ' := [(2, (eBool false))]) (H' := []) ⟨rfl, trivial⟩ (Sub.refl _) ?_
          have hr := Option.some.inj h
          subst hr
          exact ⟨[(eBool false)], ⟨rfl, rfl, trivial⟩, rfl⟩
      | some x8 =>
        have h := of_elimS ho9 h
        refine AO.callH [(.fz 1 (p0.map eStr))] [] _ rfl rfl rfl 20 rfl (by decide) ok22 ⟨rfl, rfl, trivial⟩ (Sub.refl _) (symbols_Of_spec et6) ?_
        intro xq hq heq
        obtain ⟨n12, n10, n11, rfl, hs7⟩ := of_elimQS ho9 heq
        refine AO.weak (ρ' := [(0, (.fz 1 (p0.map eStr))), (19, (.fz 1 (p0.map eStr))), (20, (.tup [(.ptr n12 0), (eI64 t6.2.1), (eI64 t6.2.2)]))]) (H' := [(n12, (.mem (.st [(1, (.own n10 0 x8.f0.length)), (1, (.mp n11))]))), (n10, (.mem (.ar 1 (x8.f0.map eStr)))), (n11, (.map (encM Value.string eI64 x8.f1)))]) ⟨rfl, rfl, rfl, trivial⟩ hs7 ?_
        refine AO.calm rfl 18 rfl (by decide) (.tup [(.ptr n12 0), (eI64 t6.2.1), (eI64 t6.2.2)]) (Calm.move rfl rfl) ?_
        refine AO.calm rfl 21 rfl (by decide) (.ptr n12 0) (Calm.extract rfl rfl rfl) ?_
        refine AO.calm rfl 22 rfl (by decide) (eI64 t6.2.1) (Calm.extract rfl rfl rfl) ?_
        refine AO.calm rfl 23 rfl (by decide) (eI64 t6.2.2) (Calm.extract rfl rfl rfl) ?_
        refine AO.calm rfl 3 rfl (by decide) (.ptr n12 0) (Calm.assign rfl rfl) ?_
        refine AO.calm rfl 4 rfl (by decide) (eI64 t6.2.1) (Calm.assign rfl rfl) ?_
        refine AO.calm rfl 5 rfl (by decide) (eI64 t6.2.2) (Calm.assign rfl rfl) ?_
        refine AO.nil (ρ' := [(0, (.fz 1 (p0.map eStr))), (3, (.ptr n12 0)), (4, (eI64 t6.2.1)), (5, (eI64 t6.2.2))]) (H' := [(n12, (.mem (.st [(1, (.own n10 0 x8.f0.length)), (1, (.mp n11))]))), (n10, (.mem (.ar 1 (x8.f0.map eStr)))), (n11, (.map (encM Value.string eI64 x8.f1)))]) ⟨rfl, rfl, rfl, rfl, trivial⟩ (Sub.refl _) ?_
        refine AW.seq ?_
        refine AW.reg ?_
        refine AO.calm rfl 6 rfl (by decide) (.fl (.slice none 0 0)) (Calm.assign rfl rfl) ?_
        refine AO.nil (ρ' := [(0, (.fz 1 (p0.map eStr))), (3, (.ptr n12 0)), (4, (eI64 t6.2.1)), (5, (eI64 t6.2.2)), (6, (.fl (.slice none 0 0)))]) (H' := [(n12, (.mem (.st [(1, (.own n10 0 x8.f0.length)), (1, (.mp n11))]))), (n10, (.mem (.ar 1 (x8.f0.map eStr)))), (n11, (.map (encM Value.string eI64 x8.f1)))]) ⟨rfl, rfl, rfl, rfl, rfl, trivial⟩ (Sub.refl _) ?_
        refine AW.seq_mid (fun ρ H => ρ = [(0, (.fz 1 (p0.map eStr))), (3, (.ptr n12 0)), (4, (eI64 t6.2.1)), (5, (eI64 t6.2.2))] ∧ H = [(n12, (.mem (.st [(1, (.own n10 0 x8.f0.length)), (1, (.mp n11))]))), (n10, (.mem (.ar 1 (x8.f0.map eStr)))), (n11, (.map (encM Value.string eI64 x8.f1)))] ∧ bosketlaw16_SymbolsOf_c4 k p0 t6 x8 = some r) ?_ ?_
        · refine AW.seq ?_
          refine AW.reg ?_
          refine AO.calm rfl 7 rfl (by decide) (eI64 (0 : Int)) (Calm.assign rfl rfl) ?_
          refine AO.nil (ρ' := [(0, (.fz 1 (p0.map eStr))), (3, (.ptr n12 0)), (4, (eI64 t6.2.1)), (5, (eI64 t6.2.2)), (6, (.fl (.slice none 0 0))), (7, (eI64 (0 : Int)))]) (H' := [(n12, (.mem (.st [(1, (.own n10 0 x8.f0.length)), (1, (.mp n11))]))), (n10, (.mem (.ar 1 (x8.f0.map eStr)))), (n11, (.map (encM Value.string eI64 x8.f1)))]) ⟨rfl, rfl, rfl, rfl, rfl, rfl, trivial⟩ (Sub.refl _) ?_
          refine AW.block ?_
          refine AW.coeC 6 (y' := (.fz 1 (([] : List ByteArray).map eStr))) rfl Coe.nil ?_
          refine AW.weak (ρ' := [(0, (.fz 1 (p0.map eStr))), (3, (.ptr n12 0)), (4, (eI64 t6.2.1)), (5, (eI64 t6.2.2)), (6, (.fz 1 (([] : List ByteArray).map eStr))), (7, (eI64 (0 : Int)))]) (H' := [(n12, (.mem (.st [(1, (.own n10 0 x8.f0.length)), (1, (.mp n11))]))), (n10, (.mem (.ar 1 (x8.f0.map eStr)))), (n11, (.map (encM Value.string eI64 x8.f1)))]) ⟨rfl, rfl, rfl, rfl, rfl, rfl, trivial⟩ (Sub.refl _) ?_
          refine AW.loop (fun kq ρ H => ∃ (x41 : (List ByteArray)) (x42 : Int), ρ = [(0, (.fz 1 (p0.map eStr))), (3, (.ptr n12 0)), (4, (eI64 t6.2.1)), (5, (eI64 t6.2.2)), (6, (.fz 1 (x41.map eStr))), (7, (eI64 x42))] ∧ H = [(n12, (.mem (.st [(1, (.own n10 0 x8.f0.length)), (1, (.mp n11))]))), (n10, (.mem (.ar 1 (x8.f0.map eStr)))), (n11, (.map (encM Value.string eI64 x8.f1)))] ∧ bosketlaw16_SymbolsOf_l5 k p0 t6 x8 kq x41 x42 = some r) k ⟨[], (0 : Int), rfl, rfl, h⟩ ?_
          rintro kq44 _ _ ⟨x41, x42, rfl, rfl, h⟩
          cases kq44 with
          | zero => rw [bosketlaw16_SymbolsOf_l5.eq_1] at h; cases h
          | succ kq44 =>
          rw [bosketlaw16_SymbolsOf_l5.eq_2] at h
          generalize hrec43 : bosketlaw16_SymbolsOf_l5 k p0 t6 x8 kq44 = rec43 at h
          refine AW.seq ?_
          refine AW.seq ?_
          refine AW.reg ?_
          refine AO.calm rfl 24 rfl (by decide) (eI64 x42) (Calm.move rfl rfl) ?_
          refine AO.calm rfl 25 rfl (by decide) (.fz 1 (p0.map eStr)) (Calm.move rfl rfl) ?_
          refine AO.calm rfl 26 rfl (by decide) (eI64 (p0.length : Int)) (Calm.lenL rfl rfl Try.underlying37) ?_
          refine AO.calm rfl 27 rfl (by decide) (eBool (decide (x42 < (p0.length : Int)))) (Calm.int rfl rfl rfl rfl) ?_
          refine AO.nil (ρ' := [(0, (.fz 1 (p0.map eStr))), (3, (.ptr n12 0)), (4, (eI64 t6.2.1)), (5, (eI64 t6.2.2)), (6, (.fz 1 (x41.map eStr))), (7, (eI64 x42)), (27, (eBool (decide (x42 < (p0.length : Int)))))]) (H' := [(n12, (.mem (.st [(1, (.own n10 0 x8.f0.length)), (1, (.mp n11))]))), (n10, (.mem (.ar 1 (x8.f0.map eStr)))), (n11, (.map (encM Value.string eI64 x8.f1)))]) ⟨rfl, rfl, rfl, rfl, rfl, rfl, rfl, trivial⟩ (Sub.refl _) ?_
          by_cases hc45 : x42 < (p0.length : Int)
          · have h := (if_pos hc45).symm.trans h
            refine AW.condP (x42 < (p0.length : Int)) rfl hc45 ?_
            refine AW.skip (ρ' := [(0, (.fz 1 (p0.map eStr))), (3, (.ptr n12 0)), (4, (eI64 t6.2.1)), (5, (eI64 t6.2.2)), (6, (.fz 1 (x41.map eStr))), (7, (eI64 x42))]) (H' := [(n12, (.mem (.st [(1, (.own n10 0 x8.f0.length)), (1, (.mp n11))]))), (n10, (.mem (.ar 1 (x8.f0.map eStr)))), (n11, (.map (encM Value.string eI64 x8.f1)))]) ⟨rfl, rfl, rfl, rfl, rfl, rfl, trivial⟩ (Sub.refl _) ?_
            refine AW.seq ?_
            refine AW.block ?_
            refine AW.seq ?_
            refine AW.reg ?_
            refine AO.calm rfl 31 rfl (by decide) (.fz 1 (x41.map eStr)) (Calm.move rfl rfl) ?_
            refine AO.calm rfl 32 rfl (by decide) (.fz 1 (p0.map eStr)) (Calm.move rfl rfl) ?_
            refine AO.calm rfl 33 rfl (by decide) (eI64 x42) (Calm.move rfl rfl) ?_
            obtain ⟨hg46, h⟩ := of_guard h
            refine AO.calm rfl 34 rfl (by decide) (.rp (eStr (lget p0 x42))) (Calm.idxL (f := eStr) rfl rfl rfl hg46 Try.underlying37 sz9) ?_
            refine AO.calm rfl 35 rfl (by decide) (eStr (lget p0 x42)) (Calm.loadRp rfl rfl ag9 sz9) ?_
            obtain ⟨t47, et47, h⟩ := of_bind h
            refine AO.callS [(.fz 1 (x41.map eStr)), (eStr (lget p0 x42))] (.tup [(.fz 1 (t47.1.map eStr)), (eI64 t47.2.1), (eI64 t47.2.2)]) 36 rfl (by decide) ok23 rfl rfl rfl ⟨rfl, rfl, rfl, rfl, trivial⟩ (bosketref16_Add_spec et47) ?_
            refine AO.calm rfl 30 rfl (by decide) (.tup [(.fz 1 (t47.1.map eStr)), (eI64 t47.2.1), (eI64 t47.2.2)]) (Calm.move rfl rfl) ?_
            refine AO.calm rfl 37 rfl (by decide) (.fz 1 (t47.1.map eStr)) (Calm.extract rfl rfl rfl) ?_
            refine AO.calm rfl 38 rfl (by decide) (eI64 t47.2.1) (Calm.extract rfl rfl rfl) ?_
            refine AO.calm rfl 39 rfl (by decide) (eI64 t47.2.2) (Calm.extract rfl rfl rfl) ?_
            refine AO.calm rfl 8 rfl (by decide) (.fz 1 (t47.1.map eStr)) (Calm.assign rfl rfl) ?_
            refine AO.calm rfl 9 rfl (by decide) (eI64 t47.2.1) (Calm.assign rfl rfl) ?_
            refine AO.calm rfl 10 rfl (by decide) (eI64 t47.2.2) (Calm.assign rfl rfl) ?_
            refine AO.nil (ρ' := [(0, (.fz 1 (p0.map eStr))), (3, (.ptr n12 0)), (4, (eI64 t6.2.1)), (5, (eI64 t6.2.2)), (7, (eI64 x42)), (8, (.fz 1 (t47.1.map eStr))), (10, (eI64 t47.2.2))]) (H' := [(n12, (.mem (.st [(1, (.own n10 0 x8.f0.length)), (1, (.mp n11))]))), (n10, (.mem (.ar 1 (x8.f0.map eStr)))), (n11, (.map (encM Value.string eI64 x8.f1)))]) ⟨rfl, rfl, rfl, rfl, rfl, rfl, rfl, trivial⟩ (Sub.refl _) ?_
            refine AW.seq ?_
            refine AW.reg ?_
            refine AO.calm rfl 40 rfl (by decide) (.fz 1 (t47.1.map eStr)) (Calm.move rfl rfl) ?_
            refine AO.calm rfl 6 rfl (by decide) (.fz 1 (t47.1.map eStr)) (Calm.assign rfl rfl) ?_
            refine AO.nil (ρ' := [(0, (.fz 1 (p0.map eStr))), (3, (.ptr n12 0)), (4, (eI64 t6.2.1)), (5, (eI64 t6.2.2)), (6, (.fz 1 (t47.1.map eStr))), (7, (eI64 x42)), (10, (eI64 t47.2.2))]) (H' := [(n12, (.mem (.st [(1, (.own n10 0 x8.f0.length)), (1, (.mp n11))]))), (n10, (.mem (.ar 1 (x8.f0.map eStr)))), (n11, (.map (encM Value.string eI64 x8.f1)))]) ⟨rfl, rfl, rfl, rfl, rfl, rfl, rfl, trivial⟩ (Sub.refl _) ?_
            refine AW.seq ?_
            refine AW.reg ?_
            refine AO.calm rfl 41 rfl (by decide) (eI64 t47.2.2) (Calm.move rfl rfl) ?_
            refine AO.calm rfl 42 rfl (by decide) (eBool (decide (t47.2.2 ≠ (0 : Int)))) (Calm.int rfl rfl rfl rfl) ?_
            refine AO.nil (ρ' := [(0, (.fz 1 (p0.map eStr))), (3, (.ptr n12 0)), (4, (eI64 t6.2.1)), (5, (eI64 t6.2.2)), (6, (.fz 1 (t47.1.map eStr))), (7, (eI64 x42)), (10, (eI64 t47.2.2)), (42, (eBool (decide (t47.2.2 ≠ (0 : Int)))))]) (H' := [(n12, (.mem (.st [(1, (.own n10 0 x8.f0.length)), (1, (.mp n11))]))), (n10, (.mem (.ar 1 (x8.f0.map eStr)))), (n11, (.map (encM Value.string eI64 x8.f1)))]) ⟨rfl, rfl, rfl, rfl, rfl, rfl, rfl, rfl, trivial⟩ (Sub.refl _) ?_
            by_cases hc48 : t47.2.2 ≠ (0 : Int)
            · have h := (if_pos hc48).symm.trans h
              refine AW.condP (t47.2.2 ≠ (0 : Int)) rfl hc48 ?_
              refine AW.seq ?_
              refine AW.reg ?_
              refine AO.calm rfl 43 rfl (by decide) (.ptr n12 0) (Calm.move rfl rfl) ?_
              refine AO.calm rfl 44 rfl (by decide) (eBool false) (Calm.ptrNilE rfl rfl rfl Try.underlying39) ?_
              refine AO.calm rfl 45 rfl (by decide) (eBool false) (Calm.move rfl rfl) ?_
              refine AO.skipG 2 false 45 rfl rfl rfl 46 rfl (by decide) ?_
              refine AO.skipG 2 false 45 rfl rfl rfl 47 rfl (by decide) ?_
              refine AO.skipG 2 false 45 rfl rfl rfl 48 rfl (by decide) ?_
              refine AO.calm rfl 49 rfl (by decide) (eBool false) (Calm.pickF rfl rfl rfl) ?_
              refine AO.calm rfl 50 rfl (by decide) (eBool false) (Calm.move rfl rfl) ?_
              refine AO.skipG 7 false 50 rfl rfl rfl 51 rfl (by decide) ?_
              refine AO.skipG 7 false 50 rfl rfl rfl 52 rfl (by decide) ?_
              refine AO.skipG 7 false 50 rfl rfl rfl 53 rfl (by decide) ?_
              refine AO.calm rfl 54 rfl (by decide) (eBool false) (Calm.pickF rfl rfl rfl) ?_
              refine AO.calm rfl 2 rfl (by decide) (eBool false) (Calm.assign rfl rfl) ?_
              refine AO.nil (ρ' := [(2, (eBool false))]) (H' := []) ⟨rfl, trivial⟩ (Sub.nil _) ?_
              refine AW.ret (ρ' := [(2, (eBool false))]) (H' := []) ⟨rfl, trivial⟩ (Sub.refl _) ?_
              have hr := Option.some.inj h
              subst hr
              exact ⟨[(eBool false)], ⟨rfl, rfl, trivial⟩, rfl⟩
            · have h := (if_neg hc48).symm.trans h
              refine AW.condN (t47.2.2 ≠ (0 : Int)) rfl hc48 ?_
              refine AW.skip (ρ' := [(0, (.fz 1 (p0.map eStr))), (3, (.ptr n12 0)), (4, (eI64 t6.2.1)), (5, (eI64 t6.2.2)), (6, (.fz 1 (t47.1.map eStr))), (7, (eI64 x42))]) (H' := [(n12, (.mem (.st [(1, (.own n10 0 x8.f0.length)), (1, (.mp n11))]))), (n10, (.mem (.ar 1 (x8.f0.map eStr)))), (n11, (.map (encM Value.string eI64 x8.f1)))]) ⟨rfl, rfl, rfl, rfl, rfl, rfl, trivial⟩ (Sub.refl _) ?_
              refine AW.reg ?_
              refine AO.calm rfl 28 rfl (by decide) (eI64 x42) (Calm.move rfl rfl) ?_
              refine AO.calm rfl 29 rfl (by decide) (eI64 (w64 (x42 + (1 : Int)))) (Calm.int rfl rfl rfl rfl) ?_
              refine AO.calm rfl 7 rfl (by decide) (eI64 (w64 (x42 + (1 : Int)))) (Calm.assign rfl rfl) ?_
              refine AO.nil (ρ' := [(0, (.fz 1 (p0.map eStr))), (3, (.ptr n12 0)), (4, (eI64 t6.2.1)), (5, (eI64 t6.2.2)), (6, (.fz 1 (t47.1.map eStr))), (7, (eI64 (w64 (x42 + (1 : Int)))))]) (H' := [(n12, (.mem (.st [(1, (.own n10 0 x8.f0.length)), (1, (.mp n11))]))), (n10, (.mem (.ar 1 (x8.f0.map eStr)))), (n11, (.map (encM Value.string eI64 x8.f1)))]) ⟨rfl, rfl, rfl, rfl, rfl, rfl, trivial⟩ (Sub.refl _) ?_
              exact ⟨kq44, Nat.lt_succ_self _, t47.1, (w64 (x42 + (1 : Int))), rfl, rfl, by rw [hrec43]; exact h⟩
          · have h := (if_neg hc45).symm.trans h
            refine AW.condN (x42 < (p0.length : Int)) rfl hc45 ?_
            refine AW.exit (ρ' := [(0, (.fz 1 (p0.map eStr))), (3, (.ptr n12 0)), (4, (eI64 t6.2.1)), (5, (eI64 t6.2.2))]) (H' := [(n12, (.mem (.st [(1, (.own n10 0 x8.f0.length)), (1, (.mp n11))]))), (n10, (.mem (.ar 1 (x8.f0.map eStr)))), (n11, (.map (encM Value.string eI64 x8.f1)))]) ⟨rfl, rfl, rfl, rfl, trivial⟩ (Sub.refl _) ?_
            exact ⟨rfl, rfl, h⟩
        · rintro _ _ ⟨rfl, rfl, h⟩
          rw [bosketlaw16_SymbolsOf_c4.eq_1] at h
          refine AW.seq ?_
          refine AW.seq ?_
          obtain ⟨b24, hq25, h⟩ := of_bind h
          refine AW.regM [(0, (.fz 1 (p0.map eStr))), (3, (.ptr n12 0)), (66, (eBool b24))] [(n12, (.mem (.st [(1, (.own n10 0 x8.f0.length)), (1, (.mp n11))]))), (n10, (.mem (.ar 1 (x8.f0.map eStr)))), (n11, (.map (encM Value.string eI64 x8.f1)))] ?_ ?_
          · refine AO.calm rfl 55 rfl (by decide) (.ptr n12 0) (Calm.move rfl rfl) ?_
            refine AO.calm rfl 56 rfl (by decide) (eBool false) (Calm.ptrNilE rfl rfl rfl Try.underlying39) ?_
            refine AO.calm rfl 57 rfl (by decide) (eBool false) (Calm.move rfl rfl) ?_
            refine AO.calmG 2 false 57 rfl rfl rfl 58 rfl (by decide) (eI64 t6.2.1) (Calm.move rfl rfl) ?_
            refine AO.calmG 2 false 57 rfl rfl rfl 59 rfl (by decide) (.fz 1 (p0.map eStr)) (Calm.move rfl rfl) ?_
            refine AO.calmG 2 false 57 rfl rfl rfl 60 rfl (by decide) (eI64 (p0.length : Int)) (Calm.lenL rfl rfl Try.underlying37) ?_
            refine AO.calmG 2 false 57 rfl rfl rfl 61 rfl (by decide) (eBool (decide (t6.2.1 ≠ (p0.length : Int)))) (Calm.int rfl rfl rfl rfl) ?_
            refine AO.calm rfl 62 rfl (by decide) (eBool (decide (t6.2.1 ≠ (p0.length : Int)))) (Calm.pickF rfl rfl rfl) ?_
            refine AO.calm rfl 63 rfl (by decide) (eBool (decide (t6.2.1 ≠ (p0.length : Int)))) (Calm.move rfl rfl) ?_
            by_cases hc26 : t6.2.1 ≠ (p0.length : Int)
            · have hq25 := (if_pos hc26).symm.trans hq25
              refine AO.skipG 8 true 63 rfl rfl (congrArg (fun b => some (AV.fl (Value.bool b))) (decide_eq_true hc26)) 64 rfl (by decide) ?_
              refine AO.skipG 8 true 63 rfl rfl (congrArg (fun b => some (AV.fl (Value.bool b))) (decide_eq_true hc26)) 65 rfl (by decide) ?_
              refine AO.calm rfl 66 rfl (by decide) (eBool true) (Calm.pickT rfl (congrArg (fun b => some (AV.fl (Value.bool b))) (decide_eq_true hc26)) rfl) ?_
              cases hq25
              refine AO.nilE ⟨rfl, rfl⟩ ?_ ?_
              · exact ⟨rfl, rfl, rfl, trivial⟩
              · exact (Sub.refl _)
            · have hq25 := (if_neg hc26).symm.trans hq25
              refine AO.calmG 8 false 63 rfl rfl (congrArg (fun b => some (AV.fl (Value.bool b))) (decide_eq_false hc26)) 64 rfl (by decide) (eI64 t6.2.2) (Calm.move rfl rfl) ?_
              refine AO.calmG 8 false 63 rfl rfl (congrArg (fun b => some (AV.fl (Value.bool b))) (decide_eq_false hc26)) 65 rfl (by decide) (eBool (decide (t6.2.2 ≠ (0 : Int)))) (Calm.int rfl rfl rfl rfl) ?_
              refine AO.calm rfl 66 rfl (by decide) (eBool (decide (t6.2.2 ≠ (0 : Int)))) (Calm.pickF rfl (congrArg (fun b => some (AV.fl (Value.bool b))) (decide_eq_false hc26)) rfl) ?_
              cases hq25
              refine AO.nilE ⟨rfl, rfl⟩ ?_ ?_
              · exact ⟨rfl, rfl, rfl, trivial⟩
              · exact (Sub.refl _)
          · by_cases hc27 : b24 = true
            · have h := (if_pos hc27).symm.trans h
              refine AW.condT' b24 rfl hc27 ?_
              refine AW.seq ?_
              refine AW.reg ?_
              refine AO.calm rfl 2 rfl (by decide) (eBool false) (Calm.assign rfl rfl) ?_
              refine AO.nil (ρ' := [(2, (eBool false))]) (H' := []) ⟨rfl, trivial⟩ (Sub.nil _) ?_
              refine AW.ret (ρ' := [(2, (eBool false))]) (H' := []) ⟨rfl, trivial⟩ (Sub.refl _) ?_
              have hr := Option.some.inj h
              subst hr
              exact ⟨[(eBool false)], ⟨rfl, rfl, trivial⟩, rfl⟩
            · have h := (if_neg hc27).symm.trans h
              refine AW.condF' b24 rfl hc27 ?_
              refine AW.skip (ρ' := [(0, (.fz 1 (p0.map eStr))), (3, (.ptr n12 0))]) (H' := [(n12, (.mem (.st [(1, (.own n10 0 x8.f0.length)), (1, (.mp n11))]))), (n10, (.mem (.ar 1 (x8.f0.map eStr)))), (n11, (.map (encM Value.string eI64 x8.f1)))]) ⟨rfl, rfl, trivial⟩ (Sub.refl _) ?_
              refine AW.seq ?_
              refine AW.reg ?_
              refine AO.calm rfl 67 rfl (by decide) (.ptr n12 0) (Calm.move rfl rfl) ?_
              obtain ⟨t28, et28, h⟩ := of_bind h
              refine AO.callH [(.ptr n12 0)] [(n12, (.mem (.st [(1, (.own n10 0 x8.f0.length)), (1, (.mp n11))]))), (n10, (.mem (.ar 1 (x8.f0.map eStr)))), (n11, (.map (encM Value.string eI64 x8.f1)))] _ rfl rfl rfl 68 rfl (by decide) ok24 ⟨rfl, rfl, trivial⟩ (Sub.cons 0 rfl (Sub.cons 0 rfl (Sub.cons 0 rfl (Sub.refl _)))) (symbols_Table_Names_spec et28) ?_
              rintro _ _ ⟨n30, rfl, hs29⟩
              refine AO.weak (ρ' := [(0, (.fz 1 (p0.map eStr))), (3, (.ptr n12 0)), (67, (.ptr n12 0)), (68, (.own n30 0 t28.length))]) (H' := [(n30, (.mem (.ar 1 (t28.map eStr)))), (n12, (.mem (.st [(1, (.own n10 0 x8.f0.length)), (1, (.mp n11))]))), (n10, (.mem (.ar 1 (x8.f0.map eStr)))), (n11, (.map (encM Value.string eI64 x8.f1)))]) ⟨rfl, rfl, rfl, rfl, trivial⟩ hs29 ?_
              refine AO.calm rfl 11 rfl (by decide) (.own n30 0 t28.length) (Calm.assign rfl rfl) ?_
              refine AO.nil (ρ' := [(0, (.fz 1 (p0.map eStr))), (3, (.ptr n12 0)), (11, (.own n30 0 t28.length))]) (H' := [(n12, (.mem (.st [(1, (.own n10 0 x8.f0.length)), (1, (.mp n11))]))), (n10, (.mem (.ar 1 (x8.f0.map eStr)))), (n11, (.map (encM Value.string eI64 x8.f1))), (n30, (.mem (.ar 1 (t28.map eStr))))]) ⟨rfl, rfl, rfl, trivial⟩ (Sub.cons 1 rfl (Sub.cons 1 rfl (Sub.cons 1 rfl (Sub.cons 0 rfl (Sub.nil _))))) ?_
              refine AW.seq_mid (fun ρ H => ρ = [(0, (.fz 1 (p0.map eStr))), (3, (.ptr n12 0))] ∧ H = [(n12, (.mem (.st [(1, (.own n10 0 x8.f0.length)), (1, (.mp n11))]))), (n10, (.mem (.ar 1 (x8.f0.map eStr)))), (n11, (.map (encM Value.string eI64 x8.f1)))] ∧ bosketlaw16_SymbolsOf_c2 k p0 x8 = some r) ?_ ?_
              · refine AW.seq ?_
                refine AW.reg ?_
                refine AO.calm rfl 12 rfl (by decide) (eI64 (0 : Int)) (Calm.assign rfl rfl) ?_
                refine AO.nil (ρ' := [(0, (.fz 1 (p0.map eStr))), (3, (.ptr n12 0)), (11, (.own n30 0 t28.length)), (12, (eI64 (0 : Int)))]) (H' := [(n12, (.mem (.st [(1, (.own n10 0 x8.f0.length)), (1, (.mp n11))]))), (n10, (.mem (.ar 1 (x8.f0.map eStr)))), (n11, (.map (encM Value.string eI64 x8.f1))), (n30, (.mem (.ar 1 (t28.map eStr))))]) ⟨rfl, rfl, rfl, rfl, trivial⟩ (Sub.refl _) ?_
                refine AW.block ?_
                refine AW.weak (ρ' := [(0, (.fz 1 (p0.map eStr))), (3, (.ptr n12 0)), (11, (.own n30 0 t28.length)), (12, (eI64 (0 : Int)))]) (H' := [(n12, (.mem (.st [(1, (.own n10 0 x8.f0.length)), (1, (.mp n11))]))), (n10, (.mem (.ar 1 (x8.f0.map eStr)))), (n11, (.map (encM Value.string eI64 x8.f1))), (n30, (.mem (.ar 1 (t28.map eStr))))]) ⟨rfl, rfl, rfl, rfl, trivial⟩ (Sub.refl _) ?_
                refine AW.loop (fun kq ρ H => ∃ (x35 : (List ByteArray)) (x36 : Int), ρ = [(0, (.fz 1 (p0.map eStr))), (3, (.ptr n12 0)), (11, (.own n30 0 x35.length)), (12, (eI64 x36))] ∧ H = [(n12, (.mem (.st [(1, (.own n10 0 x8.f0.length)), (1, (.mp n11))]))), (n10, (.mem (.ar 1 (x8.f0.map eStr)))), (n11, (.map (encM Value.string eI64 x8.f1))), (n30, (.mem (.ar 1 (x35.map eStr))))] ∧ bosketlaw16_SymbolsOf_l3 k p0 x8 kq x35 x36 = some r) k ⟨t28, (0 : Int), rfl, rfl, h⟩ ?_
                rintro kq38 _ _ ⟨x35, x36, rfl, rfl, h⟩
                cases kq38 with
                | zero => rw [bosketlaw16_SymbolsOf_l3.eq_1] at h; cases h
                | succ kq38 =>
                rw [bosketlaw16_SymbolsOf_l3.eq_2] at h
                generalize hrec37 : bosketlaw16_SymbolsOf_l3 k p0 x8 kq38 = rec37 at h
                refine AW.seq ?_
                refine AW.seq ?_
                refine AW.reg ?_
                refine AO.calm rfl 69 rfl (by decide) (eI64 x36) (Calm.move rfl rfl) ?_
                refine AO.calm rfl 70 rfl (by decide) (.own n30 0 x35.length) (Calm.move rfl rfl) ?_
                refine AO.calm rfl 71 rfl (by decide) (eI64 (x35.length : Int)) (Calm.lenOwn rfl rfl Try.underlying37) ?_
                refine AO.calm rfl 72 rfl (by decide) (eBool (decide (x36 < (x35.length : Int)))) (Calm.int rfl rfl rfl rfl) ?_
                refine AO.nil (ρ' := [(0, (.fz 1 (p0.map eStr))), (3, (.ptr n12 0)), (11, (.own n30 0 x35.length)), (12, (eI64 x36)), (72, (eBool (decide (x36 < (x35.length : Int)))))]) (H' := [(n12, (.mem (.st [(1, (.own n10 0 x8.f0.length)), (1, (.mp n11))]))), (n10, (.mem (.ar 1 (x8.f0.map eStr)))), (n11, (.map (encM Value.string eI64 x8.f1))), (n30, (.mem (.ar 1 (x35.map eStr))))]) ⟨rfl, rfl, rfl, rfl, rfl, trivial⟩ (Sub.refl _) ?_
                by_cases hc39 : x36 < (x35.length : Int)
                · have h := (if_pos hc39).symm.trans h
                  refine AW.condP (x36 < (x35.length : Int)) rfl hc39 ?_
                  refine AW.skip (ρ' := [(0, (.fz 1 (p0.map eStr))), (3, (.ptr n12 0)), (11, (.own n30 0 x35.length)), (12, (eI64 x36))]) (H' := [(n12, (.mem (.st [(1, (.own n10 0 x8.f0.length)), (1, (.mp n11))]))), (n10, (.mem (.ar 1 (x8.f0.map eStr)))), (n11, (.map (encM Value.string eI64 x8.f1))), (n30, (.mem (.ar 1 (x35.map eStr))))]) ⟨rfl, rfl, rfl, rfl, trivial⟩ (Sub.refl _) ?_
                  refine AW.seq ?_
                  refine AW.block ?_
                  refine AW.reg ?_
                  refine AO.calm rfl 75 rfl (by decide) (.own n30 0 x35.length) (Calm.move rfl rfl) ?_
                  refine AO.calm rfl 76 rfl (by decide) (eI64 x36) (Calm.move rfl rfl) ?_
                  obtain ⟨hg40, h⟩ := of_guard h
                  refine AO.calm rfl 77 rfl (by decide) (.ptr n30 (x36.toNat * 1 + 0)) (Calm.idxO 3 rfl rfl rfl rfl hg40 Try.underlying37 sz9) ?_
                  refine AO.store (X' := (.ar 1 ((lset x35 x36 (ByteArray.mk #[120])).map eStr))) 3 rfl rfl rfl rfl rfl rfl (Put.cast (Put.lidx x36 (ByteArray.mk #[120]) hg40.1 hg40.2 Put.here) (by omega)) rfl rfl sz9 rfl ?_
                  refine AO.coe 11 (y' := (.own n30 0 (lset x35 x36 (ByteArray.mk #[120])).length)) rfl (fun _ _ h => lset_own h) ?_
                  refine AO.coe 75 (y' := (.own n30 0 (lset x35 x36 (ByteArray.mk #[120])).length)) rfl (fun _ _ h => lset_own h) ?_
                  refine AO.nil (ρ' := [(0, (.fz 1 (p0.map eStr))), (3, (.ptr n12 0)), (11, (.own n30 0 (lset x35 x36 (ByteArray.mk #[120])).length)), (12, (eI64 x36))]) (H' := [(n12, (.mem (.st [(1, (.own n10 0 x8.f0.length)), (1, (.mp n11))]))), (n10, (.mem (.ar 1 (x8.f0.map eStr)))), (n11, (.map (encM Value.string eI64 x8.f1))), (n30, (.mem (.ar 1 ((lset x35 x36 (ByteArray.mk #[120])).map eStr))))]) ⟨rfl, rfl, rfl, rfl, trivial⟩ (Sub.refl _) ?_
                  refine AW.reg ?_
                  refine AO.calm rfl 73 rfl (by decide) (eI64 x36) (Calm.move rfl rfl) ?_
                  refine AO.calm rfl 74 rfl (by decide) (eI64 (w64 (x36 + (1 : Int)))) (Calm.int rfl rfl rfl rfl) ?_
                  refine AO.calm rfl 12 rfl (by decide) (eI64 (w64 (x36 + (1 : Int)))) (Calm.assign rfl rfl) ?_
                  refine AO.nil (ρ' := [(0, (.fz 1 (p0.map eStr))), (3, (.ptr n12 0)), (11, (.own n30 0 (lset x35 x36 (ByteArray.mk #[120])).length)), (12, (eI64 (w64 (x36 + (1 : Int)))))]) (H' := [(n12, (.mem (.st [(1, (.own n10 0 x8.f0.length)), (1, (.mp n11))]))), (n10, (.mem (.ar 1 (x8.f0.map eStr)))), (n11, (.map (encM Value.string eI64 x8.f1))), (n30, (.mem (.ar 1 ((lset x35 x36 (ByteArray.mk #[120])).map eStr))))]) ⟨rfl, rfl, rfl, rfl, trivial⟩ (Sub.refl _) ?_
                  exact ⟨kq38, Nat.lt_succ_self _, (lset x35 x36 (ByteArray.mk #[120])), (w64 (x36 + (1 : Int))), rfl, rfl, by rw [hrec37]; exact h⟩
                · have h := (if_neg hc39).symm.trans h
                  refine AW.condN (x36 < (x35.length : Int)) rfl hc39 ?_
                  refine AW.exit (ρ' := [(0, (.fz 1 (p0.map eStr))), (3, (.ptr n12 0))]) (H' := [(n12, (.mem (.st [(1, (.own n10 0 x8.f0.length)), (1, (.mp n11))]))), (n10, (.mem (.ar 1 (x8.f0.map eStr)))), (n11, (.map (encM Value.string eI64 x8.f1)))]) ⟨rfl, rfl, trivial⟩ (Sub.cons 0 rfl (Sub.cons 0 rfl (Sub.cons 0 rfl (Sub.nil _)))) ?_
                  exact ⟨rfl, rfl, h⟩
              · rintro _ _ ⟨rfl, rfl, h⟩
                rw [bosketlaw16_SymbolsOf_c2.eq_1] at h
                refine AW.seq ?_
                refine AW.reg ?_
                refine AO.calm rfl 78 rfl (by decide) (.ptr n12 0) (Calm.move rfl rfl) ?_
                obtain ⟨t31, et31, h⟩ := of_bind h
                refine AO.callH [(.ptr n12 0)] [(n12, (.mem (.st [(1, (.own n10 0 x8.f0.length)), (1, (.mp n11))]))), (n10, (.mem (.ar 1 (x8.f0.map eStr)))), (n11, (.map (encM Value.string eI64 x8.f1)))] _ rfl rfl rfl 79 rfl (by decide) ok24 ⟨rfl, rfl, trivial⟩ (Sub.cons 0 rfl (Sub.cons 0 rfl (Sub.cons 0 rfl (Sub.refl _)))) (symbols_Table_Names_spec et31) ?_
                rintro _ _ ⟨n33, rfl, hs32⟩
                refine AO.weak (ρ' := [(0, (.fz 1 (p0.map eStr))), (3, (.ptr n12 0)), (78, (.ptr n12 0)), (79, (.own n33 0 t31.length))]) (H' := [(n33, (.mem (.ar 1 (t31.map eStr)))), (n12, (.mem (.st [(1, (.own n10 0 x8.f0.length)), (1, (.mp n11))]))), (n10, (.mem (.ar 1 (x8.f0.map eStr)))), (n11, (.map (encM Value.string eI64 x8.f1)))]) ⟨rfl, rfl, rfl, rfl, trivial⟩ hs32 ?_
                refine AO.calm rfl 80 rfl (by decide) (.fz 1 (p0.map eStr)) (Calm.move rfl rfl) ?_
                obtain ⟨t34, et34, h⟩ := of_bind h
                refine AO.calm rfl 81 rfl (by decide) (eBool t34) (Calm.callB (args := [(.fz 1 (t31.map eStr)), (.fz 1 (p0.map eStr))]) rfl rfl ok25 ⟨.inr ⟨_, 0, _, _, _, 0, rfl, rfl, by simp, by rw [own_all]⟩, .inl ⟨rfl, rfl⟩, trivial⟩ rfl (bosketref16_Same_spec et34)) ?_
                refine AO.calm rfl 2 rfl (by decide) (eBool t34) (Calm.assign rfl rfl) ?_
                refine AO.nil (ρ' := [(2, (eBool t34))]) (H' := []) ⟨rfl, trivial⟩ (Sub.nil _) ?_
                refine AW.ret (ρ' := [(2, (eBool t34))]) (H' := []) ⟨rfl, trivial⟩ (Sub.refl _) ?_
                have hr := Option.some.inj h
                subst hr
                exact ⟨[(eBool t34)], ⟨rfl, rfl, trivial⟩, rfl⟩
end Go.Avl.T4
