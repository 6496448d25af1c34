/- Parts: T3f20, T3f67, T3f68, T3f57, T3f81, T3f77, T3f78. -/
import Derived.Test.YtcdennkoccjacaaAF1
/- bosket/nfa.Union; printed by avmain.py. -/
namespace Go.Avl.T3
open Go Go.RowKit Go.Proofs Go.Avl
set_option linter.unusedVariables false
set_option maxRecDepth 100000
set_option maxHeartbeats 4000000
attribute [local irreducible] AW AO AQ Spec SpecH Calm

def nfa_Union_c0 (k : Nat) (x4 : Int) (x6 : (List S35)) (x8 : (List Int)) : Option (S24 × (List Int)) :=
  some ((S24.mk x4 x6 (0 : Int) (0 : Int)), x8)
def nfa_Union_c1 (k : Nat) (rec15 : (Int → (List S35) → (List Int) → Int → Option (S24 × (List Int)))) (p0 : (List S24)) (x9 : Int) (x13 : (List Int)) (x14 : Int) (x19 : (List S35)) : Option (S24 × (List Int)) :=
  rec15 (w64 (x9 + ((lget p0 x14).f0))) x19 (x13 ++ ([(w64 (((lget p0 x14).f3) + x9))] : List Int)) (w64 (x14 + (1 : Int)))
def nfa_Union_c2 (k : Nat) (rec15 : (Int → (List S35) → (List Int) → Int → Option (S24 × (List Int)))) (p0 : (List S24)) (x9 : Int) (x13 : (List Int)) (x14 : Int) (x27 : (List S35)) : Option (S24 × (List Int)) :=
  if (x13 ++ ([(w64 (((lget p0 x14).f3) + x9))] : List Int)).length * 8 ≤ 140737488355328 then nfa_Union_c1 k rec15 p0 x9 x13 x14 x27
  else none
def nfa_Union_l3 (k : Nat) (rec15 : (Int → (List S35) → (List Int) → Int → Option (S24 × (List Int)))) (p0 : (List S24)) (x9 : Int) (x13 : (List Int)) (x14 : Int) : Nat → (List S35) → Int → Option (S24 × (List Int))
  | 0, _, _ => none
  | j + 1, x32, x33 =>
    if x33 < (((lget p0 x14).f1).length : Int) then if 0 ≤ x33 ∧ x33 < (((lget p0 x14).f1).length : Int) then if (x32 ++ ([(S35.mk (w64 (((lget ((lget p0 x14).f1) x33).f0) + x9)) (w64 (((lget ((lget p0 x14).f1) x33).f1) + x9)) ((lget ((lget p0 x14).f1) x33).f2) ((lget ((lget p0 x14).f1) x33).f3))] : List S35)).length * 56 ≤ 140737488355328 then (nfa_Union_l3 k rec15 p0 x9 x13 x14 j) (x32 ++ ([(S35.mk (w64 (((lget ((lget p0 x14).f1) x33).f0) + x9)) (w64 (((lget ((lget p0 x14).f1) x33).f1) + x9)) ((lget ((lget p0 x14).f1) x33).f2) ((lget ((lget p0 x14).f1) x33).f3))] : List S35)) (w64 (x33 + (1 : Int)))
    else none
    else none
    else nfa_Union_c2 k rec15 p0 x9 x13 x14 x32
def nfa_Union_l4 (k : Nat) (p0 : (List S24)) : Nat → Int → (List S35) → (List Int) → Int → Option (S24 × (List Int))
  | 0, _, _, _, _ => none
  | j + 1, x9, x11, x13, x14 =>
    if x14 < (p0.length : Int) then if 0 ≤ x14 ∧ x14 < (p0.length : Int) then if (x11 ++ ([(S35.mk (0 : Int) (w64 (((lget p0 x14).f2) + x9)) (Vector.replicate 4 (0 : Int)) true)] : List S35)).length * 56 ≤ 140737488355328 then nfa_Union_l3 k (nfa_Union_l4 k p0 j) p0 x9 x13 x14 k (x11 ++ ([(S35.mk (0 : Int) (w64 (((lget p0 x14).f2) + x9)) (Vector.replicate 4 (0 : Int)) true)] : List S35)) (0 : Int)
    else none
    else none
    else nfa_Union_c0 k x9 x11 x13
def nfa_Union (k : Nat) (p0 : (List S24)) : Option (S24 × (List Int)) :=
  nfa_Union_l4 k p0 k (1 : Int) ([] : List S35) ([] : List Int) (0 : Int)
theorem nfa_Union_spec {k : Nat} {p0 : (List S24)} {r : (S24 × (List Int))} (h : nfa_Union k p0 = some r) : Spec Try.prog 20 [(.fz 4 (p0.map e24))] (.tup [(e24 r.1), (.fz 1 (r.2.map eI64))]) := by
  rw [nfa_Union.eq_1] at h
  refine Spec.intro (res := [.cell 2 24, .tmp 3]) Try.func20 rfl rfl rfl (Nat.le_of_ble_eq_true rfl) ?_
  refine AW.seq ?_
  refine AW.reg ?_
  refine AO.alloc rfl 2 rfl (by decide) rfl zr24 lay24 fun n2 => ?_
  refine AO.calm rfl 3 rfl (by decide) (.fl (.slice none 0 0)) (Calm.assign rfl rfl) ?_
  refine AO.nil (ρ' := [(0, (.fz 4 (p0.map e24))), (2, (.ptr n2 0))]) (H' := [(n2, (.mem (.st [(1, (eI64 (0 : Int))), (1, (.fl (.slice none 0 0))), (1, (eI64 (0 : Int))), (1, (eI64 (0 : Int)))])))]) ⟨rfl, rfl, trivial⟩ (Sub.refl _) ?_
  refine AW.seq ?_
  refine AW.reg ?_
  refine AO.calm rfl 11 rfl (by decide) (.st [(1, (eI64 (1 : Int))), (1, (.fl (.slice none 0 0))), (1, (eI64 (0 : Int))), (1, (eI64 (0 : Int)))]) (Calm.build (qs := [(0, (eI64 (1 : Int)))]) rfl ⟨rfl, rfl, rfl, trivial⟩ Try.underlying24 rfl zr24 lay24 (.cons rfl rfl rfl rfl (Put.cast (Put.fld0 Put.here) rfl) .nil) rfl) ?_
  refine AO.alloc rfl 4 rfl (by decide) rfl zr24 lay24 fun n3 => ?_
  refine AO.store (X' := (.st [(1, (eI64 (1 : Int))), (1, (.fl (.slice none 0 0))), (1, (eI64 (0 : Int))), (1, (eI64 (0 : Int)))])) 0 rfl rfl rfl rfl rfl rfl (Put.cast Put.here rfl) rfl rfl sz24 rfl ?_
  refine AO.nil (ρ' := [(0, (.fz 4 (p0.map e24))), (2, (.ptr n2 0)), (4, (.ptr n3 0))]) (H' := [(n2, (.mem (.st [(1, (eI64 (0 : Int))), (1, (.fl (.slice none 0 0))), (1, (eI64 (0 : Int))), (1, (eI64 (0 : Int)))]))), (n3, (.mem (.st [(1, (eI64 (1 : Int))), (1, (.fl (.slice none 0 0))), (1, (eI64 (0 : Int))), (1, (eI64 (0 : Int)))])))]) ⟨rfl, rfl, rfl, trivial⟩ (Sub.cons 1 rfl (Sub.cons 0 rfl (Sub.nil _))) ?_
  refine AW.seq ?_
  refine AW.reg ?_
  refine AO.calm rfl 5 rfl (by decide) (.fl (.slice none 0 0)) (Calm.assign rfl rfl) ?_
  refine AO.nil (ρ' := [(0, (.fz 4 (p0.map e24))), (2, (.ptr n2 0)), (4, (.ptr n3 0)), (5, (.fl (.slice none 0 0)))]) (H' := [(n2, (.mem (.st [(1, (eI64 (0 : Int))), (1, (.fl (.slice none 0 0))), (1, (eI64 (0 : Int))), (1, (eI64 (0 : Int)))]))), (n3, (.mem (.st [(1, (eI64 (1 : Int))), (1, (.fl (.slice none 0 0))), (1, (eI64 (0 : Int))), (1, (eI64 (0 : Int)))])))]) ⟨rfl, rfl, rfl, rfl, trivial⟩ (Sub.refl _) ?_
  refine AW.seq_mid (fun ρ H => ∃ (n5 : Nat) (n7 : Nat) (x4 : Int) (x6 : (List S35)) (x8 : (List Int)), ρ = [(2, (.ptr n2 0)), (4, (.ptr n3 0)), (5, (.own n7 0 x8.length))] ∧ H = [(n2, (.mem (.st [(1, (eI64 (0 : Int))), (1, (.fl (.slice none 0 0))), (1, (eI64 (0 : Int))), (1, (eI64 (0 : Int)))]))), (n3, (.mem (.st [(1, (eI64 x4)), (1, (.own n5 0 x6.length)), (1, (eI64 (0 : Int))), (1, (eI64 (0 : Int)))]))), (n5, (.mem (.ar 7 (x6.map e35)))), (n7, (.mem (.ar 1 (x8.map eI64))))] ∧ nfa_Union_c0 k x4 x6 x8 = some r) ?_ ?_
  · refine AW.seq ?_
    refine AW.reg ?_
    refine AO.calm rfl 12 rfl (by decide) (.fz 4 (p0.map e24)) (Calm.move rfl rfl) ?_
    refine AO.calm rfl 13 rfl (by decide) (eI64 (p0.length : Int)) (Calm.lenL rfl rfl Try.underlying42) ?_
    refine AO.calm rfl 14 rfl (by decide) (eI64 (0 : Int)) (Calm.move rfl rfl) ?_
    refine AO.nil (ρ' := [(2, (.ptr n2 0)), (4, (.ptr n3 0)), (5, (.fl (.slice none 0 0))), (12, (.fz 4 (p0.map e24))), (13, (eI64 (p0.length : Int))), (14, (eI64 (0 : Int)))]) (H' := [(n2, (.mem (.st [(1, (eI64 (0 : Int))), (1, (.fl (.slice none 0 0))), (1, (eI64 (0 : Int))), (1, (eI64 (0 : Int)))]))), (n3, (.mem (.st [(1, (eI64 (1 : Int))), (1, (.fl (.slice none 0 0))), (1, (eI64 (0 : Int))), (1, (eI64 (0 : Int)))])))]) ⟨rfl, rfl, rfl, rfl, rfl, rfl, trivial⟩ (Sub.refl _) ?_
    refine AW.block ?_
    refine AW.nilOwn 5 1 rfl fun n42 => ?_
    refine AW.nilOwnFld 2 7 (fun n43 => (.st [(1, (eI64 (1 : Int))), (1, (.own n43 0 0)), (1, (eI64 (0 : Int))), (1, (eI64 (0 : Int)))])) rfl (fun _ => (Put.cast (Put.fldS (Put.fld0 Put.here)) rfl)) (fun _ => rfl) (fun _ => rfl) fun n43 => ?_
    refine AW.weak (ρ' := [(2, (.ptr n2 0)), (4, (.ptr n3 0)), (5, (.own n42 0 ([] : List Int).length)), (12, (.fz 4 (p0.map e24))), (13, (eI64 (p0.length : Int))), (14, (eI64 (0 : Int)))]) (H' := [(n2, (.mem (.st [(1, (eI64 (0 : Int))), (1, (.fl (.slice none 0 0))), (1, (eI64 (0 : Int))), (1, (eI64 (0 : Int)))]))), (n3, (.mem (.st [(1, (eI64 (1 : Int))), (1, (.own n43 0 ([] : List S35).length)), (1, (eI64 (0 : Int))), (1, (eI64 (0 : Int)))]))), (n43, (.mem (.ar 7 (([] : List S35).map e35)))), (n42, (.mem (.ar 1 (([] : List Int).map eI64))))]) ⟨rfl, rfl, rfl, rfl, rfl, rfl, trivial⟩ (Sub.cons 2 rfl (Sub.cons 2 rfl (Sub.cons 0 rfl (Sub.cons 0 rfl (Sub.nil _))))) ?_
    refine AW.loop (fun kq ρ H => ∃ (n10 : Nat) (n12 : Nat) (x9 : Int) (x11 : (List S35)) (x13 : (List Int)) (x14 : Int), ρ = [(2, (.ptr n2 0)), (4, (.ptr n3 0)), (5, (.own n12 0 x13.length)), (12, (.fz 4 (p0.map e24))), (13, (eI64 (p0.length : Int))), (14, (eI64 x14))] ∧ H = [(n2, (.mem (.st [(1, (eI64 (0 : Int))), (1, (.fl (.slice none 0 0))), (1, (eI64 (0 : Int))), (1, (eI64 (0 : Int)))]))), (n3, (.mem (.st [(1, (eI64 x9)), (1, (.own n10 0 x11.length)), (1, (eI64 (0 : Int))), (1, (eI64 (0 : Int)))]))), (n10, (.mem (.ar 7 (x11.map e35)))), (n12, (.mem (.ar 1 (x13.map eI64))))] ∧ nfa_Union_l4 k p0 kq x9 x11 x13 x14 = some r) k ⟨n43, n42, (1 : Int), ([] : List S35), ([] : List Int), (0 : Int), rfl, rfl, h⟩ ?_
    rintro kq16 _ _ ⟨n10, n12, x9, x11, x13, x14, rfl, rfl, h⟩
    cases kq16 with
    | zero => rw [nfa_Union_l4.eq_1] at h; cases h
    | succ kq16 =>
    rw [nfa_Union_l4.eq_2] at h
    generalize hrec15 : nfa_Union_l4 k p0 kq16 = rec15 at h
    refine AW.seq ?_
    refine AW.reg ?_
    refine AO.calm rfl 15 rfl (by decide) (eBool (decide (x14 < (p0.length : Int)))) (Calm.int rfl rfl rfl rfl) ?_
    refine AO.nil (ρ' := [(2, (.ptr n2 0)), (4, (.ptr n3 0)), (5, (.own n12 0 x13.length)), (12, (.fz 4 (p0.map e24))), (13, (eI64 (p0.length : Int))), (14, (eI64 x14)), (15, (eBool (decide (x14 < (p0.length : Int)))))]) (H' := [(n2, (.mem (.st [(1, (eI64 (0 : Int))), (1, (.fl (.slice none 0 0))), (1, (eI64 (0 : Int))), (1, (eI64 (0 : Int)))]))), (n3, (.mem (.st [(1, (eI64 x9)), (1, (.own n10 0 x11.length)), (1, (eI64 (0 : Int))), (1, (eI64 (0 : Int)))]))), (n10, (.mem (.ar 7 (x11.map e35)))), (n12, (.mem (.ar 1 (x13.map eI64))))]) ⟨rfl, rfl, rfl, rfl, rfl, rfl, rfl, trivial⟩ (Sub.refl _) ?_
    refine AW.seq ?_
    by_cases hc17 : x14 < (p0.length : Int)
    · have h := (if_pos hc17).symm.trans h
      refine AW.condP (x14 < (p0.length : Int)) rfl hc17 ?_
      refine AW.skip (ρ' := [(2, (.ptr n2 0)), (4, (.ptr n3 0)), (5, (.own n12 0 x13.length)), (12, (.fz 4 (p0.map e24))), (13, (eI64 (p0.length : Int))), (14, (eI64 x14))]) (H' := [(n2, (.mem (.st [(1, (eI64 (0 : Int))), (1, (.fl (.slice none 0 0))), (1, (eI64 (0 : Int))), (1, (eI64 (0 : Int)))]))), (n3, (.mem (.st [(1, (eI64 x9)), (1, (.own n10 0 x11.length)), (1, (eI64 (0 : Int))), (1, (eI64 (0 : Int)))]))), (n10, (.mem (.ar 7 (x11.map e35)))), (n12, (.mem (.ar 1 (x13.map eI64))))]) ⟨rfl, rfl, rfl, rfl, rfl, rfl, trivial⟩ (Sub.refl _) ?_
      refine AW.seq_mid (fun ρ H => ∃ (n18 : Nat) (n20 : Nat) (x19 : (List S35)), ρ = [(2, (.ptr n2 0)), (4, (.ptr n3 0)), (5, (.own n20 0 (x13 ++ ([(w64 (((lget p0 x14).f3) + x9))] : List Int)).length)), (12, (.fz 4 (p0.map e24))), (13, (eI64 (p0.length : Int))), (14, (eI64 x14))] ∧ H = [(n2, (.mem (.st [(1, (eI64 (0 : Int))), (1, (.fl (.slice none 0 0))), (1, (eI64 (0 : Int))), (1, (eI64 (0 : Int)))]))), (n3, (.mem (.st [(1, (eI64 (w64 (x9 + ((lget p0 x14).f0))))), (1, (.own n18 0 x19.length)), (1, (eI64 (0 : Int))), (1, (eI64 (0 : Int)))]))), (n18, (.mem (.ar 7 (x19.map e35)))), (n20, (.mem (.ar 1 ((x13 ++ ([(w64 (((lget p0 x14).f3) + x9))] : List Int)).map eI64))))] ∧ nfa_Union_c1 k rec15 p0 x9 x13 x14 x19 = some r) ?_ ?_
      · refine AW.block ?_
        refine AW.seq ?_
        refine AW.reg ?_
        obtain ⟨hg21, h⟩ := of_guard h
        refine AO.calm rfl 16 rfl (by decide) (.rp (e24 (lget p0 x14))) (Calm.idxL (f := e24) rfl rfl rfl hg21 Try.underlying42 sz24) ?_
        refine AO.calm rfl 17 rfl (by decide) (e24 (lget p0 x14)) (Calm.loadRp rfl rfl ag24 sz24) ?_
        refine AO.alloc rfl 7 rfl (by decide) rfl zr24 lay24 fun n22 => ?_
        refine AO.store (X' := (e24 (lget p0 x14))) 0 rfl rfl rfl rfl rfl rfl (Put.cast Put.here rfl) rfl rfl sz24 rfl ?_
        refine AO.nil (ρ' := [(2, (.ptr n2 0)), (4, (.ptr n3 0)), (5, (.own n12 0 x13.length)), (7, (.ptr n22 0)), (12, (.fz 4 (p0.map e24))), (13, (eI64 (p0.length : Int))), (14, (eI64 x14))]) (H' := [(n2, (.mem (.st [(1, (eI64 (0 : Int))), (1, (.fl (.slice none 0 0))), (1, (eI64 (0 : Int))), (1, (eI64 (0 : Int)))]))), (n3, (.mem (.st [(1, (eI64 x9)), (1, (.own n10 0 x11.length)), (1, (eI64 (0 : Int))), (1, (eI64 (0 : Int)))]))), (n10, (.mem (.ar 7 (x11.map e35)))), (n12, (.mem (.ar 1 (x13.map eI64)))), (n22, (.mem (e24 (lget p0 x14))))]) ⟨rfl, rfl, rfl, rfl, rfl, rfl, rfl, trivial⟩ (Sub.cons 1 rfl (Sub.cons 1 rfl (Sub.cons 1 rfl (Sub.cons 1 rfl (Sub.cons 0 rfl (Sub.nil _)))))) ?_
        refine AW.seq ?_
        refine AW.reg ?_
        refine AO.calm rfl 18 rfl (by decide) (.ptr n3 0) (Calm.fldPtr rfl rfl Try.underlying24 rfl sz3 _ rfl) ?_
        refine AO.calm rfl 19 rfl (by decide) (eI64 x9) (Calm.load 1 rfl rfl rfl (At.cast (At.fld0 At.here) rfl) ag3 sz3) ?_
        refine AO.calm rfl 8 rfl (by decide) (eI64 x9) (Calm.assign rfl rfl) ?_
        refine AO.nil (ρ' := [(2, (.ptr n2 0)), (4, (.ptr n3 0)), (5, (.own n12 0 x13.length)), (7, (.ptr n22 0)), (8, (eI64 x9)), (12, (.fz 4 (p0.map e24))), (13, (eI64 (p0.length : Int))), (14, (eI64 x14))]) (H' := [(n2, (.mem (.st [(1, (eI64 (0 : Int))), (1, (.fl (.slice none 0 0))), (1, (eI64 (0 : Int))), (1, (eI64 (0 : Int)))]))), (n3, (.mem (.st [(1, (eI64 x9)), (1, (.own n10 0 x11.length)), (1, (eI64 (0 : Int))), (1, (eI64 (0 : Int)))]))), (n10, (.mem (.ar 7 (x11.map e35)))), (n12, (.mem (.ar 1 (x13.map eI64)))), (n22, (.mem (e24 (lget p0 x14))))]) ⟨rfl, rfl, rfl, rfl, rfl, rfl, rfl, rfl, trivial⟩ (Sub.refl _) ?_
        refine AW.seq ?_
        refine AW.reg ?_
        refine AO.calm rfl 20 rfl (by decide) (.ptr n3 0) (Calm.fldPtr rfl rfl Try.underlying24 rfl sz3 _ rfl) ?_
        refine AO.calm rfl 21 rfl (by decide) (eI64 x9) (Calm.load 1 rfl rfl rfl (At.cast (At.fld0 At.here) rfl) ag3 sz3) ?_
        refine AO.calm rfl 22 rfl (by decide) (.ptr n22 0) (Calm.fldPtr rfl rfl Try.underlying24 rfl sz3 _ rfl) ?_
        refine AO.calm rfl 23 rfl (by decide) (eI64 ((lget p0 x14).f0)) (Calm.load 4 rfl rfl rfl (At.cast (At.fld0 At.here) rfl) ag3 sz3) ?_
        refine AO.calm rfl 24 rfl (by decide) (eI64 (w64 (x9 + ((lget p0 x14).f0)))) (Calm.int rfl rfl rfl rfl) ?_
        refine AO.calm rfl 25 rfl (by decide) (.ptr n3 0) (Calm.fldPtr rfl rfl Try.underlying24 rfl sz3 _ rfl) ?_
        refine AO.store (X' := (.st [(1, (eI64 (w64 (x9 + ((lget p0 x14).f0))))), (1, (.own n10 0 x11.length)), (1, (eI64 (0 : Int))), (1, (eI64 (0 : Int)))])) 1 rfl rfl rfl rfl rfl rfl (Put.cast (Put.fld0 Put.here) rfl) rfl rfl sz3 rfl ?_
        refine AO.nil (ρ' := [(2, (.ptr n2 0)), (4, (.ptr n3 0)), (5, (.own n12 0 x13.length)), (7, (.ptr n22 0)), (8, (eI64 x9)), (12, (.fz 4 (p0.map e24))), (13, (eI64 (p0.length : Int))), (14, (eI64 x14))]) (H' := [(n2, (.mem (.st [(1, (eI64 (0 : Int))), (1, (.fl (.slice none 0 0))), (1, (eI64 (0 : Int))), (1, (eI64 (0 : Int)))]))), (n3, (.mem (.st [(1, (eI64 (w64 (x9 + ((lget p0 x14).f0))))), (1, (.own n10 0 x11.length)), (1, (eI64 (0 : Int))), (1, (eI64 (0 : Int)))]))), (n10, (.mem (.ar 7 (x11.map e35)))), (n12, (.mem (.ar 1 (x13.map eI64)))), (n22, (.mem (e24 (lget p0 x14))))]) ⟨rfl, rfl, rfl, rfl, rfl, rfl, rfl, rfl, trivial⟩ (Sub.refl _) ?_
        refine AW.seq ?_
        refine AW.reg ?_
        refine AO.calm rfl 26 rfl (by decide) (.ptr n3 1) (Calm.fldPtr rfl rfl Try.underlying24 rfl sz22 _ rfl) ?_
        refine AO.calm rfl 27 rfl (by decide) (.own n10 0 x11.length) (Calm.load 1 rfl rfl rfl (At.cast (At.fldS (At.fld0 At.here)) rfl) ag22 sz22) ?_
        refine AO.calm rfl 28 rfl (by decide) (.ptr n22 2) (Calm.fldPtr rfl rfl Try.underlying24 rfl sz3 _ rfl) ?_
        refine AO.calm rfl 29 rfl (by decide) (eI64 ((lget p0 x14).f2)) (Calm.load 4 rfl rfl rfl (At.cast (At.fldS (At.fldS (At.fld0 At.here))) rfl) ag3 sz3) ?_
        refine AO.calm rfl 30 rfl (by decide) (eI64 x9) (Calm.move rfl rfl) ?_
        refine AO.calm rfl 31 rfl (by decide) (eI64 (w64 (((lget p0 x14).f2) + x9))) (Calm.int rfl rfl rfl rfl) ?_
        refine AO.calm rfl 32 rfl (by decide) (.st [(1, (eI64 (0 : Int))), (1, (eI64 (w64 (((lget p0 x14).f2) + x9)))), (4, (.ar 1 ((Vector.replicate 4 (0 : Int)).toList.map eU64))), (1, (eBool true))]) (Calm.build (qs := [(1, (eI64 (w64 (((lget p0 x14).f2) + x9)))), (3, (eBool true))]) rfl ⟨rfl, rfl, rfl, rfl, rfl, rfl, trivial⟩ Try.underlying35 rfl zr35 lay35 (.cons rfl rfl rfl rfl (Put.cast (Put.fldS (Put.fld0 Put.here)) rfl) (.cons rfl rfl rfl rfl (Put.cast (Put.fldS (Put.fldS (Put.fldS (Put.fld0 Put.here)))) rfl) .nil)) rfl) ?_
        refine AO.lit (Z := (.st [(1, (eI64 (0 : Int))), (1, (eI64 (0 : Int))), (4, (.ar 1 ((Vector.replicate 4 (0 : Int)).toList.map eU64))), (1, (eBool false))])) (xs := (([(S35.mk (0 : Int) (w64 (((lget p0 x14).f2) + x9)) (Vector.replicate 4 (0 : Int)) true)] : List S35).map e35)) (qs := [(0, (e35 (S35.mk (0 : Int) (w64 (((lget p0 x14).f2) + x9)) (Vector.replicate 4 (0 : Int)) true)))]) rfl 33 rfl (by decide) rfl ⟨rfl, rfl, rfl, trivial⟩ Try.underlying22 sz35 zr35 lay35 rfl (by decide) (litOK (z := 7) [(e35 (S35.mk (0 : Int) (w64 (((lget p0 x14).f2) + x9)) (Vector.replicate 4 (0 : Int)) true))] rfl ⟨⟨rfl, rfl⟩, trivial⟩) rfl fun n23 => ?_
        obtain ⟨hg25, h⟩ := of_guard h
        refine AO.appendL (l := x11) (m := ([(S35.mk (0 : Int) (w64 (((lget p0 x14).f2) + x9)) (Vector.replicate 4 (0 : Int)) true)] : List S35)) 3 34 rfl (by decide) rfl rfl rfl rfl rfl (Src.ownL (f := e35) (l := ([(S35.mk (0 : Int) (w64 (((lget p0 x14).f2) + x9)) (Vector.replicate 4 (0 : Int)) true)] : List S35)) 0 rfl) Try.underlying22 Try.underlying22 sz35 by35 zr35 rfl hg25 (by decide) fun n24 => ?_
        refine AO.calm rfl 35 rfl (by decide) (.ptr n3 1) (Calm.fldPtr rfl rfl Try.underlying24 rfl sz22 _ rfl) ?_
        refine AO.store (X' := (.st [(1, (eI64 (w64 (x9 + ((lget p0 x14).f0))))), (1, (.own n24 0 (x11 ++ ([(S35.mk (0 : Int) (w64 (((lget p0 x14).f2) + x9)) (Vector.replicate 4 (0 : Int)) true)] : List S35)).length)), (1, (eI64 (0 : Int))), (1, (eI64 (0 : Int)))])) 2 rfl rfl rfl rfl rfl rfl (Put.cast (Put.fldS (Put.fld0 Put.here)) rfl) rfl rfl sz22 rfl ?_
        refine AO.nil (ρ' := [(2, (.ptr n2 0)), (4, (.ptr n3 0)), (5, (.own n12 0 x13.length)), (7, (.ptr n22 0)), (8, (eI64 x9)), (12, (.fz 4 (p0.map e24))), (13, (eI64 (p0.length : Int))), (14, (eI64 x14))]) (H' := [(n2, (.mem (.st [(1, (eI64 (0 : Int))), (1, (.fl (.slice none 0 0))), (1, (eI64 (0 : Int))), (1, (eI64 (0 : Int)))]))), (n3, (.mem (.st [(1, (eI64 (w64 (x9 + ((lget p0 x14).f0))))), (1, (.own n24 0 (x11 ++ ([(S35.mk (0 : Int) (w64 (((lget p0 x14).f2) + x9)) (Vector.replicate 4 (0 : Int)) true)] : List S35)).length)), (1, (eI64 (0 : Int))), (1, (eI64 (0 : Int)))]))), (n24, (.mem (.ar 7 ((x11 ++ ([(S35.mk (0 : Int) (w64 (((lget p0 x14).f2) + x9)) (Vector.replicate 4 (0 : Int)) true)] : List S35)).map e35)))), (n12, (.mem (.ar 1 (x13.map eI64)))), (n22, (.mem (e24 (lget p0 x14))))]) ⟨rfl, rfl, rfl, rfl, rfl, rfl, rfl, rfl, trivial⟩ (Sub.cons 1 rfl (Sub.cons 1 rfl (Sub.cons 1 rfl (Sub.cons 1 rfl (Sub.cons 1 rfl (Sub.nil _)))))) ?_
        refine AW.seq_mid (fun ρ H => ∃ (n26 : Nat) (x27 : (List S35)), ρ = [(2, (.ptr n2 0)), (4, (.ptr n3 0)), (5, (.own n12 0 x13.length)), (7, (.ptr n22 0)), (8, (eI64 x9)), (12, (.fz 4 (p0.map e24))), (13, (eI64 (p0.length : Int))), (14, (eI64 x14))] ∧ H = [(n2, (.mem (.st [(1, (eI64 (0 : Int))), (1, (.fl (.slice none 0 0))), (1, (eI64 (0 : Int))), (1, (eI64 (0 : Int)))]))), (n3, (.mem (.st [(1, (eI64 (w64 (x9 + ((lget p0 x14).f0))))), (1, (.own n26 0 x27.length)), (1, (eI64 (0 : Int))), (1, (eI64 (0 : Int)))]))), (n26, (.mem (.ar 7 (x27.map e35)))), (n12, (.mem (.ar 1 (x13.map eI64)))), (n22, (.mem (e24 (lget p0 x14))))] ∧ nfa_Union_c2 k rec15 p0 x9 x13 x14 x27 = some r) ?_ ?_
        · refine AW.seq ?_
          refine AW.reg ?_
          refine AO.calm rfl 36 rfl (by decide) (.ptr n22 1) (Calm.fldPtr rfl rfl Try.underlying24 rfl sz22 _ rfl) ?_
          refine AO.calm rfl 37 rfl (by decide) (.fz 7 (((lget p0 x14).f1).map e35)) (Calm.load 4 rfl rfl rfl (At.cast (At.fldS (At.fld0 At.here)) rfl) ag22 sz22) ?_
          refine AO.calm rfl 38 rfl (by decide) (eI64 (((lget p0 x14).f1).length : Int)) (Calm.lenL rfl rfl Try.underlying22) ?_
          refine AO.calm rfl 39 rfl (by decide) (eI64 (0 : Int)) (Calm.move rfl rfl) ?_
          refine AO.nil (ρ' := [(2, (.ptr n2 0)), (4, (.ptr n3 0)), (5, (.own n12 0 x13.length)), (7, (.ptr n22 0)), (8, (eI64 x9)), (12, (.fz 4 (p0.map e24))), (13, (eI64 (p0.length : Int))), (14, (eI64 x14)), (37, (.fz 7 (((lget p0 x14).f1).map e35))), (38, (eI64 (((lget p0 x14).f1).length : Int))), (39, (eI64 (0 : Int)))]) (H' := [(n2, (.mem (.st [(1, (eI64 (0 : Int))), (1, (.fl (.slice none 0 0))), (1, (eI64 (0 : Int))), (1, (eI64 (0 : Int)))]))), (n3, (.mem (.st [(1, (eI64 (w64 (x9 + ((lget p0 x14).f0))))), (1, (.own n24 0 (x11 ++ ([(S35.mk (0 : Int) (w64 (((lget p0 x14).f2) + x9)) (Vector.replicate 4 (0 : Int)) true)] : List S35)).length)), (1, (eI64 (0 : Int))), (1, (eI64 (0 : Int)))]))), (n24, (.mem (.ar 7 ((x11 ++ ([(S35.mk (0 : Int) (w64 (((lget p0 x14).f2) + x9)) (Vector.replicate 4 (0 : Int)) true)] : List S35)).map e35)))), (n12, (.mem (.ar 1 (x13.map eI64)))), (n22, (.mem (e24 (lget p0 x14))))]) ⟨rfl, rfl, rfl, rfl, rfl, rfl, rfl, rfl, rfl, rfl, rfl, trivial⟩ (Sub.refl _) ?_
          refine AW.block ?_
          refine AW.weak (ρ' := [(2, (.ptr n2 0)), (4, (.ptr n3 0)), (5, (.own n12 0 x13.length)), (7, (.ptr n22 0)), (8, (eI64 x9)), (12, (.fz 4 (p0.map e24))), (13, (eI64 (p0.length : Int))), (14, (eI64 x14)), (37, (.fz 7 (((lget p0 x14).f1).map e35))), (38, (eI64 (((lget p0 x14).f1).length : Int))), (39, (eI64 (0 : Int)))]) (H' := [(n2, (.mem (.st [(1, (eI64 (0 : Int))), (1, (.fl (.slice none 0 0))), (1, (eI64 (0 : Int))), (1, (eI64 (0 : Int)))]))), (n3, (.mem (.st [(1, (eI64 (w64 (x9 + ((lget p0 x14).f0))))), (1, (.own n24 0 (x11 ++ ([(S35.mk (0 : Int) (w64 (((lget p0 x14).f2) + x9)) (Vector.replicate 4 (0 : Int)) true)] : List S35)).length)), (1, (eI64 (0 : Int))), (1, (eI64 (0 : Int)))]))), (n24, (.mem (.ar 7 ((x11 ++ ([(S35.mk (0 : Int) (w64 (((lget p0 x14).f2) + x9)) (Vector.replicate 4 (0 : Int)) true)] : List S35)).map e35)))), (n12, (.mem (.ar 1 (x13.map eI64)))), (n22, (.mem (e24 (lget p0 x14))))]) ⟨rfl, rfl, rfl, rfl, rfl, rfl, rfl, rfl, rfl, rfl, rfl, trivial⟩ (Sub.refl _) ?_
          refine AW.loop (fun kq ρ H => ∃ (n31 : Nat) (x32 : (List S35)) (x33 : Int), ρ = [(2, (.ptr n2 0)), (4, (.ptr n3 0)), (5, (.own n12 0 x13.length)), (7, (.ptr n22 0)), (8, (eI64 x9)), (12, (.fz 4 (p0.map e24))), (13, (eI64 (p0.length : Int))), (14, (eI64 x14)), (37, (.fz 7 (((lget p0 x14).f1).map e35))), (38, (eI64 (((lget p0 x14).f1).length : Int))), (39, (eI64 x33))] ∧ H = [(n2, (.mem (.st [(1, (eI64 (0 : Int))), (1, (.fl (.slice none 0 0))), (1, (eI64 (0 : Int))), (1, (eI64 (0 : Int)))]))), (n3, (.mem (.st [(1, (eI64 (w64 (x9 + ((lget p0 x14).f0))))), (1, (.own n31 0 x32.length)), (1, (eI64 (0 : Int))), (1, (eI64 (0 : Int)))]))), (n31, (.mem (.ar 7 (x32.map e35)))), (n12, (.mem (.ar 1 (x13.map eI64)))), (n22, (.mem (e24 (lget p0 x14))))] ∧ nfa_Union_l3 k rec15 p0 x9 x13 x14 kq x32 x33 = some r) k ⟨n24, (x11 ++ ([(S35.mk (0 : Int) (w64 (((lget p0 x14).f2) + x9)) (Vector.replicate 4 (0 : Int)) true)] : List S35)), (0 : Int), rfl, rfl, h⟩ ?_
          rintro kq35 _ _ ⟨n31, x32, x33, rfl, rfl, h⟩
          cases kq35 with
          | zero => rw [nfa_Union_l3.eq_1] at h; cases h
          | succ kq35 =>
          rw [nfa_Union_l3.eq_2] at h
          generalize hrec34 : nfa_Union_l3 k rec15 p0 x9 x13 x14 kq35 = rec34 at h
          refine AW.seq ?_
          refine AW.reg ?_
          refine AO.calm rfl 40 rfl (by decide) (eBool (decide (x33 < (((lget p0 x14).f1).length : Int)))) (Calm.int rfl rfl rfl rfl) ?_
          refine AO.nil (ρ' := [(2, (.ptr n2 0)), (4, (.ptr n3 0)), (5, (.own n12 0 x13.length)), (7, (.ptr n22 0)), (8, (eI64 x9)), (12, (.fz 4 (p0.map e24))), (13, (eI64 (p0.length : Int))), (14, (eI64 x14)), (37, (.fz 7 (((lget p0 x14).f1).map e35))), (38, (eI64 (((lget p0 x14).f1).length : Int))), (39, (eI64 x33)), (40, (eBool (decide (x33 < (((lget p0 x14).f1).length : Int)))))]) (H' := [(n2, (.mem (.st [(1, (eI64 (0 : Int))), (1, (.fl (.slice none 0 0))), (1, (eI64 (0 : Int))), (1, (eI64 (0 : Int)))]))), (n3, (.mem (.st [(1, (eI64 (w64 (x9 + ((lget p0 x14).f0))))), (1, (.own n31 0 x32.length)), (1, (eI64 (0 : Int))), (1, (eI64 (0 : Int)))]))), (n31, (.mem (.ar 7 (x32.map e35)))), (n12, (.mem (.ar 1 (x13.map eI64)))), (n22, (.mem (e24 (lget p0 x14))))]) ⟨rfl, rfl, rfl, rfl, rfl, rfl, rfl, rfl, rfl, rfl, rfl, rfl, trivial⟩ (Sub.refl _) ?_
          refine AW.seq ?_
          by_cases hc36 : x33 < (((lget p0 x14).f1).length : Int)
          · have h := (if_pos hc36).symm.trans h
            refine AW.condP (x33 < (((lget p0 x14).f1).length : Int)) rfl hc36 ?_
            refine AW.skip (ρ' := [(2, (.ptr n2 0)), (4, (.ptr n3 0)), (5, (.own n12 0 x13.length)), (7, (.ptr n22 0)), (8, (eI64 x9)), (12, (.fz 4 (p0.map e24))), (13, (eI64 (p0.length : Int))), (14, (eI64 x14)), (37, (.fz 7 (((lget p0 x14).f1).map e35))), (38, (eI64 (((lget p0 x14).f1).length : Int))), (39, (eI64 x33))]) (H' := [(n2, (.mem (.st [(1, (eI64 (0 : Int))), (1, (.fl (.slice none 0 0))), (1, (eI64 (0 : Int))), (1, (eI64 (0 : Int)))]))), (n3, (.mem (.st [(1, (eI64 (w64 (x9 + ((lget p0 x14).f0))))), (1, (.own n31 0 x32.length)), (1, (eI64 (0 : Int))), (1, (eI64 (0 : Int)))]))), (n31, (.mem (.ar 7 (x32.map e35)))), (n12, (.mem (.ar 1 (x13.map eI64)))), (n22, (.mem (e24 (lget p0 x14))))]) ⟨rfl, rfl, rfl, rfl, rfl, rfl, rfl, rfl, rfl, rfl, rfl, trivial⟩ (Sub.refl _) ?_
            refine AW.seq ?_
            refine AW.block ?_
            refine AW.seq ?_
            refine AW.reg ?_
            obtain ⟨hg37, h⟩ := of_guard h
            refine AO.calm rfl 41 rfl (by decide) (.rp (e35 (lget ((lget p0 x14).f1) x33))) (Calm.idxL (f := e35) rfl rfl rfl hg37 Try.underlying22 sz35) ?_
            refine AO.calm rfl 42 rfl (by decide) (e35 (lget ((lget p0 x14).f1) x33)) (Calm.loadRp rfl rfl ag35 sz35) ?_
            refine AO.alloc rfl 10 rfl (by decide) rfl zr35 lay35 fun n38 => ?_
            refine AO.store (X' := (e35 (lget ((lget p0 x14).f1) x33))) 0 rfl rfl rfl rfl rfl rfl (Put.cast Put.here rfl) rfl rfl sz35 rfl ?_
            refine AO.nil (ρ' := [(2, (.ptr n2 0)), (4, (.ptr n3 0)), (5, (.own n12 0 x13.length)), (7, (.ptr n22 0)), (8, (eI64 x9)), (10, (.ptr n38 0)), (12, (.fz 4 (p0.map e24))), (13, (eI64 (p0.length : Int))), (14, (eI64 x14)), (37, (.fz 7 (((lget p0 x14).f1).map e35))), (38, (eI64 (((lget p0 x14).f1).length : Int))), (39, (eI64 x33))]) (H' := [(n2, (.mem (.st [(1, (eI64 (0 : Int))), (1, (.fl (.slice none 0 0))), (1, (eI64 (0 : Int))), (1, (eI64 (0 : Int)))]))), (n3, (.mem (.st [(1, (eI64 (w64 (x9 + ((lget p0 x14).f0))))), (1, (.own n31 0 x32.length)), (1, (eI64 (0 : Int))), (1, (eI64 (0 : Int)))]))), (n31, (.mem (.ar 7 (x32.map e35)))), (n12, (.mem (.ar 1 (x13.map eI64)))), (n22, (.mem (e24 (lget p0 x14)))), (n38, (.mem (e35 (lget ((lget p0 x14).f1) x33))))]) ⟨rfl, rfl, rfl, rfl, rfl, rfl, rfl, rfl, rfl, rfl, rfl, rfl, trivial⟩ (Sub.cons 1 rfl (Sub.cons 1 rfl (Sub.cons 1 rfl (Sub.cons 1 rfl (Sub.cons 1 rfl (Sub.cons 0 rfl (Sub.nil _))))))) ?_
            refine AW.seq ?_
            refine AW.reg ?_
            refine AO.calm rfl 43 rfl (by decide) (.ptr n38 0) (Calm.fldPtr rfl rfl Try.underlying35 rfl sz3 _ rfl) ?_
            refine AO.calm rfl 44 rfl (by decide) (eI64 ((lget ((lget p0 x14).f1) x33).f0)) (Calm.load 5 rfl rfl rfl (At.cast (At.fld0 At.here) rfl) ag3 sz3) ?_
            refine AO.calm rfl 45 rfl (by decide) (eI64 x9) (Calm.move rfl rfl) ?_
            refine AO.calm rfl 46 rfl (by decide) (eI64 (w64 (((lget ((lget p0 x14).f1) x33).f0) + x9))) (Calm.int rfl rfl rfl rfl) ?_
            refine AO.calm rfl 47 rfl (by decide) (.ptr n38 0) (Calm.fldPtr rfl rfl Try.underlying35 rfl sz3 _ rfl) ?_
            refine AO.store (X' := (.st [(1, (eI64 (w64 (((lget ((lget p0 x14).f1) x33).f0) + x9)))), (1, (eI64 ((lget ((lget p0 x14).f1) x33).f1))), (4, (.ar 1 (((lget ((lget p0 x14).f1) x33).f2).toList.map eU64))), (1, (eBool ((lget ((lget p0 x14).f1) x33).f3)))])) 5 rfl rfl rfl rfl rfl rfl (Put.cast (Put.fld0 Put.here) rfl) rfl rfl sz3 rfl ?_
            refine AO.nil (ρ' := [(2, (.ptr n2 0)), (4, (.ptr n3 0)), (5, (.own n12 0 x13.length)), (7, (.ptr n22 0)), (8, (eI64 x9)), (10, (.ptr n38 0)), (12, (.fz 4 (p0.map e24))), (13, (eI64 (p0.length : Int))), (14, (eI64 x14)), (37, (.fz 7 (((lget p0 x14).f1).map e35))), (38, (eI64 (((lget p0 x14).f1).length : Int))), (39, (eI64 x33))]) (H' := [(n2, (.mem (.st [(1, (eI64 (0 : Int))), (1, (.fl (.slice none 0 0))), (1, (eI64 (0 : Int))), (1, (eI64 (0 : Int)))]))), (n3, (.mem (.st [(1, (eI64 (w64 (x9 + ((lget p0 x14).f0))))), (1, (.own n31 0 x32.length)), (1, (eI64 (0 : Int))), (1, (eI64 (0 : Int)))]))), (n31, (.mem (.ar 7 (x32.map e35)))), (n12, (.mem (.ar 1 (x13.map eI64)))), (n22, (.mem (e24 (lget p0 x14)))), (n38, (.mem (.st [(1, (eI64 (w64 (((lget ((lget p0 x14).f1) x33).f0) + x9)))), (1, (eI64 ((lget ((lget p0 x14).f1) x33).f1))), (4, (.ar 1 (((lget ((lget p0 x14).f1) x33).f2).toList.map eU64))), (1, (eBool ((lget ((lget p0 x14).f1) x33).f3)))])))]) ⟨rfl, rfl, rfl, rfl, rfl, rfl, rfl, rfl, rfl, rfl, rfl, rfl, trivial⟩ (Sub.refl _) ?_
            refine AW.seq ?_
            refine AW.reg ?_
            refine AO.calm rfl 48 rfl (by decide) (.ptr n38 1) (Calm.fldPtr rfl rfl Try.underlying35 rfl sz3 _ rfl) ?_
            refine AO.calm rfl 49 rfl (by decide) (eI64 ((lget ((lget p0 x14).f1) x33).f1)) (Calm.load 5 rfl rfl rfl (At.cast (At.fldS (At.fld0 At.here)) rfl) ag3 sz3) ?_
            refine AO.calm rfl 50 rfl (by decide) (eI64 x9) (Calm.move rfl rfl) ?_
            refine AO.calm rfl 51 rfl (by decide) (eI64 (w64 (((lget ((lget p0 x14).f1) x33).f1) + x9))) (Calm.int rfl rfl rfl rfl) ?_
            refine AO.calm rfl 52 rfl (by decide) (.ptr n38 1) (Calm.fldPtr rfl rfl Try.underlying35 rfl sz3 _ rfl) ?_
            refine AO.store (X' := (.st [(1, (eI64 (w64 (((lget ((lget p0 x14).f1) x33).f0) + x9)))), (1, (eI64 (w64 (((lget ((lget p0 x14).f1) x33).f1) + x9)))), (4, (.ar 1 (((lget ((lget p0 x14).f1) x33).f2).toList.map eU64))), (1, (eBool ((lget ((lget p0 x14).f1) x33).f3)))])) 5 rfl rfl rfl rfl rfl rfl (Put.cast (Put.fldS (Put.fld0 Put.here)) rfl) rfl rfl sz3 rfl ?_
            refine AO.nil (ρ' := [(2, (.ptr n2 0)), (4, (.ptr n3 0)), (5, (.own n12 0 x13.length)), (7, (.ptr n22 0)), (8, (eI64 x9)), (10, (.ptr n38 0)), (12, (.fz 4 (p0.map e24))), (13, (eI64 (p0.length : Int))), (14, (eI64 x14)), (37, (.fz 7 (((lget p0 x14).f1).map e35))), (38, (eI64 (((lget p0 x14).f1).length : Int))), (39, (eI64 x33))]) (H' := [(n2, (.mem (.st [(1, (eI64 (0 : Int))), (1, (.fl (.slice none 0 0))), (1, (eI64 (0 : Int))), (1, (eI64 (0 : Int)))]))), (n3, (.mem (.st [(1, (eI64 (w64 (x9 + ((lget p0 x14).f0))))), (1, (.own n31 0 x32.length)), (1, (eI64 (0 : Int))), (1, (eI64 (0 : Int)))]))), (n31, (.mem (.ar 7 (x32.map e35)))), (n12, (.mem (.ar 1 (x13.map eI64)))), (n22, (.mem (e24 (lget p0 x14)))), (n38, (.mem (.st [(1, (eI64 (w64 (((lget ((lget p0 x14).f1) x33).f0) + x9)))), (1, (eI64 (w64 (((lget ((lget p0 x14).f1) x33).f1) + x9)))), (4, (.ar 1 (((lget ((lget p0 x14).f1) x33).f2).toList.map eU64))), (1, (eBool ((lget ((lget p0 x14).f1) x33).f3)))])))]) ⟨rfl, rfl, rfl, rfl, rfl, rfl, rfl, rfl, rfl, rfl, rfl, rfl, trivial⟩ (Sub.refl _) ?_
            refine AW.reg ?_
            refine AO.calm rfl 53 rfl (by decide) (.ptr n3 1) (Calm.fldPtr rfl rfl Try.underlying24 rfl sz22 _ rfl) ?_
            refine AO.calm rfl 54 rfl (by decide) (.own n31 0 x32.length) (Calm.load 1 rfl rfl rfl (At.cast (At.fldS (At.fld0 At.here)) rfl) ag22 sz22) ?_
            refine AO.calm rfl 55 rfl (by decide) (e35 (S35.mk (w64 (((lget ((lget p0 x14).f1) x33).f0) + x9)) (w64 (((lget ((lget p0 x14).f1) x33).f1) + x9)) ((lget ((lget p0 x14).f1) x33).f2) ((lget ((lget p0 x14).f1) x33).f3))) (Calm.load 5 rfl rfl rfl (At.cast At.here rfl) ag35 sz35) ?_
            refine AO.lit (Z := (.st [(1, (eI64 (0 : Int))), (1, (eI64 (0 : Int))), (4, (.ar 1 ((Vector.replicate 4 (0 : Int)).toList.map eU64))), (1, (eBool false))])) (xs := (([(S35.mk (w64 (((lget ((lget p0 x14).f1) x33).f0) + x9)) (w64 (((lget ((lget p0 x14).f1) x33).f1) + x9)) ((lget ((lget p0 x14).f1) x33).f2) ((lget ((lget p0 x14).f1) x33).f3))] : List S35).map e35)) (qs := [(0, (e35 (S35.mk (w64 (((lget ((lget p0 x14).f1) x33).f0) + x9)) (w64 (((lget ((lget p0 x14).f1) x33).f1) + x9)) ((lget ((lget p0 x14).f1) x33).f2) ((lget ((lget p0 x14).f1) x33).f3))))]) rfl 56 rfl (by decide) rfl ⟨rfl, rfl, rfl, trivial⟩ Try.underlying22 sz35 zr35 lay35 rfl (by decide) (litOK (z := 7) [(e35 (S35.mk (w64 (((lget ((lget p0 x14).f1) x33).f0) + x9)) (w64 (((lget ((lget p0 x14).f1) x33).f1) + x9)) ((lget ((lget p0 x14).f1) x33).f2) ((lget ((lget p0 x14).f1) x33).f3)))] rfl ⟨⟨rfl, rfl⟩, trivial⟩) rfl fun n39 => ?_
            obtain ⟨hg41, h⟩ := of_guard h
            refine AO.appendL (l := x32) (m := ([(S35.mk (w64 (((lget ((lget p0 x14).f1) x33).f0) + x9)) (w64 (((lget ((lget p0 x14).f1) x33).f1) + x9)) ((lget ((lget p0 x14).f1) x33).f2) ((lget ((lget p0 x14).f1) x33).f3))] : List S35)) 3 57 rfl (by decide) rfl rfl rfl rfl rfl (Src.ownL (f := e35) (l := ([(S35.mk (w64 (((lget ((lget p0 x14).f1) x33).f0) + x9)) (w64 (((lget ((lget p0 x14).f1) x33).f1) + x9)) ((lget ((lget p0 x14).f1) x33).f2) ((lget ((lget p0 x14).f1) x33).f3))] : List S35)) 0 rfl) Try.underlying22 Try.underlying22 sz35 by35 zr35 rfl hg41 (by decide) fun n40 => ?_
            refine AO.calm rfl 58 rfl (by decide) (.ptr n3 1) (Calm.fldPtr rfl rfl Try.underlying24 rfl sz22 _ rfl) ?_
            refine AO.store (X' := (.st [(1, (eI64 (w64 (x9 + ((lget p0 x14).f0))))), (1, (.own n40 0 (x32 ++ ([(S35.mk (w64 (((lget ((lget p0 x14).f1) x33).f0) + x9)) (w64 (((lget ((lget p0 x14).f1) x33).f1) + x9)) ((lget ((lget p0 x14).f1) x33).f2) ((lget ((lget p0 x14).f1) x33).f3))] : List S35)).length)), (1, (eI64 (0 : Int))), (1, (eI64 (0 : Int)))])) 2 rfl rfl rfl rfl rfl rfl (Put.cast (Put.fldS (Put.fld0 Put.here)) rfl) rfl rfl sz22 rfl ?_
            refine AO.nil (ρ' := [(2, (.ptr n2 0)), (4, (.ptr n3 0)), (5, (.own n12 0 x13.length)), (7, (.ptr n22 0)), (8, (eI64 x9)), (12, (.fz 4 (p0.map e24))), (13, (eI64 (p0.length : Int))), (14, (eI64 x14)), (37, (.fz 7 (((lget p0 x14).f1).map e35))), (38, (eI64 (((lget p0 x14).f1).length : Int))), (39, (eI64 x33))]) (H' := [(n2, (.mem (.st [(1, (eI64 (0 : Int))), (1, (.fl (.slice none 0 0))), (1, (eI64 (0 : Int))), (1, (eI64 (0 : Int)))]))), (n3, (.mem (.st [(1, (eI64 (w64 (x9 + ((lget p0 x14).f0))))), (1, (.own n40 0 (x32 ++ ([(S35.mk (w64 (((lget ((lget p0 x14).f1) x33).f0) + x9)) (w64 (((lget ((lget p0 x14).f1) x33).f1) + x9)) ((lget ((lget p0 x14).f1) x33).f2) ((lget ((lget p0 x14).f1) x33).f3))] : List S35)).length)), (1, (eI64 (0 : Int))), (1, (eI64 (0 : Int)))]))), (n40, (.mem (.ar 7 ((x32 ++ ([(S35.mk (w64 (((lget ((lget p0 x14).f1) x33).f0) + x9)) (w64 (((lget ((lget p0 x14).f1) x33).f1) + x9)) ((lget ((lget p0 x14).f1) x33).f2) ((lget ((lget p0 x14).f1) x33).f3))] : List S35)).map e35)))), (n12, (.mem (.ar 1 (x13.map eI64)))), (n22, (.mem (e24 (lget p0 x14))))]) ⟨rfl, rfl, rfl, rfl, rfl, rfl, rfl, rfl, rfl, rfl, rfl, trivial⟩ (Sub.cons 1 rfl (Sub.cons 1 rfl (Sub.cons 1 rfl (Sub.cons 1 rfl (Sub.cons 1 rfl (Sub.nil _)))))) ?_
            refine AW.reg ?_
            refine AO.calm rfl 59 rfl (by decide) (eI64 (w64 (x33 + (1 : Int)))) (Calm.int rfl rfl rfl rfl) ?_
            refine AO.calm rfl 39 rfl (by decide) (eI64 (w64 (x33 + (1 : Int)))) (Calm.move rfl rfl) ?_
            refine AO.nil (ρ' := [(2, (.ptr n2 0)), (4, (.ptr n3 0)), (5, (.own n12 0 x13.length)), (7, (.ptr n22 0)), (8, (eI64 x9)), (12, (.fz 4 (p0.map e24))), (13, (eI64 (p0.length : Int))), (14, (eI64 x14)), (37, (.fz 7 (((lget p0 x14).f1).map e35))), (38, (eI64 (((lget p0 x14).f1).length : Int))), (39, (eI64 (w64 (x33 + (1 : Int)))))]) (H' := [(n2, (.mem (.st [(1, (eI64 (0 : Int))), (1, (.fl (.slice none 0 0))), (1, (eI64 (0 : Int))), (1, (eI64 (0 : Int)))]))), (n3, (.mem (.st [(1, (eI64 (w64 (x9 + ((lget p0 x14).f0))))), (1, (.own n40 0 (x32 ++ ([(S35.mk (w64 (((lget ((lget p0 x14).f1) x33).f0) + x9)) (w64 (((lget ((lget p0 x14).f1) x33).f1) + x9)) ((lget ((lget p0 x14).f1) x33).f2) ((lget ((lget p0 x14).f1) x33).f3))] : List S35)).length)), (1, (eI64 (0 : Int))), (1, (eI64 (0 : Int)))]))), (n40, (.mem (.ar 7 ((x32 ++ ([(S35.mk (w64 (((lget ((lget p0 x14).f1) x33).f0) + x9)) (w64 (((lget ((lget p0 x14).f1) x33).f1) + x9)) ((lget ((lget p0 x14).f1) x33).f2) ((lget ((lget p0 x14).f1) x33).f3))] : List S35)).map e35)))), (n12, (.mem (.ar 1 (x13.map eI64)))), (n22, (.mem (e24 (lget p0 x14))))]) ⟨rfl, rfl, rfl, rfl, rfl, rfl, rfl, rfl, rfl, rfl, rfl, trivial⟩ (Sub.refl _) ?_
            exact ⟨kq35, Nat.lt_succ_self _, n40, (x32 ++ ([(S35.mk (w64 (((lget ((lget p0 x14).f1) x33).f0) + x9)) (w64 (((lget ((lget p0 x14).f1) x33).f1) + x9)) ((lget ((lget p0 x14).f1) x33).f2) ((lget ((lget p0 x14).f1) x33).f3))] : List S35)), (w64 (x33 + (1 : Int))), rfl, rfl, by rw [hrec34]; exact h⟩
          · have h := (if_neg hc36).symm.trans h
            refine AW.condN (x33 < (((lget p0 x14).f1).length : Int)) rfl hc36 ?_
            refine AW.exit (ρ' := [(2, (.ptr n2 0)), (4, (.ptr n3 0)), (5, (.own n12 0 x13.length)), (7, (.ptr n22 0)), (8, (eI64 x9)), (12, (.fz 4 (p0.map e24))), (13, (eI64 (p0.length : Int))), (14, (eI64 x14))]) (H' := [(n2, (.mem (.st [(1, (eI64 (0 : Int))), (1, (.fl (.slice none 0 0))), (1, (eI64 (0 : Int))), (1, (eI64 (0 : Int)))]))), (n3, (.mem (.st [(1, (eI64 (w64 (x9 + ((lget p0 x14).f0))))), (1, (.own n31 0 x32.length)), (1, (eI64 (0 : Int))), (1, (eI64 (0 : Int)))]))), (n31, (.mem (.ar 7 (x32.map e35)))), (n12, (.mem (.ar 1 (x13.map eI64)))), (n22, (.mem (e24 (lget p0 x14))))]) ⟨rfl, rfl, rfl, rfl, rfl, rfl, rfl, rfl, trivial⟩ (Sub.refl _) ?_
            exact ⟨n31, x32, rfl, rfl, h⟩
        · rintro _ _ ⟨n26, x27, rfl, rfl, h⟩
          rw [nfa_Union_c2.eq_1] at h
          refine AW.reg ?_
          refine AO.calm rfl 60 rfl (by decide) (.own n12 0 x13.length) (Calm.move rfl rfl) ?_
          refine AO.calm rfl 61 rfl (by decide) (.ptr n22 3) (Calm.fldPtr rfl rfl Try.underlying24 rfl sz3 _ rfl) ?_
          refine AO.calm rfl 62 rfl (by decide) (eI64 ((lget p0 x14).f3)) (Calm.load 4 rfl rfl rfl (At.cast (At.fldS (At.fldS (At.fldS (At.fld0 At.here)))) rfl) ag3 sz3) ?_
          refine AO.calm rfl 63 rfl (by decide) (eI64 x9) (Calm.move rfl rfl) ?_
          refine AO.calm rfl 64 rfl (by decide) (eI64 (w64 (((lget p0 x14).f3) + x9))) (Calm.int rfl rfl rfl rfl) ?_
          refine AO.lit (Z := (eI64 (0 : Int))) (xs := (([(w64 (((lget p0 x14).f3) + x9))] : List Int).map eI64)) (qs := [(0, (eI64 (w64 (((lget p0 x14).f3) + x9))))]) rfl 65 rfl (by decide) rfl ⟨rfl, rfl, rfl, trivial⟩ Try.underlying43 sz3 zr3 lay3 rfl (by decide) (litOK (z := 1) [(eI64 (w64 (((lget p0 x14).f3) + x9)))] rfl ⟨⟨rfl, rfl⟩, trivial⟩) rfl fun n28 => ?_
          obtain ⟨hg30, h⟩ := of_guard h
          refine AO.appendL (l := x13) (m := ([(w64 (((lget p0 x14).f3) + x9))] : List Int)) 4 66 rfl (by decide) rfl rfl rfl rfl rfl (Src.ownL (f := eI64) (l := ([(w64 (((lget p0 x14).f3) + x9))] : List Int)) 0 rfl) Try.underlying43 Try.underlying43 sz3 by3 zr3 rfl hg30 (by decide) fun n29 => ?_
          refine AO.calm rfl 5 rfl (by decide) (.own n29 0 (x13 ++ ([(w64 (((lget p0 x14).f3) + x9))] : List Int)).length) (Calm.assign rfl rfl) ?_
          refine AO.nil (ρ' := [(2, (.ptr n2 0)), (4, (.ptr n3 0)), (5, (.own n29 0 (x13 ++ ([(w64 (((lget p0 x14).f3) + x9))] : List Int)).length)), (12, (.fz 4 (p0.map e24))), (13, (eI64 (p0.length : Int))), (14, (eI64 x14))]) (H' := [(n2, (.mem (.st [(1, (eI64 (0 : Int))), (1, (.fl (.slice none 0 0))), (1, (eI64 (0 : Int))), (1, (eI64 (0 : Int)))]))), (n3, (.mem (.st [(1, (eI64 (w64 (x9 + ((lget p0 x14).f0))))), (1, (.own n26 0 x27.length)), (1, (eI64 (0 : Int))), (1, (eI64 (0 : Int)))]))), (n26, (.mem (.ar 7 (x27.map e35)))), (n29, (.mem (.ar 1 ((x13 ++ ([(w64 (((lget p0 x14).f3) + x9))] : List Int)).map eI64))))]) ⟨rfl, rfl, rfl, rfl, rfl, rfl, trivial⟩ (Sub.cons 1 rfl (Sub.cons 1 rfl (Sub.cons 1 rfl (Sub.cons 1 rfl (Sub.nil _))))) ?_
          exact ⟨n26, n29, x27, rfl, rfl, h⟩
      · rintro _ _ ⟨n18, n20, x19, rfl, rfl, h⟩
        rw [nfa_Union_c1.eq_1] at h
        refine AW.reg ?_
        refine AO.calm rfl 67 rfl (by decide) (eI64 (w64 (x14 + (1 : Int)))) (Calm.int rfl rfl rfl rfl) ?_
        refine AO.calm rfl 14 rfl (by decide) (eI64 (w64 (x14 + (1 : Int)))) (Calm.move rfl rfl) ?_
        refine AO.nil (ρ' := [(2, (.ptr n2 0)), (4, (.ptr n3 0)), (5, (.own n20 0 (x13 ++ ([(w64 (((lget p0 x14).f3) + x9))] : List Int)).length)), (12, (.fz 4 (p0.map e24))), (13, (eI64 (p0.length : Int))), (14, (eI64 (w64 (x14 + (1 : Int)))))]) (H' := [(n2, (.mem (.st [(1, (eI64 (0 : Int))), (1, (.fl (.slice none 0 0))), (1, (eI64 (0 : Int))), (1, (eI64 (0 : Int)))]))), (n3, (.mem (.st [(1, (eI64 (w64 (x9 + ((lget p0 x14).f0))))), (1, (.own n18 0 x19.length)), (1, (eI64 (0 : Int))), (1, (eI64 (0 : Int)))]))), (n18, (.mem (.ar 7 (x19.map e35)))), (n20, (.mem (.ar 1 ((x13 ++ ([(w64 (((lget p0 x14).f3) + x9))] : List Int)).map eI64))))]) ⟨rfl, rfl, rfl, rfl, rfl, rfl, trivial⟩ (Sub.refl _) ?_
        exact ⟨kq16, Nat.lt_succ_self _, n18, n20, (w64 (x9 + ((lget p0 x14).f0))), x19, (x13 ++ ([(w64 (((lget p0 x14).f3) + x9))] : List Int)), (w64 (x14 + (1 : Int))), rfl, rfl, by rw [hrec15]; exact h⟩
    · have h := (if_neg hc17).symm.trans h
      refine AW.condN (x14 < (p0.length : Int)) rfl hc17 ?_
      refine AW.exit (ρ' := [(2, (.ptr n2 0)), (4, (.ptr n3 0)), (5, (.own n12 0 x13.length))]) (H' := [(n2, (.mem (.st [(1, (eI64 (0 : Int))), (1, (.fl (.slice none 0 0))), (1, (eI64 (0 : Int))), (1, (eI64 (0 : Int)))]))), (n3, (.mem (.st [(1, (eI64 x9)), (1, (.own n10 0 x11.length)), (1, (eI64 (0 : Int))), (1, (eI64 (0 : Int)))]))), (n10, (.mem (.ar 7 (x11.map e35)))), (n12, (.mem (.ar 1 (x13.map eI64))))]) ⟨rfl, rfl, rfl, trivial⟩ (Sub.refl _) ?_
      exact ⟨n10, n12, x9, x11, x13, rfl, rfl, h⟩
  · rintro _ _ ⟨n5, n7, x4, x6, x8, rfl, rfl, h⟩
    rw [nfa_Union_c0.eq_1] at h
    refine AW.seq ?_
    refine AW.reg ?_
    refine AO.freezeFld (X' := (.st [(1, (eI64 x4)), (1, (.fz 7 (x6.map e35))), (1, (eI64 (0 : Int))), (1, (eI64 (0 : Int)))])) (els' := (x6.map e35)) 2 1 rfl rfl (Put.cast (Put.fldS (Put.fld0 Put.here)) rfl) (by simp) (by rw [own_all]) rfl rfl (by decide) ?_
    refine AO.calm rfl 68 rfl (by decide) (e24 (S24.mk x4 x6 (0 : Int) (0 : Int))) (Calm.load 1 rfl rfl rfl (At.cast At.here rfl) ag24 sz24) ?_
    refine AO.calm rfl 69 rfl (by decide) (.own n7 0 x8.length) (Calm.move rfl rfl) ?_
    refine AO.store (X' := (e24 (S24.mk x4 x6 (0 : Int) (0 : Int)))) 0 rfl rfl rfl rfl rfl rfl (Put.cast Put.here rfl) rfl rfl sz24 rfl ?_
    refine AO.calm rfl 3 rfl (by decide) (.own n7 0 x8.length) (Calm.assign rfl rfl) ?_
    refine AO.nil (ρ' := [(2, (.ptr n2 0)), (3, (.own n7 0 x8.length))]) (H' := [(n2, (.mem (e24 (S24.mk x4 x6 (0 : Int) (0 : Int))))), (n7, (.mem (.ar 1 (x8.map eI64))))]) ⟨rfl, rfl, trivial⟩ (Sub.cons 0 rfl (Sub.cons 1 rfl (Sub.nil _))) ?_
    refine AW.freezeS 1 [(3, (.fz 1 (x8.map eI64)))] rfl ⟨fz_all rfl, trivial⟩ ?_
    refine AW.ret (ρ' := [(2, (.ptr n2 0)), (3, (.fz 1 (x8.map eI64)))]) (H' := [(n2, (.mem (e24 (S24.mk x4 x6 (0 : Int) (0 : Int)))))]) ⟨rfl, rfl, trivial⟩ (Sub.refl _) ?_
    have hr := Option.some.inj h
    subst hr
    exact ⟨[(e24 (S24.mk x4 x6 (0 : Int) (0 : Int))), (.fz 1 (x8.map eI64))], ⟨⟨_, 0, rfl, rfl, ag24, sz24⟩, rfl, rfl, trivial⟩, rfl⟩
end Go.Avl.T3
/- bosket/rex.Takes; printed by avmain.py. -/
namespace Go.Avl.T3
open Go Go.RowKit Go.Proofs Go.Avl
set_option linter.unusedVariables false
set_option maxRecDepth 100000
set_option maxHeartbeats 4000000
attribute [local irreducible] AW AO AQ Spec SpecH Calm

def rex_Takes_c0 (k : Nat) (b6 : Bool) : Option Int :=
  if b6 = true then some ((2 : Int))
  else some ((-1 : Int))
def rex_Takes_c1 (k : Nat) (p0 : Int) (b4 : Bool) : Option Int :=
  if b4 = true then some ((1 : Int))
  else if p0 = (2 : Int) then rex_Takes_c0 k (decide (p0 = (2 : Int)))
  else rex_Takes_c0 k (decide (p0 = (3 : Int)))
def rex_Takes_c2 (k : Nat) (p0 : Int) (b2 : Bool) : Option Int :=
  if b2 = true then some ((0 : Int))
  else if p0 = (4 : Int) then rex_Takes_c1 k p0 (decide (p0 = (4 : Int)))
  else if p0 = (5 : Int) then rex_Takes_c1 k p0 (decide (p0 = (5 : Int)))
  else rex_Takes_c1 k p0 (decide (p0 = (6 : Int)))
def rex_Takes (k : Nat) (p0 : Int) : Option Int :=
  if p0 = (0 : Int) then rex_Takes_c2 k p0 (decide (p0 = (0 : Int)))
  else rex_Takes_c2 k p0 (decide (p0 = (1 : Int)))
theorem rex_Takes_spec {k : Nat} {p0 : Int} {r : Int} (h : rex_Takes k p0 = some r) : Spec Try.prog 67 [(eI64 p0)] (eI64 r) := by
  rw [rex_Takes.eq_1] at h
  refine Spec.intro (res := [.tmp 2]) Try.func67 rfl rfl rfl (Nat.le_of_ble_eq_true rfl) ?_
  refine AW.seq ?_
  refine AW.reg ?_
  refine AO.calm rfl 2 rfl (by decide) (eI64 (0 : Int)) (Calm.assign rfl rfl) ?_
  refine AO.nil (ρ' := [(0, (eI64 p0))]) (H' := []) ⟨rfl, trivial⟩ (Sub.refl _) ?_
  refine AW.seq ?_
  refine AW.seq ?_
  refine AW.reg ?_
  refine AO.calm rfl 3 rfl (by decide) (eI64 p0) (Calm.move rfl rfl) ?_
  refine AO.nil (ρ' := [(3, (eI64 p0))]) (H' := []) ⟨rfl, trivial⟩ (Sub.refl _) ?_
  refine AW.block ?_
  refine AW.seq_mid (fun ρ H => ∃ (b2 : Bool), ρ = [(3, (eI64 p0)), (4, (eBool b2))] ∧ H = [] ∧ rex_Takes_c2 k p0 b2 = some r) ?_ ?_
  · refine AW.seq ?_
    refine AW.reg ?_
    refine AO.calm rfl 5 rfl (by decide) (eBool (decide (p0 = (0 : Int)))) (Calm.int rfl rfl rfl rfl) ?_
    refine AO.calm rfl 4 rfl (by decide) (eBool (decide (p0 = (0 : Int)))) (Calm.assign rfl rfl) ?_
    refine AO.nil (ρ' := [(3, (eI64 p0)), (4, (eBool (decide (p0 = (0 : Int)))))]) (H' := []) ⟨rfl, rfl, trivial⟩ (Sub.refl _) ?_
    by_cases hc11 : p0 = (0 : Int)
    · have h := (if_pos hc11).symm.trans h
      refine AW.condP (p0 = (0 : Int)) rfl hc11 ?_
      refine AW.skip (ρ' := [(3, (eI64 p0)), (4, (eBool (decide (p0 = (0 : Int)))))]) (H' := []) ⟨rfl, rfl, trivial⟩ (Sub.refl _) ?_
      exact ⟨decide (p0 = (0 : Int)), rfl, rfl, h⟩
    · have h := (if_neg hc11).symm.trans h
      refine AW.condN (p0 = (0 : Int)) rfl hc11 ?_
      refine AW.reg ?_
      refine AO.calm rfl 6 rfl (by decide) (eBool (decide (p0 = (1 : Int)))) (Calm.int rfl rfl rfl rfl) ?_
      refine AO.calm rfl 4 rfl (by decide) (eBool (decide (p0 = (1 : Int)))) (Calm.assign rfl rfl) ?_
      refine AO.nil (ρ' := [(3, (eI64 p0)), (4, (eBool (decide (p0 = (1 : Int)))))]) (H' := []) ⟨rfl, rfl, trivial⟩ (Sub.refl _) ?_
      exact ⟨decide (p0 = (1 : Int)), rfl, rfl, h⟩
  · rintro _ _ ⟨b2, rfl, rfl, h⟩
    rw [rex_Takes_c2.eq_1] at h
    by_cases hc3 : b2 = true
    · have h := (if_pos hc3).symm.trans h
      refine AW.condT' b2 rfl hc3 ?_
      refine AW.seq ?_
      refine AW.reg ?_
      refine AO.calm rfl 2 rfl (by decide) (eI64 (0 : Int)) (Calm.assign rfl rfl) ?_
      refine AO.nil (ρ' := [(2, (eI64 (0 : Int)))]) (H' := []) ⟨rfl, trivial⟩ (Sub.refl _) ?_
      refine AW.ret (ρ' := [(2, (eI64 (0 : Int)))]) (H' := []) ⟨rfl, trivial⟩ (Sub.refl _) ?_
      have hr := Option.some.inj h
      subst hr
      exact ⟨[(eI64 (0 : Int))], ⟨rfl, rfl, trivial⟩, rfl⟩
    · have h := (if_neg hc3).symm.trans h
      refine AW.condF' b2 rfl hc3 ?_
      refine AW.seq_mid (fun ρ H => ∃ (b4 : Bool), ρ = [(3, (eI64 p0)), (7, (eBool b4))] ∧ H = [] ∧ rex_Takes_c1 k p0 b4 = some r) ?_ ?_
      · refine AW.seq ?_
        refine AW.reg ?_
        refine AO.calm rfl 8 rfl (by decide) (eBool (decide (p0 = (4 : Int)))) (Calm.int rfl rfl rfl rfl) ?_
        refine AO.calm rfl 7 rfl (by decide) (eBool (decide (p0 = (4 : Int)))) (Calm.assign rfl rfl) ?_
        refine AO.nil (ρ' := [(3, (eI64 p0)), (7, (eBool (decide (p0 = (4 : Int)))))]) (H' := []) ⟨rfl, rfl, trivial⟩ (Sub.refl _) ?_
        by_cases hc9 : p0 = (4 : Int)
        · have h := (if_pos hc9).symm.trans h
          refine AW.condP (p0 = (4 : Int)) rfl hc9 ?_
          refine AW.skip (ρ' := [(3, (eI64 p0)), (7, (eBool (decide (p0 = (4 : Int)))))]) (H' := []) ⟨rfl, rfl, trivial⟩ (Sub.refl _) ?_
          exact ⟨decide (p0 = (4 : Int)), rfl, rfl, h⟩
        · have h := (if_neg hc9).symm.trans h
          refine AW.condN (p0 = (4 : Int)) rfl hc9 ?_
          refine AW.seq ?_
          refine AW.reg ?_
          refine AO.calm rfl 9 rfl (by decide) (eBool (decide (p0 = (5 : Int)))) (Calm.int rfl rfl rfl rfl) ?_
          refine AO.calm rfl 7 rfl (by decide) (eBool (decide (p0 = (5 : Int)))) (Calm.assign rfl rfl) ?_
          refine AO.nil (ρ' := [(3, (eI64 p0)), (7, (eBool (decide (p0 = (5 : Int)))))]) (H' := []) ⟨rfl, rfl, trivial⟩ (Sub.refl _) ?_
          by_cases hc10 : p0 = (5 : Int)
          · have h := (if_pos hc10).symm.trans h
            refine AW.condP (p0 = (5 : Int)) rfl hc10 ?_
            refine AW.skip (ρ' := [(3, (eI64 p0)), (7, (eBool (decide (p0 = (5 : Int)))))]) (H' := []) ⟨rfl, rfl, trivial⟩ (Sub.refl _) ?_
            exact ⟨decide (p0 = (5 : Int)), rfl, rfl, h⟩
          · have h := (if_neg hc10).symm.trans h
            refine AW.condN (p0 = (5 : Int)) rfl hc10 ?_
            refine AW.reg ?_
            refine AO.calm rfl 10 rfl (by decide) (eBool (decide (p0 = (6 : Int)))) (Calm.int rfl rfl rfl rfl) ?_
            refine AO.calm rfl 7 rfl (by decide) (eBool (decide (p0 = (6 : Int)))) (Calm.assign rfl rfl) ?_
            refine AO.nil (ρ' := [(3, (eI64 p0)), (7, (eBool (decide (p0 = (6 : Int)))))]) (H' := []) ⟨rfl, rfl, trivial⟩ (Sub.refl _) ?_
            exact ⟨decide (p0 = (6 : Int)), rfl, rfl, h⟩
      · rintro _ _ ⟨b4, rfl, rfl, h⟩
        rw [rex_Takes_c1.eq_1] at h
        by_cases hc5 : b4 = true
        · have h := (if_pos hc5).symm.trans h
          refine AW.condT' b4 rfl hc5 ?_
          refine AW.seq ?_
          refine AW.reg ?_
          refine AO.calm rfl 2 rfl (by decide) (eI64 (1 : Int)) (Calm.assign rfl rfl) ?_
          refine AO.nil (ρ' := [(2, (eI64 (1 : Int)))]) (H' := []) ⟨rfl, trivial⟩ (Sub.refl _) ?_
          refine AW.ret (ρ' := [(2, (eI64 (1 : Int)))]) (H' := []) ⟨rfl, trivial⟩ (Sub.refl _) ?_
          have hr := Option.some.inj h
          subst hr
          exact ⟨[(eI64 (1 : Int))], ⟨rfl, rfl, trivial⟩, rfl⟩
        · have h := (if_neg hc5).symm.trans h
          refine AW.condF' b4 rfl hc5 ?_
          refine AW.seq_mid (fun ρ H => ∃ (b6 : Bool), ρ = [(11, (eBool b6))] ∧ H = [] ∧ rex_Takes_c0 k b6 = some r) ?_ ?_
          · refine AW.seq ?_
            refine AW.reg ?_
            refine AO.calm rfl 12 rfl (by decide) (eBool (decide (p0 = (2 : Int)))) (Calm.int rfl rfl rfl rfl) ?_
            refine AO.calm rfl 11 rfl (by decide) (eBool (decide (p0 = (2 : Int)))) (Calm.assign rfl rfl) ?_
            refine AO.nil (ρ' := [(3, (eI64 p0)), (11, (eBool (decide (p0 = (2 : Int)))))]) (H' := []) ⟨rfl, rfl, trivial⟩ (Sub.refl _) ?_
            by_cases hc8 : p0 = (2 : Int)
            · have h := (if_pos hc8).symm.trans h
              refine AW.condP (p0 = (2 : Int)) rfl hc8 ?_
              refine AW.skip (ρ' := [(11, (eBool (decide (p0 = (2 : Int)))))]) (H' := []) ⟨rfl, trivial⟩ (Sub.refl _) ?_
              exact ⟨decide (p0 = (2 : Int)), rfl, rfl, h⟩
            · have h := (if_neg hc8).symm.trans h
              refine AW.condN (p0 = (2 : Int)) rfl hc8 ?_
              refine AW.reg ?_
              refine AO.calm rfl 13 rfl (by decide) (eBool (decide (p0 = (3 : Int)))) (Calm.int rfl rfl rfl rfl) ?_
              refine AO.calm rfl 11 rfl (by decide) (eBool (decide (p0 = (3 : Int)))) (Calm.assign rfl rfl) ?_
              refine AO.nil (ρ' := [(11, (eBool (decide (p0 = (3 : Int)))))]) (H' := []) ⟨rfl, trivial⟩ (Sub.refl _) ?_
              exact ⟨decide (p0 = (3 : Int)), rfl, rfl, h⟩
          · rintro _ _ ⟨b6, rfl, rfl, h⟩
            rw [rex_Takes_c0.eq_1] at h
            by_cases hc7 : b6 = true
            · have h := (if_pos hc7).symm.trans h
              refine AW.condT' b6 rfl hc7 ?_
              refine AW.seq ?_
              refine AW.reg ?_
              refine AO.calm rfl 2 rfl (by decide) (eI64 (2 : Int)) (Calm.assign rfl rfl) ?_
              refine AO.nil (ρ' := [(2, (eI64 (2 : Int)))]) (H' := []) ⟨rfl, trivial⟩ (Sub.refl _) ?_
              refine AW.ret (ρ' := [(2, (eI64 (2 : Int)))]) (H' := []) ⟨rfl, trivial⟩ (Sub.refl _) ?_
              have hr := Option.some.inj h
              subst hr
              exact ⟨[(eI64 (2 : Int))], ⟨rfl, rfl, trivial⟩, rfl⟩
            · have h := (if_neg hc7).symm.trans h
              refine AW.condF' b6 rfl hc7 ?_
              refine AW.skip (ρ' := []) (H' := []) trivial (Sub.refl _) ?_
              refine AW.seq ?_
              refine AW.reg ?_
              refine AO.calm rfl 2 rfl (by decide) (eI64 (-1 : Int)) (Calm.assign rfl rfl) ?_
              refine AO.nil (ρ' := [(2, (eI64 (-1 : Int)))]) (H' := []) ⟨rfl, trivial⟩ (Sub.refl _) ?_
              refine AW.ret (ρ' := [(2, (eI64 (-1 : Int)))]) (H' := []) ⟨rfl, trivial⟩ (Sub.refl _) ?_
              have hr := Option.some.inj h
              subst hr
              exact ⟨[(eI64 (-1 : Int))], ⟨rfl, rfl, trivial⟩, rfl⟩
end Go.Avl.T3
/- bosket/byteset.Empty; printed by avmain.py. -/
namespace Go.Avl.T3
open Go Go.RowKit Go.Proofs Go.Avl
set_option linter.unusedVariables false
set_option maxRecDepth 100000
set_option maxHeartbeats 4000000
attribute [local irreducible] AW AO AQ Spec SpecH Calm

def byteset_Empty (k : Nat) (p0 : (Vector Int 4)) : Option Bool :=
  some (decide (p0 = (Vector.replicate 4 (0 : Int))))
theorem byteset_Empty_spec {k : Nat} {p0 : (Vector Int 4)} {r : Bool} (h : byteset_Empty k p0 = some r) : Spec Try.prog 68 [(.ar 1 (p0.toList.map eU64))] (eBool r) := by
  rw [byteset_Empty.eq_1] at h
  refine Spec.intro (res := [.tmp 2]) Try.func68 rfl rfl rfl (Nat.le_of_ble_eq_true rfl) ?_
  refine AW.seq ?_
  refine AW.reg ?_
  refine AO.box rfl 1 rfl (by decide) rfl rfl rfl fun n2 => ?_
  refine AO.calm rfl 2 rfl (by decide) (eBool false) (Calm.assign rfl rfl) ?_
  refine AO.nil (ρ' := [(1, (.ptr n2 0))]) (H' := [(n2, (.mem (.ar 1 (p0.toList.map eU64))))]) ⟨rfl, trivial⟩ (Sub.refl _) ?_
  refine AW.seq ?_
  refine AW.reg ?_
  refine AO.calm rfl 3 rfl (by decide) (.ar 1 (p0.toList.map eU64)) (Calm.load 0 rfl rfl rfl (At.cast At.here rfl) ag33 (by rw [sz33]; simp [AV.size])) ?_
  refine AO.calm rfl 4 rfl (by decide) (.ar 1 ((Vector.replicate 4 (0 : Int)).toList.map eU64)) (Calm.buildAr (qs := []) rfl trivial Try.underlying33 sz31 zr33 lay33 .nil rfl) ?_
  refine AO.calm rfl 5 rfl (by decide) (eBool (decide (p0 = (Vector.replicate 4 (0 : Int))))) (Calm.eqA rfl rfl rfl eg33 (eqa33 p0 (Vector.replicate 4 (0 : Int))) (by decide)) ?_
  refine AO.calm rfl 2 rfl (by decide) (eBool (decide (p0 = (Vector.replicate 4 (0 : Int))))) (Calm.assign rfl rfl) ?_
  refine AO.nil (ρ' := [(2, (eBool (decide (p0 = (Vector.replicate 4 (0 : Int))))))]) (H' := []) ⟨rfl, trivial⟩ (Sub.nil _) ?_
  refine AW.ret (ρ' := [(2, (eBool (decide (p0 = (Vector.replicate 4 (0 : Int))))))]) (H' := []) ⟨rfl, trivial⟩ (Sub.refl _) ?_
  have hr := Option.some.inj h
  subst hr
  exact ⟨[(eBool (decide (p0 = (Vector.replicate 4 (0 : Int)))))], ⟨rfl, rfl, trivial⟩, rfl⟩
end Go.Avl.T3
/- bosket/rex.Check; printed by avmain.py. -/
namespace Go.Avl.T3
open Go Go.RowKit Go.Proofs Go.Avl
set_option linter.unusedVariables false
set_option maxRecDepth 100000
set_option maxHeartbeats 4000000
attribute [local irreducible] AW AO AQ Spec SpecH Calm

def rex_Check_c0 (k : Nat) (x3 : Int) : Option Int :=
  if x3 ≠ (1 : Int) then some ((5 : Int))
  else some ((0 : Int))
def rex_Check_l1 (k : Nat) (p0 : (List S82)) : Nat → Int → Int → Option Int
  | 0, _, _ => none
  | j + 1, x5, x6 =>
    if x6 < (p0.length : Int) then if 0 ≤ x6 ∧ x6 < (p0.length : Int) then (rex_Takes k ((lget p0 x6).f0)).bind fun t12 =>
    Option.bind (α := Bool) (if t12 < (0 : Int) then some (true)
    else if x5 < t12 then some (true)
    else (byteset_Empty k ((lget p0 x6).f1)).bind fun t17 =>
    some (((decide (((lget p0 x6).f0) = (1 : Int))) == t17))) fun b13 =>
    if b13 = true then some ((5 : Int))
    else (rex_Check_l1 k p0 j) (w64 (x5 + (w64 ((1 : Int) - t12)))) (w64 (x6 + (1 : Int)))
    else none
    else rex_Check_c0 k x5
def rex_Check (k : Nat) (p0 : (List S82)) : Option Int :=
  if (400 : Int) < (p0.length : Int) then some ((6 : Int))
  else rex_Check_l1 k p0 k (0 : Int) (0 : Int)
theorem rex_Check_spec {k : Nat} {p0 : (List S82)} {r : Int} (h : rex_Check k p0 = some r) : Spec Try.prog 57 [(.fz 5 (p0.map e82))] (eI64 r) := by
  rw [rex_Check.eq_1] at h
  refine Spec.intro (res := [.tmp 2]) Try.func57 rfl rfl rfl (Nat.le_of_ble_eq_true rfl) ?_
  refine AW.seq ?_
  refine AW.reg ?_
  refine AO.calm rfl 2 rfl (by decide) (eI64 (0 : Int)) (Calm.assign rfl rfl) ?_
  refine AO.nil (ρ' := [(0, (.fz 5 (p0.map e82)))]) (H' := []) ⟨rfl, trivial⟩ (Sub.refl _) ?_
  refine AW.seq ?_
  refine AW.seq ?_
  refine AW.reg ?_
  refine AO.calm rfl 7 rfl (by decide) (.fz 5 (p0.map e82)) (Calm.move rfl rfl) ?_
  refine AO.calm rfl 8 rfl (by decide) (eI64 (p0.length : Int)) (Calm.lenL rfl rfl Try.underlying58) ?_
  refine AO.calm rfl 9 rfl (by decide) (eBool (decide ((400 : Int) < (p0.length : Int)))) (Calm.int rfl rfl rfl rfl) ?_
  refine AO.nil (ρ' := [(0, (.fz 5 (p0.map e82))), (9, (eBool (decide ((400 : Int) < (p0.length : Int)))))]) (H' := []) ⟨rfl, rfl, trivial⟩ (Sub.refl _) ?_
  by_cases hc2 : (400 : Int) < (p0.length : Int)
  · have h := (if_pos hc2).symm.trans h
    refine AW.condP ((400 : Int) < (p0.length : Int)) rfl hc2 ?_
    refine AW.seq ?_
    refine AW.reg ?_
    refine AO.calm rfl 2 rfl (by decide) (eI64 (6 : Int)) (Calm.assign rfl rfl) ?_
    refine AO.nil (ρ' := [(2, (eI64 (6 : Int)))]) (H' := []) ⟨rfl, trivial⟩ (Sub.refl _) ?_
    refine AW.ret (ρ' := [(2, (eI64 (6 : Int)))]) (H' := []) ⟨rfl, trivial⟩ (Sub.refl _) ?_
    have hr := Option.some.inj h
    subst hr
    exact ⟨[(eI64 (6 : Int))], ⟨rfl, rfl, trivial⟩, rfl⟩
  · have h := (if_neg hc2).symm.trans h
    refine AW.condN ((400 : Int) < (p0.length : Int)) rfl hc2 ?_
    refine AW.skip (ρ' := [(0, (.fz 5 (p0.map e82)))]) (H' := []) ⟨rfl, trivial⟩ (Sub.refl _) ?_
    refine AW.seq ?_
    refine AW.reg ?_
    refine AO.calm rfl 3 rfl (by decide) (eI64 (0 : Int)) (Calm.assign rfl rfl) ?_
    refine AO.nil (ρ' := [(0, (.fz 5 (p0.map e82))), (3, (eI64 (0 : Int)))]) (H' := []) ⟨rfl, rfl, trivial⟩ (Sub.refl _) ?_
    refine AW.seq_mid (fun ρ H => ∃ (x3 : Int), ρ = [(3, (eI64 x3))] ∧ H = [] ∧ rex_Check_c0 k x3 = some r) ?_ ?_
    · refine AW.seq ?_
      refine AW.reg ?_
      refine AO.calm rfl 10 rfl (by decide) (.fz 5 (p0.map e82)) (Calm.move rfl rfl) ?_
      refine AO.calm rfl 11 rfl (by decide) (eI64 (p0.length : Int)) (Calm.lenL rfl rfl Try.underlying58) ?_
      refine AO.calm rfl 12 rfl (by decide) (eI64 (0 : Int)) (Calm.move rfl rfl) ?_
      refine AO.nil (ρ' := [(3, (eI64 (0 : Int))), (10, (.fz 5 (p0.map e82))), (11, (eI64 (p0.length : Int))), (12, (eI64 (0 : Int)))]) (H' := []) ⟨rfl, rfl, rfl, rfl, trivial⟩ (Sub.refl _) ?_
      refine AW.block ?_
      refine AW.weak (ρ' := [(3, (eI64 (0 : Int))), (10, (.fz 5 (p0.map e82))), (11, (eI64 (p0.length : Int))), (12, (eI64 (0 : Int)))]) (H' := []) ⟨rfl, rfl, rfl, rfl, trivial⟩ (Sub.refl _) ?_
      refine AW.loop (fun kq ρ H => ∃ (x5 : Int) (x6 : Int), ρ = [(3, (eI64 x5)), (10, (.fz 5 (p0.map e82))), (11, (eI64 (p0.length : Int))), (12, (eI64 x6))] ∧ H = [] ∧ rex_Check_l1 k p0 kq x5 x6 = some r) k ⟨(0 : Int), (0 : Int), rfl, rfl, h⟩ ?_
      rintro kq8 _ _ ⟨x5, x6, rfl, rfl, h⟩
      cases kq8 with
      | zero => rw [rex_Check_l1.eq_1] at h; cases h
      | succ kq8 =>
      rw [rex_Check_l1.eq_2] at h
      generalize hrec7 : rex_Check_l1 k p0 kq8 = rec7 at h
      refine AW.seq ?_
      refine AW.reg ?_
      refine AO.calm rfl 13 rfl (by decide) (eBool (decide (x6 < (p0.length : Int)))) (Calm.int rfl rfl rfl rfl) ?_
      refine AO.nil (ρ' := [(3, (eI64 x5)), (10, (.fz 5 (p0.map e82))), (11, (eI64 (p0.length : Int))), (12, (eI64 x6)), (13, (eBool (decide (x6 < (p0.length : Int)))))]) (H' := []) ⟨rfl, rfl, rfl, rfl, rfl, trivial⟩ (Sub.refl _) ?_
      refine AW.seq ?_
      by_cases hc9 : x6 < (p0.length : Int)
      · have h := (if_pos hc9).symm.trans h
        refine AW.condP (x6 < (p0.length : Int)) rfl hc9 ?_
        refine AW.skip (ρ' := [(3, (eI64 x5)), (10, (.fz 5 (p0.map e82))), (11, (eI64 (p0.length : Int))), (12, (eI64 x6))]) (H' := []) ⟨rfl, rfl, rfl, rfl, trivial⟩ (Sub.refl _) ?_
        refine AW.seq ?_
        refine AW.block ?_
        refine AW.seq ?_
        refine AW.reg ?_
        obtain ⟨hg10, h⟩ := of_guard h
        refine AO.calm rfl 14 rfl (by decide) (.rp (e82 (lget p0 x6))) (Calm.idxL (f := e82) rfl rfl rfl hg10 Try.underlying58 sz82) ?_
        refine AO.calm rfl 15 rfl (by decide) (e82 (lget p0 x6)) (Calm.loadRp rfl rfl ag82 sz82) ?_
        refine AO.alloc rfl 5 rfl (by decide) rfl zr82 lay82 fun n11 => ?_
        refine AO.store (X' := (e82 (lget p0 x6))) 0 rfl rfl rfl rfl rfl rfl (Put.cast Put.here rfl) rfl rfl sz82 rfl ?_
        refine AO.nil (ρ' := [(3, (eI64 x5)), (5, (.ptr n11 0)), (10, (.fz 5 (p0.map e82))), (11, (eI64 (p0.length : Int))), (12, (eI64 x6))]) (H' := [(n11, (.mem (e82 (lget p0 x6))))]) ⟨rfl, rfl, rfl, rfl, rfl, trivial⟩ (Sub.refl _) ?_
        refine AW.seq ?_
        refine AW.reg ?_
        refine AO.calm rfl 16 rfl (by decide) (.ptr n11 0) (Calm.fldPtr rfl rfl Try.underlying82 rfl sz3 _ rfl) ?_
        refine AO.calm rfl 17 rfl (by decide) (eI64 ((lget p0 x6).f0)) (Calm.load 0 rfl rfl rfl (At.cast (At.fld0 At.here) rfl) ag3 sz3) ?_
        obtain ⟨t12, et12, h⟩ := of_bind h
        refine AO.callS [(eI64 ((lget p0 x6).f0))] (eI64 t12) 18 rfl (by decide) ok67 rfl rfl rfl ⟨rfl, rfl, trivial⟩ (rex_Takes_spec et12) ?_
        refine AO.calm rfl 6 rfl (by decide) (eI64 t12) (Calm.assign rfl rfl) ?_
        refine AO.nil (ρ' := [(3, (eI64 x5)), (5, (.ptr n11 0)), (6, (eI64 t12)), (10, (.fz 5 (p0.map e82))), (11, (eI64 (p0.length : Int))), (12, (eI64 x6))]) (H' := [(n11, (.mem (e82 (lget p0 x6))))]) ⟨rfl, rfl, rfl, rfl, rfl, rfl, trivial⟩ (Sub.refl _) ?_
        refine AW.seq ?_
        refine AW.seq ?_
        obtain ⟨b13, hq14, h⟩ := of_bind h
        refine AW.regQM (by rfl) (by decide +kernel) [(3, (eI64 x5)), (6, (eI64 t12)), (10, (.fz 5 (p0.map e82))), (11, (eI64 (p0.length : Int))), (12, (eI64 x6)), (34, (eBool b13))] ?_ ?_
        · refine AQ.calm rfl 19 rfl (by decide) (eI64 t12) (Calm.move rfl rfl) ?_
          refine AQ.calm rfl 20 rfl (by decide) (eBool (decide (t12 < (0 : Int)))) (Calm.int rfl rfl rfl rfl) ?_
          refine AQ.calm rfl 21 rfl (by decide) (eBool (decide (t12 < (0 : Int)))) (Calm.move rfl rfl) ?_
          by_cases hc15 : t12 < (0 : Int)
          · have hq14 := (if_pos hc15).symm.trans hq14
            refine AQ.skipG 2 true 21 rfl rfl (congrArg (fun b => some (AV.fl (Value.bool b))) (decide_eq_true hc15)) 22 rfl (by decide) ?_
            refine AQ.skipG 2 true 21 rfl rfl (congrArg (fun b => some (AV.fl (Value.bool b))) (decide_eq_true hc15)) 23 rfl (by decide) ?_
            refine AQ.skipG 2 true 21 rfl rfl (congrArg (fun b => some (AV.fl (Value.bool b))) (decide_eq_true hc15)) 24 rfl (by decide) ?_
            refine AQ.calm rfl 25 rfl (by decide) (eBool true) (Calm.pickT rfl (congrArg (fun b => some (AV.fl (Value.bool b))) (decide_eq_true hc15)) rfl) ?_
            refine AQ.calm rfl 26 rfl (by decide) (eBool true) (Calm.move rfl rfl) ?_
            refine AQ.skipG 7 true 26 rfl rfl rfl 27 rfl (by decide) ?_
            refine AQ.skipG 7 true 26 rfl rfl rfl 28 rfl (by decide) ?_
            refine AQ.skipG 7 true 26 rfl rfl rfl 29 rfl (by decide) ?_
            refine AQ.skipG 7 true 26 rfl rfl rfl 30 rfl (by decide) ?_
            refine AQ.skipG 7 true 26 rfl rfl rfl 31 rfl (by decide) ?_
            refine AQ.skipG 7 true 26 rfl rfl rfl 32 rfl (by decide) ?_
            refine AQ.skipG 7 true 26 rfl rfl rfl 33 rfl (by decide) ?_
            refine AQ.calm rfl 34 rfl (by decide) (eBool true) (Calm.pickT rfl rfl rfl) ?_
            cases hq14
            refine AQ.nilE rfl ?_
            exact ⟨rfl, rfl, rfl, rfl, rfl, rfl, trivial⟩
          · have hq14 := (if_neg hc15).symm.trans hq14
            refine AQ.calmG 2 false 21 rfl rfl (congrArg (fun b => some (AV.fl (Value.bool b))) (decide_eq_false hc15)) 22 rfl (by decide) (eI64 t12) (Calm.move rfl rfl) ?_
            refine AQ.calmG 2 false 21 rfl rfl (congrArg (fun b => some (AV.fl (Value.bool b))) (decide_eq_false hc15)) 23 rfl (by decide) (eI64 x5) (Calm.move rfl rfl) ?_
            refine AQ.calmG 2 false 21 rfl rfl (congrArg (fun b => some (AV.fl (Value.bool b))) (decide_eq_false hc15)) 24 rfl (by decide) (eBool (decide (x5 < t12))) (Calm.int rfl rfl rfl rfl) ?_
            refine AQ.calm rfl 25 rfl (by decide) (eBool (decide (x5 < t12))) (Calm.pickF rfl (congrArg (fun b => some (AV.fl (Value.bool b))) (decide_eq_false hc15)) rfl) ?_
            refine AQ.calm rfl 26 rfl (by decide) (eBool (decide (x5 < t12))) (Calm.move rfl rfl) ?_
            by_cases hc16 : x5 < t12
            · have hq14 := (if_pos hc16).symm.trans hq14
              refine AQ.skipG 7 true 26 rfl rfl (congrArg (fun b => some (AV.fl (Value.bool b))) (decide_eq_true hc16)) 27 rfl (by decide) ?_
              refine AQ.skipG 7 true 26 rfl rfl (congrArg (fun b => some (AV.fl (Value.bool b))) (decide_eq_true hc16)) 28 rfl (by decide) ?_
              refine AQ.skipG 7 true 26 rfl rfl (congrArg (fun b => some (AV.fl (Value.bool b))) (decide_eq_true hc16)) 29 rfl (by decide) ?_
              refine AQ.skipG 7 true 26 rfl rfl (congrArg (fun b => some (AV.fl (Value.bool b))) (decide_eq_true hc16)) 30 rfl (by decide) ?_
              refine AQ.skipG 7 true 26 rfl rfl (congrArg (fun b => some (AV.fl (Value.bool b))) (decide_eq_true hc16)) 31 rfl (by decide) ?_
              refine AQ.skipG 7 true 26 rfl rfl (congrArg (fun b => some (AV.fl (Value.bool b))) (decide_eq_true hc16)) 32 rfl (by decide) ?_
              refine AQ.skipG 7 true 26 rfl rfl (congrArg (fun b => some (AV.fl (Value.bool b))) (decide_eq_true hc16)) 33 rfl (by decide) ?_
              refine AQ.calm rfl 34 rfl (by decide) (eBool true) (Calm.pickT rfl (congrArg (fun b => some (AV.fl (Value.bool b))) (decide_eq_true hc16)) rfl) ?_
              cases hq14
              refine AQ.nilE rfl ?_
              exact ⟨rfl, rfl, rfl, rfl, rfl, rfl, trivial⟩
            · have hq14 := (if_neg hc16).symm.trans hq14
              refine AQ.calmG 7 false 26 rfl rfl (congrArg (fun b => some (AV.fl (Value.bool b))) (decide_eq_false hc16)) 27 rfl (by decide) (.ptr n11 0) (Calm.fldPtr rfl rfl Try.underlying82 rfl sz3 _ rfl) ?_
              refine AQ.calmG 7 false 26 rfl rfl (congrArg (fun b => some (AV.fl (Value.bool b))) (decide_eq_false hc16)) 28 rfl (by decide) (eI64 ((lget p0 x6).f0)) (Calm.load 0 rfl rfl rfl (At.cast (At.fld0 At.here) rfl) ag3 sz3) ?_
              refine AQ.calmG 7 false 26 rfl rfl (congrArg (fun b => some (AV.fl (Value.bool b))) (decide_eq_false hc16)) 29 rfl (by decide) (eBool (decide (((lget p0 x6).f0) = (1 : Int)))) (Calm.int rfl rfl rfl rfl) ?_
              refine AQ.calmG 7 false 26 rfl rfl (congrArg (fun b => some (AV.fl (Value.bool b))) (decide_eq_false hc16)) 30 rfl (by decide) (.ptr n11 1) (Calm.fldPtr rfl rfl Try.underlying82 rfl sz33 _ rfl) ?_
              refine AQ.calmG 7 false 26 rfl rfl (congrArg (fun b => some (AV.fl (Value.bool b))) (decide_eq_false hc16)) 31 rfl (by decide) (.ar 1 (((lget p0 x6).f1).toList.map eU64)) (Calm.load 0 rfl rfl rfl (At.cast (At.fldS (At.fld0 At.here)) rfl) ag33 (by rw [sz33]; simp [AV.size])) ?_
              obtain ⟨t17, et17, hq14⟩ := of_bind hq14
              refine AQ.calmG 7 false 26 rfl rfl (congrArg (fun b => some (AV.fl (Value.bool b))) (decide_eq_false hc16)) 32 rfl (by decide) (eBool t17) (Calm.call (args := [(.ar 1 (((lget p0 x6).f1).toList.map eU64))]) rfl rfl ok68 ⟨rfl, rfl, trivial⟩ rfl (byteset_Empty_spec et17)) ?_
              refine AQ.calmG 7 false 26 rfl rfl (congrArg (fun b => some (AV.fl (Value.bool b))) (decide_eq_false hc16)) 33 rfl (by decide) (eBool ((decide (((lget p0 x6).f0) = (1 : Int))) == t17)) (Calm.boolEq rfl rfl rfl Try.underlying4) ?_
              refine AQ.calm rfl 34 rfl (by decide) (eBool ((decide (((lget p0 x6).f0) = (1 : Int))) == t17)) (Calm.pickF rfl (congrArg (fun b => some (AV.fl (Value.bool b))) (decide_eq_false hc16)) rfl) ?_
              cases hq14
              refine AQ.nilE rfl ?_
              exact ⟨rfl, rfl, rfl, rfl, rfl, rfl, trivial⟩
        · by_cases hc18 : b13 = true
          · have h := (if_pos hc18).symm.trans h
            refine AW.condT' b13 rfl hc18 ?_
            refine AW.seq ?_
            refine AW.reg ?_
            refine AO.calm rfl 2 rfl (by decide) (eI64 (5 : Int)) (Calm.assign rfl rfl) ?_
            refine AO.nil (ρ' := [(2, (eI64 (5 : Int)))]) (H' := []) ⟨rfl, trivial⟩ (Sub.nil _) ?_
            refine AW.ret (ρ' := [(2, (eI64 (5 : Int)))]) (H' := []) ⟨rfl, trivial⟩ (Sub.refl _) ?_
            have hr := Option.some.inj h
            subst hr
            exact ⟨[(eI64 (5 : Int))], ⟨rfl, rfl, trivial⟩, rfl⟩
          · have h := (if_neg hc18).symm.trans h
            refine AW.condF' b13 rfl hc18 ?_
            refine AW.skip (ρ' := [(3, (eI64 x5)), (6, (eI64 t12)), (10, (.fz 5 (p0.map e82))), (11, (eI64 (p0.length : Int))), (12, (eI64 x6))]) (H' := []) ⟨rfl, rfl, rfl, rfl, rfl, trivial⟩ (Sub.nil _) ?_
            refine AW.reg ?_
            refine AO.calm rfl 35 rfl (by decide) (eI64 x5) (Calm.move rfl rfl) ?_
            refine AO.calm rfl 36 rfl (by decide) (eI64 t12) (Calm.move rfl rfl) ?_
            refine AO.calm rfl 37 rfl (by decide) (eI64 (w64 ((1 : Int) - t12))) (Calm.int rfl rfl rfl rfl) ?_
            refine AO.calm rfl 38 rfl (by decide) (eI64 (w64 (x5 + (w64 ((1 : Int) - t12))))) (Calm.int rfl rfl rfl rfl) ?_
            refine AO.calm rfl 3 rfl (by decide) (eI64 (w64 (x5 + (w64 ((1 : Int) - t12))))) (Calm.assign rfl rfl) ?_
            refine AO.nil (ρ' := [(3, (eI64 (w64 (x5 + (w64 ((1 : Int) - t12)))))), (10, (.fz 5 (p0.map e82))), (11, (eI64 (p0.length : Int))), (12, (eI64 x6))]) (H' := []) ⟨rfl, rfl, rfl, rfl, trivial⟩ (Sub.refl _) ?_
            refine AW.reg ?_
            refine AO.calm rfl 39 rfl (by decide) (eI64 (w64 (x6 + (1 : Int)))) (Calm.int rfl rfl rfl rfl) ?_
            refine AO.calm rfl 12 rfl (by decide) (eI64 (w64 (x6 + (1 : Int)))) (Calm.move rfl rfl) ?_
            refine AO.nil (ρ' := [(3, (eI64 (w64 (x5 + (w64 ((1 : Int) - t12)))))), (10, (.fz 5 (p0.map e82))), (11, (eI64 (p0.length : Int))), (12, (eI64 (w64 (x6 + (1 : Int)))))]) (H' := []) ⟨rfl, rfl, rfl, rfl, trivial⟩ (Sub.refl _) ?_
            exact ⟨kq8, Nat.lt_succ_self _, (w64 (x5 + (w64 ((1 : Int) - t12)))), (w64 (x6 + (1 : Int))), rfl, rfl, by rw [hrec7]; exact h⟩
      · have h := (if_neg hc9).symm.trans h
        refine AW.condN (x6 < (p0.length : Int)) rfl hc9 ?_
        refine AW.exit (ρ' := [(3, (eI64 x5))]) (H' := []) ⟨rfl, trivial⟩ (Sub.refl _) ?_
        exact ⟨x5, rfl, rfl, h⟩
    · rintro _ _ ⟨x3, rfl, rfl, h⟩
      rw [rex_Check_c0.eq_1] at h
      refine AW.seq ?_
      refine AW.seq ?_
      refine AW.reg ?_
      refine AO.calm rfl 40 rfl (by decide) (eI64 x3) (Calm.move rfl rfl) ?_
      refine AO.calm rfl 41 rfl (by decide) (eBool (decide (x3 ≠ (1 : Int)))) (Calm.int rfl rfl rfl rfl) ?_
      refine AO.nil (ρ' := [(41, (eBool (decide (x3 ≠ (1 : Int)))))]) (H' := []) ⟨rfl, trivial⟩ (Sub.refl _) ?_
      by_cases hc4 : x3 ≠ (1 : Int)
      · have h := (if_pos hc4).symm.trans h
        refine AW.condP (x3 ≠ (1 : Int)) rfl hc4 ?_
        refine AW.seq ?_
        refine AW.reg ?_
        refine AO.calm rfl 2 rfl (by decide) (eI64 (5 : Int)) (Calm.assign rfl rfl) ?_
        refine AO.nil (ρ' := [(2, (eI64 (5 : Int)))]) (H' := []) ⟨rfl, trivial⟩ (Sub.refl _) ?_
        refine AW.ret (ρ' := [(2, (eI64 (5 : Int)))]) (H' := []) ⟨rfl, trivial⟩ (Sub.refl _) ?_
        have hr := Option.some.inj h
        subst hr
        exact ⟨[(eI64 (5 : Int))], ⟨rfl, rfl, trivial⟩, rfl⟩
      · have h := (if_neg hc4).symm.trans h
        refine AW.condN (x3 ≠ (1 : Int)) rfl hc4 ?_
        refine AW.skip (ρ' := []) (H' := []) trivial (Sub.refl _) ?_
        refine AW.seq ?_
        refine AW.reg ?_
        refine AO.calm rfl 2 rfl (by decide) (eI64 (0 : Int)) (Calm.assign rfl rfl) ?_
        refine AO.nil (ρ' := [(2, (eI64 (0 : Int)))]) (H' := []) ⟨rfl, trivial⟩ (Sub.refl _) ?_
        refine AW.ret (ρ' := [(2, (eI64 (0 : Int)))]) (H' := []) ⟨rfl, trivial⟩ (Sub.refl _) ?_
        have hr := Option.some.inj h
        subst hr
        exact ⟨[(eI64 (0 : Int))], ⟨rfl, rfl, trivial⟩, rfl⟩
end Go.Avl.T3
/- (*bosket/nfa.maker).state; printed by avmain.py. -/
namespace Go.Avl.T3
open Go Go.RowKit Go.Proofs Go.Avl
set_option linter.unusedVariables false
set_option maxRecDepth 100000
set_option maxHeartbeats 4000000
attribute [local irreducible] AW AO AQ Spec SpecH Calm

def nfa_maker_state (k : Nat) (p0 : S106) : Option (Int × S106) :=
  some ((w64 ((w64 (p0.f0.f0 + (1 : Int))) - (1 : Int))), (S106.mk (S24.mk (w64 (p0.f0.f0 + (1 : Int))) p0.f0.f1 p0.f0.f2 p0.f0.f3)))
theorem nfa_maker_state_spec {k : Nat} {p0 : S106} {r : (Int × S106)} (h : nfa_maker_state k p0 = some r) {q0 : Nat} {q0_0 : Nat} {T0 : Heap} : SpecH Try.prog 81 [(.ptr q0 0)] ((q0, (.mem (.st [(4, (.st [(1, (eI64 p0.f0.f0)), (1, (.own q0_0 0 p0.f0.f1.length)), (1, (eI64 p0.f0.f2)), (1, (eI64 p0.f0.f3))]))]))) :: (q0_0, (.mem (.ar 7 (p0.f0.f1.map e35)))) :: T0) (fun x H' => ∃ m0_0, x = (eI64 r.1) ∧ Sub ((q0, (.mem (.st [(4, (.st [(1, (eI64 r.2.f0.f0)), (1, (.own m0_0 0 r.2.f0.f1.length)), (1, (eI64 r.2.f0.f2)), (1, (eI64 r.2.f0.f3))]))]))) :: (m0_0, (.mem (.ar 7 (r.2.f0.f1.map e35)))) :: T0) H') := by
  rw [nfa_maker_state.eq_1] at h
  refine SpecH.intro (res := [.tmp 2]) Try.func81 rfl rfl rfl (Nat.le_of_ble_eq_true rfl) ?_
  refine AW.seq ?_
  refine AW.reg ?_
  refine AO.calm rfl 2 rfl (by decide) (eI64 (0 : Int)) (Calm.assign rfl rfl) ?_
  refine AO.nil (ρ' := [(0, (.ptr q0 0))]) (H' := ((q0, (.mem (.st [(4, (.st [(1, (eI64 p0.f0.f0)), (1, (.own q0_0 0 p0.f0.f1.length)), (1, (eI64 p0.f0.f2)), (1, (eI64 p0.f0.f3))]))]))) :: (q0_0, (.mem (.ar 7 (p0.f0.f1.map e35)))) :: T0)) ⟨rfl, trivial⟩ (Sub.refl _) ?_
  refine AW.seq ?_
  refine AW.reg ?_
  refine AO.calm rfl 3 rfl (by decide) (.ptr q0 0) (Calm.move rfl rfl) ?_
  refine AO.calm rfl 4 rfl (by decide) (.ptr q0 0) (Calm.nilCheck rfl rfl) ?_
  refine AO.calm rfl 5 rfl (by decide) (.ptr q0 0) (Calm.fldPtr rfl rfl Try.underlying106 rfl sz24 _ rfl) ?_
  refine AO.calm rfl 6 rfl (by decide) (.ptr q0 0) (Calm.fldPtr rfl rfl Try.underlying24 rfl sz3 _ rfl) ?_
  refine AO.calm rfl 7 rfl (by decide) (eI64 p0.f0.f0) (Calm.load 0 rfl rfl rfl (At.cast (At.fld0 (At.fld0 At.here)) rfl) ag3 sz3) ?_
  refine AO.calm rfl 8 rfl (by decide) (eI64 (w64 (p0.f0.f0 + (1 : Int)))) (Calm.int rfl rfl rfl rfl) ?_
  refine AO.calm rfl 9 rfl (by decide) (.ptr q0 0) (Calm.nilCheck rfl rfl) ?_
  refine AO.calm rfl 10 rfl (by decide) (.ptr q0 0) (Calm.fldPtr rfl rfl Try.underlying106 rfl sz24 _ rfl) ?_
  refine AO.calm rfl 11 rfl (by decide) (.ptr q0 0) (Calm.fldPtr rfl rfl Try.underlying24 rfl sz3 _ rfl) ?_
  refine AO.store (X' := (.st [(4, (.st [(1, (eI64 (w64 (p0.f0.f0 + (1 : Int))))), (1, (.own q0_0 0 p0.f0.f1.length)), (1, (eI64 p0.f0.f2)), (1, (eI64 p0.f0.f3))]))])) 0 rfl rfl rfl rfl rfl rfl (Put.cast (Put.fld0 (Put.fld0 Put.here)) rfl) rfl rfl sz3 rfl ?_
  refine AO.nil (ρ' := [(0, (.ptr q0 0))]) (H' := ((q0, (.mem (.st [(4, (.st [(1, (eI64 (w64 (p0.f0.f0 + (1 : Int))))), (1, (.own q0_0 0 p0.f0.f1.length)), (1, (eI64 p0.f0.f2)), (1, (eI64 p0.f0.f3))]))]))) :: (q0_0, (.mem (.ar 7 (p0.f0.f1.map e35)))) :: T0)) ⟨rfl, trivial⟩ (Sub.refl _) ?_
  refine AW.seq ?_
  refine AW.reg ?_
  refine AO.calm rfl 12 rfl (by decide) (.ptr q0 0) (Calm.move rfl rfl) ?_
  refine AO.calm rfl 13 rfl (by decide) (.ptr q0 0) (Calm.nilCheck rfl rfl) ?_
  refine AO.calm rfl 14 rfl (by decide) (.ptr q0 0) (Calm.fldPtr rfl rfl Try.underlying106 rfl sz24 _ rfl) ?_
  refine AO.calm rfl 15 rfl (by decide) (.ptr q0 0) (Calm.fldPtr rfl rfl Try.underlying24 rfl sz3 _ rfl) ?_
  refine AO.calm rfl 16 rfl (by decide) (eI64 (w64 (p0.f0.f0 + (1 : Int)))) (Calm.load 0 rfl rfl rfl (At.cast (At.fld0 (At.fld0 At.here)) rfl) ag3 sz3) ?_
  refine AO.calm rfl 17 rfl (by decide) (eI64 (w64 ((w64 (p0.f0.f0 + (1 : Int))) - (1 : Int)))) (Calm.int rfl rfl rfl rfl) ?_
  refine AO.calm rfl 2 rfl (by decide) (eI64 (w64 ((w64 (p0.f0.f0 + (1 : Int))) - (1 : Int)))) (Calm.assign rfl rfl) ?_
  refine AO.nil (ρ' := [(2, (eI64 (w64 ((w64 (p0.f0.f0 + (1 : Int))) - (1 : Int)))))]) (H' := ((q0, (.mem (.st [(4, (.st [(1, (eI64 (w64 (p0.f0.f0 + (1 : Int))))), (1, (.own q0_0 0 p0.f0.f1.length)), (1, (eI64 p0.f0.f2)), (1, (eI64 p0.f0.f3))]))]))) :: (q0_0, (.mem (.ar 7 (p0.f0.f1.map e35)))) :: T0)) ⟨rfl, trivial⟩ (Sub.refl _) ?_
  refine AW.ret (ρ' := [(2, (eI64 (w64 ((w64 (p0.f0.f0 + (1 : Int))) - (1 : Int)))))]) (H' := ((q0, (.mem (.st [(4, (.st [(1, (eI64 (w64 (p0.f0.f0 + (1 : Int))))), (1, (.own q0_0 0 p0.f0.f1.length)), (1, (eI64 p0.f0.f2)), (1, (eI64 p0.f0.f3))]))]))) :: (q0_0, (.mem (.ar 7 (p0.f0.f1.map e35)))) :: T0)) ⟨rfl, trivial⟩ (Sub.refl _) ?_
  have hr := Option.some.inj h
  subst hr
  exact ⟨[(eI64 (w64 ((w64 (p0.f0.f0 + (1 : Int))) - (1 : Int))))], ⟨rfl, rfl, trivial⟩, q0_0, rfl, (Sub.cons 0 rfl (Sub.cons 0 rfl (Sub.refl _)))⟩
end Go.Avl.T3
/- (*bosket/nfa.maker).fresh; printed by avmain.py. -/
namespace Go.Avl.T3
open Go Go.RowKit Go.Proofs Go.Avl
set_option linter.unusedVariables false
set_option maxRecDepth 100000
set_option maxHeartbeats 4000000
attribute [local irreducible] AW AO AQ Spec SpecH Calm

def nfa_maker_fresh (k : Nat) (p0 : S106) : Option (S110 × S106) :=
  (nfa_maker_state k (S106.mk (S24.mk p0.f0.f0 p0.f0.f1 p0.f0.f2 p0.f0.f3))).bind fun t3 =>
  (nfa_maker_state k (S106.mk (S24.mk t3.2.f0.f0 t3.2.f0.f1 t3.2.f0.f2 t3.2.f0.f3))).bind fun t6 =>
  some ((S110.mk t3.1 t6.1), (S106.mk (S24.mk t6.2.f0.f0 t6.2.f0.f1 t6.2.f0.f2 t6.2.f0.f3)))
theorem nfa_maker_fresh_spec {k : Nat} {p0 : S106} {r : (S110 × S106)} (h : nfa_maker_fresh k p0 = some r) {q0 : Nat} {q0_0 : Nat} {T0 : Heap} : SpecH Try.prog 77 [(.ptr q0 0)] ((q0, (.mem (.st [(4, (.st [(1, (eI64 p0.f0.f0)), (1, (.own q0_0 0 p0.f0.f1.length)), (1, (eI64 p0.f0.f2)), (1, (eI64 p0.f0.f3))]))]))) :: (q0_0, (.mem (.ar 7 (p0.f0.f1.map e35)))) :: T0) (fun x H' => ∃ m0_0, x = (e110 r.1) ∧ Sub ((q0, (.mem (.st [(4, (.st [(1, (eI64 r.2.f0.f0)), (1, (.own m0_0 0 r.2.f0.f1.length)), (1, (eI64 r.2.f0.f2)), (1, (eI64 r.2.f0.f3))]))]))) :: (m0_0, (.mem (.ar 7 (r.2.f0.f1.map e35)))) :: T0) H') := by
  rw [nfa_maker_fresh.eq_1] at h
  refine SpecH.intro (res := [.cell 2 110]) Try.func77 rfl rfl rfl (Nat.le_of_ble_eq_true rfl) ?_
  refine AW.seq ?_
  refine AW.reg ?_
  refine AO.alloc rfl 2 rfl (by decide) rfl zr110 lay110 fun n2 => ?_
  refine AO.nil (ρ' := [(0, (.ptr q0 0)), (2, (.ptr n2 0))]) (H' := ((q0, (.mem (.st [(4, (.st [(1, (eI64 p0.f0.f0)), (1, (.own q0_0 0 p0.f0.f1.length)), (1, (eI64 p0.f0.f2)), (1, (eI64 p0.f0.f3))]))]))) :: (q0_0, (.mem (.ar 7 (p0.f0.f1.map e35)))) :: (n2, (.mem (.st [(1, (eI64 (0 : Int))), (1, (eI64 (0 : Int)))]))) :: T0)) ⟨rfl, rfl, trivial⟩ (Sub.cons 1 rfl (Sub.cons 1 rfl (Sub.cons 0 rfl (Sub.refl _)))) ?_
  refine AW.seq ?_
  refine AW.reg ?_
  refine AO.calm rfl 4 rfl (by decide) (.ptr q0 0) (Calm.move rfl rfl) ?_
  obtain ⟨t3, et3, h⟩ := of_bind h
  refine AO.callH [(.ptr q0 0)] ((q0, (.mem (.st [(4, (.st [(1, (eI64 p0.f0.f0)), (1, (.own q0_0 0 p0.f0.f1.length)), (1, (eI64 p0.f0.f2)), (1, (eI64 p0.f0.f3))]))]))) :: (q0_0, (.mem (.ar 7 (p0.f0.f1.map e35)))) :: (n2, (.mem (.st [(1, (eI64 (0 : Int))), (1, (eI64 (0 : Int)))]))) :: T0) _ rfl rfl rfl 5 rfl (by decide) ok81 ⟨rfl, rfl, trivial⟩ (Sub.cons 0 rfl (Sub.cons 0 rfl (Sub.refl _))) (nfa_maker_state_spec et3) ?_
  rintro _ _ ⟨n5, rfl, hs4⟩
  refine AO.weak (ρ' := [(0, (.ptr q0 0)), (2, (.ptr n2 0)), (4, (.ptr q0 0)), (5, (eI64 t3.1))]) (H' := ((q0, (.mem (.st [(4, (.st [(1, (eI64 t3.2.f0.f0)), (1, (.own n5 0 t3.2.f0.f1.length)), (1, (eI64 t3.2.f0.f2)), (1, (eI64 t3.2.f0.f3))]))]))) :: (n5, (.mem (.ar 7 (t3.2.f0.f1.map e35)))) :: (n2, (.mem (.st [(1, (eI64 (0 : Int))), (1, (eI64 (0 : Int)))]))) :: T0)) ⟨rfl, rfl, rfl, rfl, trivial⟩ hs4 ?_
  refine AO.calm rfl 3 rfl (by decide) (eI64 t3.1) (Calm.assign rfl rfl) ?_
  refine AO.nil (ρ' := [(0, (.ptr q0 0)), (2, (.ptr n2 0)), (3, (eI64 t3.1))]) (H' := ((q0, (.mem (.st [(4, (.st [(1, (eI64 t3.2.f0.f0)), (1, (.own n5 0 t3.2.f0.f1.length)), (1, (eI64 t3.2.f0.f2)), (1, (eI64 t3.2.f0.f3))]))]))) :: (n5, (.mem (.ar 7 (t3.2.f0.f1.map e35)))) :: (n2, (.mem (.st [(1, (eI64 (0 : Int))), (1, (eI64 (0 : Int)))]))) :: T0)) ⟨rfl, rfl, rfl, trivial⟩ (Sub.refl _) ?_
  refine AW.seq ?_
  refine AW.reg ?_
  refine AO.calm rfl 6 rfl (by decide) (eI64 t3.1) (Calm.move rfl rfl) ?_
  refine AO.calm rfl 7 rfl (by decide) (.ptr q0 0) (Calm.move rfl rfl) ?_
  obtain ⟨t6, et6, h⟩ := of_bind h
  refine AO.callH [(.ptr q0 0)] ((q0, (.mem (.st [(4, (.st [(1, (eI64 t3.2.f0.f0)), (1, (.own n5 0 t3.2.f0.f1.length)), (1, (eI64 t3.2.f0.f2)), (1, (eI64 t3.2.f0.f3))]))]))) :: (n5, (.mem (.ar 7 (t3.2.f0.f1.map e35)))) :: (n2, (.mem (.st [(1, (eI64 (0 : Int))), (1, (eI64 (0 : Int)))]))) :: T0) _ rfl rfl rfl 8 rfl (by decide) ok81 ⟨rfl, rfl, trivial⟩ (Sub.cons 0 rfl (Sub.cons 0 rfl (Sub.refl _))) (nfa_maker_state_spec et6) ?_
  rintro _ _ ⟨n8, rfl, hs7⟩
  refine AO.weak (ρ' := [(0, (.ptr q0 0)), (2, (.ptr n2 0)), (3, (eI64 t3.1)), (6, (eI64 t3.1)), (7, (.ptr q0 0)), (8, (eI64 t6.1))]) (H' := ((q0, (.mem (.st [(4, (.st [(1, (eI64 t6.2.f0.f0)), (1, (.own n8 0 t6.2.f0.f1.length)), (1, (eI64 t6.2.f0.f2)), (1, (eI64 t6.2.f0.f3))]))]))) :: (n8, (.mem (.ar 7 (t6.2.f0.f1.map e35)))) :: (n2, (.mem (.st [(1, (eI64 (0 : Int))), (1, (eI64 (0 : Int)))]))) :: T0)) ⟨rfl, rfl, rfl, rfl, rfl, rfl, trivial⟩ hs7 ?_
  refine AO.calm rfl 9 rfl (by decide) (.st [(1, (eI64 t3.1)), (1, (eI64 t6.1))]) (Calm.build (qs := [(0, (eI64 t3.1)), (1, (eI64 t6.1))]) rfl ⟨rfl, rfl, rfl, rfl, rfl, rfl, trivial⟩ Try.underlying110 rfl zr110 lay110 (.cons rfl rfl rfl rfl (Put.cast (Put.fld0 Put.here) rfl) (.cons rfl rfl rfl rfl (Put.cast (Put.fldS (Put.fld0 Put.here)) rfl) .nil)) rfl) ?_
  refine AO.store (X' := (e110 (S110.mk t3.1 t6.1))) 2 rfl rfl rfl rfl rfl rfl (Put.cast Put.here rfl) rfl rfl sz110 rfl ?_
  refine AO.nil (ρ' := [(2, (.ptr n2 0))]) (H' := ((q0, (.mem (.st [(4, (.st [(1, (eI64 t6.2.f0.f0)), (1, (.own n8 0 t6.2.f0.f1.length)), (1, (eI64 t6.2.f0.f2)), (1, (eI64 t6.2.f0.f3))]))]))) :: (n8, (.mem (.ar 7 (t6.2.f0.f1.map e35)))) :: (n2, (.mem (e110 (S110.mk t3.1 t6.1)))) :: T0)) ⟨rfl, trivial⟩ (Sub.refl _) ?_
  refine AW.ret (ρ' := [(2, (.ptr n2 0))]) (H' := ((q0, (.mem (.st [(4, (.st [(1, (eI64 t6.2.f0.f0)), (1, (.own n8 0 t6.2.f0.f1.length)), (1, (eI64 t6.2.f0.f2)), (1, (eI64 t6.2.f0.f3))]))]))) :: (n8, (.mem (.ar 7 (t6.2.f0.f1.map e35)))) :: (n2, (.mem (e110 (S110.mk t3.1 t6.1)))) :: T0)) ⟨rfl, trivial⟩ (Sub.refl _) ?_
  have hr := Option.some.inj h
  subst hr
  exact ⟨[(e110 (S110.mk t3.1 t6.1))], ⟨⟨_, 2, rfl, rfl, ag110, sz110⟩, trivial⟩, n8, rfl, (Sub.cons 0 rfl (Sub.cons 0 rfl (Sub.drop (Sub.refl _))))⟩
end Go.Avl.T3
/- (*bosket/nfa.maker).free; printed by avmain.py. -/
namespace Go.Avl.T3
open Go Go.RowKit Go.Proofs Go.Avl
set_option linter.unusedVariables false
set_option maxRecDepth 100000
set_option maxHeartbeats 4000000
attribute [local irreducible] AW AO AQ Spec SpecH Calm

def nfa_maker_free (k : Nat) (p0 : S106) (p1 : Int) (p2 : Int) : Option S106 :=
  if (p0.f0.f1 ++ ([(S35.mk p1 p2 (Vector.replicate 4 (0 : Int)) true)] : List S35)).length * 56 ≤ 140737488355328 then some ((S106.mk (S24.mk p0.f0.f0 (p0.f0.f1 ++ ([(S35.mk p1 p2 (Vector.replicate 4 (0 : Int)) true)] : List S35)) p0.f0.f2 p0.f0.f3)))
  else none
theorem nfa_maker_free_spec {k : Nat} {p0 : S106} {p1 : Int} {p2 : Int} {r : S106} (h : nfa_maker_free k p0 p1 p2 = some r) {q0 : Nat} {q0_0 : Nat} {T0 : Heap} : SpecH Try.prog 78 [(.ptr q0 0), (eI64 p1), (eI64 p2)] ((q0, (.mem (.st [(4, (.st [(1, (eI64 p0.f0.f0)), (1, (.own q0_0 0 p0.f0.f1.length)), (1, (eI64 p0.f0.f2)), (1, (eI64 p0.f0.f3))]))]))) :: (q0_0, (.mem (.ar 7 (p0.f0.f1.map e35)))) :: T0) (fun x H' => ∃ m0_0, x = .tup [] ∧ Sub ((q0, (.mem (.st [(4, (.st [(1, (eI64 r.f0.f0)), (1, (.own m0_0 0 r.f0.f1.length)), (1, (eI64 r.f0.f2)), (1, (eI64 r.f0.f3))]))]))) :: (m0_0, (.mem (.ar 7 (r.f0.f1.map e35)))) :: T0) H') := by
  rw [nfa_maker_free.eq_1] at h
  refine SpecH.intro (res := []) Try.func78 rfl rfl rfl (Nat.le_of_ble_eq_true rfl) ?_
  refine AW.reg ?_
  refine AO.calm rfl 6 rfl (by decide) (.ptr q0 0) (Calm.move rfl rfl) ?_
  refine AO.calm rfl 7 rfl (by decide) (.ptr q0 0) (Calm.move rfl rfl) ?_
  refine AO.calm rfl 8 rfl (by decide) (.ptr q0 0) (Calm.nilCheck rfl rfl) ?_
  refine AO.calm rfl 9 rfl (by decide) (.ptr q0 0) (Calm.fldPtr rfl rfl Try.underlying106 rfl sz24 _ rfl) ?_
  refine AO.calm rfl 10 rfl (by decide) (.ptr q0 1) (Calm.fldPtr rfl rfl Try.underlying24 rfl sz22 _ rfl) ?_
  refine AO.calm rfl 11 rfl (by decide) (.own q0_0 0 p0.f0.f1.length) (Calm.load 0 rfl rfl rfl (At.cast (At.fld0 (At.fldS (At.fld0 At.here))) rfl) ag22 sz22) ?_
  refine AO.calm rfl 12 rfl (by decide) (eI64 p1) (Calm.move rfl rfl) ?_
  refine AO.calm rfl 13 rfl (by decide) (eI64 p2) (Calm.move rfl rfl) ?_
  refine AO.calm rfl 14 rfl (by decide) (.st [(1, (eI64 p1)), (1, (eI64 p2)), (4, (.ar 1 ((Vector.replicate 4 (0 : Int)).toList.map eU64))), (1, (eBool true))]) (Calm.build (qs := [(0, (eI64 p1)), (1, (eI64 p2)), (3, (eBool true))]) rfl ⟨rfl, rfl, rfl, rfl, rfl, rfl, rfl, rfl, rfl, trivial⟩ Try.underlying35 rfl zr35 lay35 (.cons rfl rfl rfl rfl (Put.cast (Put.fld0 Put.here) rfl) (.cons rfl rfl rfl rfl (Put.cast (Put.fldS (Put.fld0 Put.here)) rfl) (.cons rfl rfl rfl rfl (Put.cast (Put.fldS (Put.fldS (Put.fldS (Put.fld0 Put.here)))) rfl) .nil))) rfl) ?_
  refine AO.lit (Z := (.st [(1, (eI64 (0 : Int))), (1, (eI64 (0 : Int))), (4, (.ar 1 ((Vector.replicate 4 (0 : Int)).toList.map eU64))), (1, (eBool false))])) (xs := (([(S35.mk p1 p2 (Vector.replicate 4 (0 : Int)) true)] : List S35).map e35)) (qs := [(0, (e35 (S35.mk p1 p2 (Vector.replicate 4 (0 : Int)) true)))]) rfl 15 rfl (by decide) rfl ⟨rfl, rfl, rfl, trivial⟩ Try.underlying22 sz35 zr35 lay35 rfl (by decide) (litOK (z := 7) [(e35 (S35.mk p1 p2 (Vector.replicate 4 (0 : Int)) true))] rfl ⟨⟨rfl, rfl⟩, trivial⟩) rfl fun n4 => ?_
  obtain ⟨hg6, h⟩ := of_guard h
  refine AO.appendL (l := p0.f0.f1) (m := ([(S35.mk p1 p2 (Vector.replicate 4 (0 : Int)) true)] : List S35)) 2 16 rfl (by decide) rfl rfl rfl rfl rfl (Src.ownL (f := e35) (l := ([(S35.mk p1 p2 (Vector.replicate 4 (0 : Int)) true)] : List S35)) 0 rfl) Try.underlying22 Try.underlying22 sz35 by35 zr35 rfl hg6 (by decide) fun n5 => ?_
  refine AO.calm rfl 17 rfl (by decide) (.ptr q0 0) (Calm.nilCheck rfl rfl) ?_
  refine AO.calm rfl 18 rfl (by decide) (.ptr q0 0) (Calm.fldPtr rfl rfl Try.underlying106 rfl sz24 _ rfl) ?_
  refine AO.calm rfl 19 rfl (by decide) (.ptr q0 1) (Calm.fldPtr rfl rfl Try.underlying24 rfl sz22 _ rfl) ?_
  refine AO.store (X' := (.st [(4, (.st [(1, (eI64 p0.f0.f0)), (1, (.own n5 0 (p0.f0.f1 ++ ([(S35.mk p1 p2 (Vector.replicate 4 (0 : Int)) true)] : List S35)).length)), (1, (eI64 p0.f0.f2)), (1, (eI64 p0.f0.f3))]))])) 1 rfl rfl rfl rfl rfl rfl (Put.cast (Put.fld0 (Put.fldS (Put.fld0 Put.here))) rfl) rfl rfl sz22 rfl ?_
  refine AO.nil (ρ' := []) (H' := ((q0, (.mem (.st [(4, (.st [(1, (eI64 p0.f0.f0)), (1, (.own n5 0 (p0.f0.f1 ++ ([(S35.mk p1 p2 (Vector.replicate 4 (0 : Int)) true)] : List S35)).length)), (1, (eI64 p0.f0.f2)), (1, (eI64 p0.f0.f3))]))]))) :: (n5, (.mem (.ar 7 ((p0.f0.f1 ++ ([(S35.mk p1 p2 (Vector.replicate 4 (0 : Int)) true)] : List S35)).map e35)))) :: T0)) trivial (Sub.cons 1 rfl (Sub.cons 1 rfl (Sub.drop (Sub.refl _)))) ?_
  have hr := Option.some.inj h
  subst hr
  exact ⟨[], trivial, n5, rfl, (Sub.cons 0 rfl (Sub.cons 0 rfl (Sub.refl _)))⟩
end Go.Avl.T3
