/- Parts: T3f45, T3f9. -/
import Derived.Test.YtcdennkoccjacaaAF1
import Derived.Test.YtcdennkoccjacaaAF3
import Derived.Test.YtcdennkoccjacaaAF4
import Derived.Test.YtcdennkoccjacaaAF2
/- bosket/nfa.Of; printed by avmain.py. -/
namespace Go.Avl.T3
open Go Go.RowKit Go.Proofs Go.Avl
set_option linter.unusedVariables false
set_option maxRecDepth 100000
set_option maxHeartbeats 4000000
set_option linter.unusedSimpArgs false
attribute [local irreducible] AW AO AQ Spec SpecH Calm

def nfa_Of_c0 (k : Nat) (x6 : Int) (x8 : (List S35)) (x9 : Int) (x10 : Int) (x12 : (List S110)) : Option (S24 × Int) :=
  if 0 ≤ (0 : Int) ∧ (0 : Int) < (x12.length : Int) then if 0 ≤ (0 : Int) ∧ (0 : Int) < (x12.length : Int) then some ((S24.mk x6 x8 ((lget x12 (0 : Int)).f0) ((lget x12 (0 : Int)).f1)), (0 : Int))
  else none
  else none
def nfa_Of_l1 (k : Nat) (p0 : (List S82)) : Nat → Int → (List S35) → Int → Int → (List S110) → Int → Option (S24 × Int)
  | 0, _, _, _, _, _, _ => none
  | j + 1, x15, x17, x18, x19, x21, x22 =>
    if x22 < (p0.length : Int) then if 0 ≤ x22 ∧ x22 < (p0.length : Int) then (nfa_maker_add k (S106.mk (S24.mk x15 x17 x18 x19)) (lget p0 x22) x21).bind fun t28 =>
    (nfa_Of_l1 k p0 j) t28.2.f0.f0 t28.2.f0.f1 t28.2.f0.f2 t28.2.f0.f3 t28.1 (w64 (x22 + (1 : Int)))
    else none
    else nfa_Of_c0 k x15 x17 x18 x19 x21
def nfa_Of (k : Nat) (p0 : (List S82)) : Option (S24 × Int) :=
  (rex_Check k p0).bind fun t3 =>
  if t3 ≠ (0 : Int) then some ((S24.mk (0 : Int) ([] : List S35) (0 : Int) (0 : Int)), t3)
  else nfa_Of_l1 k p0 k (0 : Int) ([] : List S35) (0 : Int) (0 : Int) ([] : List S110) (0 : Int)
theorem nfa_Of_spec {k : Nat} {p0 : (List S82)} {r : (S24 × Int)} (h : nfa_Of k p0 = some r) : Spec Try.prog 45 [(.fz 5 (p0.map e82))] (.tup [(e24 r.1), (eI64 r.2)]) := by
  rw [nfa_Of.eq_1] at h
  refine Spec.intro (res := [.cell 2 24, .tmp 3]) Try.func45 rfl rfl rfl (Nat.le_of_ble_eq_true rfl) ?_
  refine AW.seq ?_
  refine AW.reg ?_
  refine AO.alloc rfl 2 rfl (by decide) rfl zr24 lay24 fun n2 => ?_
  refine AO.calm rfl 3 rfl (by decide) (eI64 (0 : Int)) (Calm.assign rfl rfl) ?_
  refine AO.nil (ρ' := [(0, (.fz 5 (p0.map e82))), (2, (.ptr n2 0))]) (H' := [(n2, (.mem (.st [(1, (eI64 (0 : Int))), (1, (.fl (.slice none 0 0))), (1, (eI64 (0 : Int))), (1, (eI64 (0 : Int)))])))]) ⟨rfl, rfl, trivial⟩ (Sub.refl _) ?_
  refine AW.seq ?_
  refine AW.seq ?_
  refine AW.reg ?_
  refine AO.calm rfl 9 rfl (by decide) (.fz 5 (p0.map e82)) (Calm.move rfl rfl) ?_
  obtain ⟨t3, et3, h⟩ := of_bind h
  refine AO.callS [(.fz 5 (p0.map e82))] (eI64 t3) 10 rfl (by decide) ok57 rfl rfl rfl ⟨rfl, rfl, trivial⟩ (rex_Check_spec et3) ?_
  refine AO.calm rfl 4 rfl (by decide) (eI64 t3) (Calm.assign rfl rfl) ?_
  refine AO.nil (ρ' := [(0, (.fz 5 (p0.map e82))), (2, (.ptr n2 0)), (4, (eI64 t3))]) (H' := [(n2, (.mem (.st [(1, (eI64 (0 : Int))), (1, (.fl (.slice none 0 0))), (1, (eI64 (0 : Int))), (1, (eI64 (0 : Int)))])))]) ⟨rfl, rfl, rfl, trivial⟩ (Sub.refl _) ?_
  refine AW.seq ?_
  refine AW.reg ?_
  refine AO.calm rfl 11 rfl (by decide) (eI64 t3) (Calm.move rfl rfl) ?_
  refine AO.calm rfl 12 rfl (by decide) (eBool (decide (t3 ≠ (0 : Int)))) (Calm.int rfl rfl rfl rfl) ?_
  refine AO.nil (ρ' := [(0, (.fz 5 (p0.map e82))), (2, (.ptr n2 0)), (4, (eI64 t3)), (12, (eBool (decide (t3 ≠ (0 : Int)))))]) (H' := [(n2, (.mem (.st [(1, (eI64 (0 : Int))), (1, (.fl (.slice none 0 0))), (1, (eI64 (0 : Int))), (1, (eI64 (0 : Int)))])))]) ⟨rfl, rfl, rfl, rfl, trivial⟩ (Sub.refl _) ?_
  by_cases hc4 : t3 ≠ (0 : Int)
  · have h := (if_pos hc4).symm.trans h
    refine AW.condP (t3 ≠ (0 : Int)) rfl hc4 ?_
    refine AW.seq ?_
    refine AW.reg ?_
    refine AO.calm rfl 13 rfl (by decide) (.st [(1, (eI64 (0 : Int))), (1, (.fl (.slice none 0 0))), (1, (eI64 (0 : Int))), (1, (eI64 (0 : Int)))]) (Calm.build (qs := []) rfl trivial Try.underlying24 rfl zr24 lay24 .nil rfl) ?_
    refine AO.calm rfl 14 rfl (by decide) (eI64 t3) (Calm.move rfl rfl) ?_
    refine AO.store (X' := (.st [(1, (eI64 (0 : Int))), (1, (.fl (.slice none 0 0))), (1, (eI64 (0 : Int))), (1, (eI64 (0 : Int)))])) 0 rfl rfl rfl rfl rfl rfl (Put.cast Put.here rfl) rfl rfl sz24 rfl ?_
    refine AO.calm rfl 3 rfl (by decide) (eI64 t3) (Calm.assign rfl rfl) ?_
    refine AO.nil (ρ' := [(2, (.ptr n2 0)), (3, (eI64 t3))]) (H' := [(n2, (.mem (.st [(1, (eI64 (0 : Int))), (1, (.fl (.slice none 0 0))), (1, (eI64 (0 : Int))), (1, (eI64 (0 : Int)))])))]) ⟨rfl, rfl, trivial⟩ (Sub.refl _) ?_
    refine AW.coeFld (X' := (.st [(1, (eI64 (0 : Int))), (1, (.fz 7 (([] : List S35).map e35))), (1, (eI64 (0 : Int))), (1, (eI64 (0 : Int)))])) 0 rfl (Put.cast (Put.fldS (Put.fld0 Put.here)) rfl) rfl (nil_fz 7) rfl rfl ?_
    refine AW.ret (ρ' := [(2, (.ptr n2 0)), (3, (eI64 t3))]) (H' := [(n2, (.mem (.st [(1, (eI64 (0 : Int))), (1, (.fz 7 (([] : List S35).map e35))), (1, (eI64 (0 : Int))), (1, (eI64 (0 : Int)))])))]) ⟨rfl, rfl, trivial⟩ (Sub.refl _) ?_
    have hr := Option.some.inj h
    subst hr
    exact ⟨[(e24 (S24.mk (0 : Int) ([] : List S35) (0 : Int) (0 : Int))), (eI64 t3)], ⟨⟨_, 0, rfl, rfl, ag24, sz24⟩, rfl, rfl, trivial⟩, rfl⟩
  · have h := (if_neg hc4).symm.trans h
    refine AW.condN (t3 ≠ (0 : Int)) rfl hc4 ?_
    refine AW.skip (ρ' := [(0, (.fz 5 (p0.map e82))), (2, (.ptr n2 0))]) (H' := [(n2, (.mem (.st [(1, (eI64 (0 : Int))), (1, (.fl (.slice none 0 0))), (1, (eI64 (0 : Int))), (1, (eI64 (0 : Int)))])))]) ⟨rfl, rfl, trivial⟩ (Sub.refl _) ?_
    refine AW.seq ?_
    refine AW.reg ?_
    refine AO.calm rfl 15 rfl (by decide) (.st [(4, (.st [(1, (eI64 (0 : Int))), (1, (.fl (.slice none 0 0))), (1, (eI64 (0 : Int))), (1, (eI64 (0 : Int)))]))]) (Calm.build (qs := []) rfl trivial Try.underlying106 rfl zr106 lay106 .nil rfl) ?_
    refine AO.box rfl 16 rfl (by decide) rfl rfl rfl fun n5 => ?_
    refine AO.calm rfl 5 rfl (by decide) (.ptr n5 0) (Calm.assign rfl rfl) ?_
    refine AO.nil (ρ' := [(0, (.fz 5 (p0.map e82))), (2, (.ptr n2 0)), (5, (.ptr n5 0))]) (H' := [(n2, (.mem (.st [(1, (eI64 (0 : Int))), (1, (.fl (.slice none 0 0))), (1, (eI64 (0 : Int))), (1, (eI64 (0 : Int)))]))), (n5, (.mem (.st [(4, (.st [(1, (eI64 (0 : Int))), (1, (.fl (.slice none 0 0))), (1, (eI64 (0 : Int))), (1, (eI64 (0 : Int)))]))])))]) ⟨rfl, rfl, rfl, trivial⟩ (Sub.cons 1 rfl (Sub.cons 0 rfl (Sub.nil _))) ?_
    refine AW.seq ?_
    refine AW.reg ?_
    refine AO.calm rfl 6 rfl (by decide) (.fl (.slice none 0 0)) (Calm.assign rfl rfl) ?_
    refine AO.nil (ρ' := [(0, (.fz 5 (p0.map e82))), (2, (.ptr n2 0)), (5, (.ptr n5 0)), (6, (.fl (.slice none 0 0)))]) (H' := [(n2, (.mem (.st [(1, (eI64 (0 : Int))), (1, (.fl (.slice none 0 0))), (1, (eI64 (0 : Int))), (1, (eI64 (0 : Int)))]))), (n5, (.mem (.st [(4, (.st [(1, (eI64 (0 : Int))), (1, (.fl (.slice none 0 0))), (1, (eI64 (0 : Int))), (1, (eI64 (0 : Int)))]))])))]) ⟨rfl, rfl, rfl, rfl, trivial⟩ (Sub.refl _) ?_
    refine AW.seq_mid (fun ρ H => ∃ (n7 : Nat) (n11 : Nat) (x6 : Int) (x8 : (List S35)) (x9 : Int) (x10 : Int) (x12 : (List S110)), ρ = [(2, (.ptr n2 0)), (5, (.ptr n5 0)), (6, (.own n11 0 x12.length))] ∧ H = [(n2, (.mem (.st [(1, (eI64 (0 : Int))), (1, (.fl (.slice none 0 0))), (1, (eI64 (0 : Int))), (1, (eI64 (0 : Int)))]))), (n5, (.mem (.st [(4, (.st [(1, (eI64 x6)), (1, (.own n7 0 x8.length)), (1, (eI64 x9)), (1, (eI64 x10))]))]))), (n7, (.mem (.ar 7 (x8.map e35)))), (n11, (.mem (.ar 2 (x12.map e110))))] ∧ nfa_Of_c0 k x6 x8 x9 x10 x12 = some r) ?_ ?_
    · refine AW.seq ?_
      refine AW.reg ?_
      refine AO.calm rfl 17 rfl (by decide) (.fz 5 (p0.map e82)) (Calm.move rfl rfl) ?_
      refine AO.calm rfl 18 rfl (by decide) (eI64 (p0.length : Int)) (Calm.lenL rfl rfl Try.underlying58) ?_
      refine AO.calm rfl 19 rfl (by decide) (eI64 (0 : Int)) (Calm.move rfl rfl) ?_
      refine AO.nil (ρ' := [(2, (.ptr n2 0)), (5, (.ptr n5 0)), (6, (.fl (.slice none 0 0))), (17, (.fz 5 (p0.map e82))), (18, (eI64 (p0.length : Int))), (19, (eI64 (0 : Int)))]) (H' := [(n2, (.mem (.st [(1, (eI64 (0 : Int))), (1, (.fl (.slice none 0 0))), (1, (eI64 (0 : Int))), (1, (eI64 (0 : Int)))]))), (n5, (.mem (.st [(4, (.st [(1, (eI64 (0 : Int))), (1, (.fl (.slice none 0 0))), (1, (eI64 (0 : Int))), (1, (eI64 (0 : Int)))]))])))]) ⟨rfl, rfl, rfl, rfl, rfl, rfl, trivial⟩ (Sub.refl _) ?_
      refine AW.block ?_
      refine AW.nilOwn 6 2 rfl fun n32 => ?_
      refine AW.nilOwnFld 2 7 (fun n33 => (.st [(4, (.st [(1, (eI64 (0 : Int))), (1, (.own n33 0 0)), (1, (eI64 (0 : Int))), (1, (eI64 (0 : Int)))]))])) rfl (fun _ => (Put.cast (Put.fld0 (Put.fldS (Put.fld0 Put.here))) rfl)) (fun _ => rfl) (fun _ => rfl) fun n33 => ?_
      refine AW.weak (ρ' := [(2, (.ptr n2 0)), (5, (.ptr n5 0)), (6, (.own n32 0 ([] : List S110).length)), (17, (.fz 5 (p0.map e82))), (18, (eI64 (p0.length : Int))), (19, (eI64 (0 : Int)))]) (H' := [(n2, (.mem (.st [(1, (eI64 (0 : Int))), (1, (.fl (.slice none 0 0))), (1, (eI64 (0 : Int))), (1, (eI64 (0 : Int)))]))), (n5, (.mem (.st [(4, (.st [(1, (eI64 (0 : Int))), (1, (.own n33 0 ([] : List S35).length)), (1, (eI64 (0 : Int))), (1, (eI64 (0 : Int)))]))]))), (n33, (.mem (.ar 7 (([] : List S35).map e35)))), (n32, (.mem (.ar 2 (([] : List S110).map e110))))]) ⟨rfl, rfl, rfl, rfl, rfl, rfl, trivial⟩ (Sub.cons 2 rfl (Sub.cons 2 rfl (Sub.cons 0 rfl (Sub.cons 0 rfl (Sub.nil _))))) ?_
      refine AW.loop (fun kq ρ H => ∃ (n16 : Nat) (n20 : Nat) (x15 : Int) (x17 : (List S35)) (x18 : Int) (x19 : Int) (x21 : (List S110)) (x22 : Int), ρ = [(2, (.ptr n2 0)), (5, (.ptr n5 0)), (6, (.own n20 0 x21.length)), (17, (.fz 5 (p0.map e82))), (18, (eI64 (p0.length : Int))), (19, (eI64 x22))] ∧ H = [(n2, (.mem (.st [(1, (eI64 (0 : Int))), (1, (.fl (.slice none 0 0))), (1, (eI64 (0 : Int))), (1, (eI64 (0 : Int)))]))), (n5, (.mem (.st [(4, (.st [(1, (eI64 x15)), (1, (.own n16 0 x17.length)), (1, (eI64 x18)), (1, (eI64 x19))]))]))), (n16, (.mem (.ar 7 (x17.map e35)))), (n20, (.mem (.ar 2 (x21.map e110))))] ∧ nfa_Of_l1 k p0 kq x15 x17 x18 x19 x21 x22 = some r) k ⟨n33, n32, (0 : Int), ([] : List S35), (0 : Int), (0 : Int), ([] : List S110), (0 : Int), rfl, rfl, h⟩ ?_
      rintro kq24 _ _ ⟨n16, n20, x15, x17, x18, x19, x21, x22, rfl, rfl, h⟩
      cases kq24 with
      | zero => rw [nfa_Of_l1.eq_1] at h; cases h
      | succ kq24 =>
      rw [nfa_Of_l1.eq_2] at h
      generalize hrec23 : nfa_Of_l1 k p0 kq24 = rec23 at h
      refine AW.seq ?_
      refine AW.reg ?_
      refine AO.calm rfl 20 rfl (by decide) (eBool (decide (x22 < (p0.length : Int)))) (Calm.int rfl rfl rfl rfl) ?_
      refine AO.nil (ρ' := [(2, (.ptr n2 0)), (5, (.ptr n5 0)), (6, (.own n20 0 x21.length)), (17, (.fz 5 (p0.map e82))), (18, (eI64 (p0.length : Int))), (19, (eI64 x22)), (20, (eBool (decide (x22 < (p0.length : Int)))))]) (H' := [(n2, (.mem (.st [(1, (eI64 (0 : Int))), (1, (.fl (.slice none 0 0))), (1, (eI64 (0 : Int))), (1, (eI64 (0 : Int)))]))), (n5, (.mem (.st [(4, (.st [(1, (eI64 x15)), (1, (.own n16 0 x17.length)), (1, (eI64 x18)), (1, (eI64 x19))]))]))), (n16, (.mem (.ar 7 (x17.map e35)))), (n20, (.mem (.ar 2 (x21.map e110))))]) ⟨rfl, rfl, rfl, rfl, rfl, rfl, rfl, trivial⟩ (Sub.refl _) ?_
      refine AW.seq ?_
      by_cases hc25 : x22 < (p0.length : Int)
      · have h := (if_pos hc25).symm.trans h
        refine AW.condP (x22 < (p0.length : Int)) rfl hc25 ?_
        refine AW.skip (ρ' := [(2, (.ptr n2 0)), (5, (.ptr n5 0)), (6, (.own n20 0 x21.length)), (17, (.fz 5 (p0.map e82))), (18, (eI64 (p0.length : Int))), (19, (eI64 x22))]) (H' := [(n2, (.mem (.st [(1, (eI64 (0 : Int))), (1, (.fl (.slice none 0 0))), (1, (eI64 (0 : Int))), (1, (eI64 (0 : Int)))]))), (n5, (.mem (.st [(4, (.st [(1, (eI64 x15)), (1, (.own n16 0 x17.length)), (1, (eI64 x18)), (1, (eI64 x19))]))]))), (n16, (.mem (.ar 7 (x17.map e35)))), (n20, (.mem (.ar 2 (x21.map e110))))]) ⟨rfl, rfl, rfl, rfl, rfl, rfl, trivial⟩ (Sub.refl _) ?_
        refine AW.seq ?_
        refine AW.block ?_
        refine AW.seq ?_
        refine AW.reg ?_
        obtain ⟨hg26, h⟩ := of_guard h
        refine AO.calm rfl 21 rfl (by decide) (.rp (e82 (lget p0 x22))) (Calm.idxL (f := e82) rfl rfl rfl hg26 Try.underlying58 sz82) ?_
        refine AO.calm rfl 22 rfl (by decide) (e82 (lget p0 x22)) (Calm.loadRp rfl rfl ag82 sz82) ?_
        refine AO.alloc rfl 8 rfl (by decide) rfl zr82 lay82 fun n27 => ?_
        refine AO.store (X' := (e82 (lget p0 x22))) 0 rfl rfl rfl rfl rfl rfl (Put.cast Put.here rfl) rfl rfl sz82 rfl ?_
        refine AO.nil (ρ' := [(2, (.ptr n2 0)), (5, (.ptr n5 0)), (6, (.own n20 0 x21.length)), (8, (.ptr n27 0)), (17, (.fz 5 (p0.map e82))), (18, (eI64 (p0.length : Int))), (19, (eI64 x22))]) (H' := [(n2, (.mem (.st [(1, (eI64 (0 : Int))), (1, (.fl (.slice none 0 0))), (1, (eI64 (0 : Int))), (1, (eI64 (0 : Int)))]))), (n5, (.mem (.st [(4, (.st [(1, (eI64 x15)), (1, (.own n16 0 x17.length)), (1, (eI64 x18)), (1, (eI64 x19))]))]))), (n16, (.mem (.ar 7 (x17.map e35)))), (n20, (.mem (.ar 2 (x21.map e110)))), (n27, (.mem (e82 (lget p0 x22))))]) ⟨rfl, rfl, rfl, rfl, rfl, rfl, rfl, trivial⟩ (Sub.cons 1 rfl (Sub.cons 1 rfl (Sub.cons 1 rfl (Sub.cons 1 rfl (Sub.cons 0 rfl (Sub.nil _)))))) ?_
        refine AW.reg ?_
        refine AO.calm rfl 23 rfl (by decide) (.ptr n5 0) (Calm.move rfl rfl) ?_
        refine AO.calm rfl 24 rfl (by decide) (e82 (lget p0 x22)) (Calm.load 4 rfl rfl rfl (At.cast At.here rfl) ag82 sz82) ?_
        refine AO.calm rfl 25 rfl (by decide) (.own n20 0 x21.length) (Calm.move rfl rfl) ?_
        obtain ⟨t28, et28, h⟩ := of_bind h
        refine AO.callH [(.ptr n5 0), (e82 (lget p0 x22)), (.own n20 0 x21.length)] [(n5, (.mem (.st [(4, (.st [(1, (eI64 x15)), (1, (.own n16 0 x17.length)), (1, (eI64 x18)), (1, (eI64 x19))]))]))), (n16, (.mem (.ar 7 (x17.map e35)))), (n20, (.mem (.ar 2 (x21.map e110)))), (n2, (.mem (.st [(1, (eI64 (0 : Int))), (1, (.fl (.slice none 0 0))), (1, (eI64 (0 : Int))), (1, (eI64 (0 : Int)))]))), (n27, (.mem (e82 (lget p0 x22))))] _ rfl rfl rfl 26 rfl (by decide) ok65 ⟨rfl, rfl, rfl, rfl, rfl, rfl, trivial⟩ (Sub.cons 1 rfl (Sub.cons 1 rfl (Sub.cons 1 rfl (Sub.refl _)))) (nfa_maker_add_spec et28) ?_
        rintro _ _ ⟨n30, n31, rfl, hs29⟩
        refine AO.weak (ρ' := [(2, (.ptr n2 0)), (5, (.ptr n5 0)), (8, (.ptr n27 0)), (17, (.fz 5 (p0.map e82))), (18, (eI64 (p0.length : Int))), (19, (eI64 x22)), (23, (.ptr n5 0)), (24, (e82 (lget p0 x22))), (26, (.own n30 0 t28.1.length))]) (H' := [(n30, (.mem (.ar 2 (t28.1.map e110)))), (n5, (.mem (.st [(4, (.st [(1, (eI64 t28.2.f0.f0)), (1, (.own n31 0 t28.2.f0.f1.length)), (1, (eI64 t28.2.f0.f2)), (1, (eI64 t28.2.f0.f3))]))]))), (n31, (.mem (.ar 7 (t28.2.f0.f1.map e35)))), (n2, (.mem (.st [(1, (eI64 (0 : Int))), (1, (.fl (.slice none 0 0))), (1, (eI64 (0 : Int))), (1, (eI64 (0 : Int)))]))), (n27, (.mem (e82 (lget p0 x22))))]) ⟨rfl, rfl, rfl, rfl, rfl, rfl, rfl, rfl, rfl, trivial⟩ hs29 ?_
        refine AO.calm rfl 6 rfl (by decide) (.own n30 0 t28.1.length) (Calm.assign rfl rfl) ?_
        refine AO.nil (ρ' := [(2, (.ptr n2 0)), (5, (.ptr n5 0)), (6, (.own n30 0 t28.1.length)), (17, (.fz 5 (p0.map e82))), (18, (eI64 (p0.length : Int))), (19, (eI64 x22))]) (H' := [(n2, (.mem (.st [(1, (eI64 (0 : Int))), (1, (.fl (.slice none 0 0))), (1, (eI64 (0 : Int))), (1, (eI64 (0 : Int)))]))), (n5, (.mem (.st [(4, (.st [(1, (eI64 t28.2.f0.f0)), (1, (.own n31 0 t28.2.f0.f1.length)), (1, (eI64 t28.2.f0.f2)), (1, (eI64 t28.2.f0.f3))]))]))), (n31, (.mem (.ar 7 (t28.2.f0.f1.map e35)))), (n30, (.mem (.ar 2 (t28.1.map e110))))]) ⟨rfl, rfl, rfl, rfl, rfl, rfl, trivial⟩ (Sub.cons 3 rfl (Sub.cons 1 rfl (Sub.cons 1 rfl (Sub.cons 0 rfl (Sub.nil _))))) ?_
        refine AW.reg ?_
        refine AO.calm rfl 27 rfl (by decide) (eI64 (w64 (x22 + (1 : Int)))) (Calm.int rfl rfl rfl rfl) ?_
        refine AO.calm rfl 19 rfl (by decide) (eI64 (w64 (x22 + (1 : Int)))) (Calm.move rfl rfl) ?_
        refine AO.nil (ρ' := [(2, (.ptr n2 0)), (5, (.ptr n5 0)), (6, (.own n30 0 t28.1.length)), (17, (.fz 5 (p0.map e82))), (18, (eI64 (p0.length : Int))), (19, (eI64 (w64 (x22 + (1 : Int)))))]) (H' := [(n2, (.mem (.st [(1, (eI64 (0 : Int))), (1, (.fl (.slice none 0 0))), (1, (eI64 (0 : Int))), (1, (eI64 (0 : Int)))]))), (n5, (.mem (.st [(4, (.st [(1, (eI64 t28.2.f0.f0)), (1, (.own n31 0 t28.2.f0.f1.length)), (1, (eI64 t28.2.f0.f2)), (1, (eI64 t28.2.f0.f3))]))]))), (n31, (.mem (.ar 7 (t28.2.f0.f1.map e35)))), (n30, (.mem (.ar 2 (t28.1.map e110))))]) ⟨rfl, rfl, rfl, rfl, rfl, rfl, trivial⟩ (Sub.refl _) ?_
        exact ⟨kq24, Nat.lt_succ_self _, n31, n30, t28.2.f0.f0, t28.2.f0.f1, t28.2.f0.f2, t28.2.f0.f3, t28.1, (w64 (x22 + (1 : Int))), rfl, rfl, by rw [hrec23]; exact h⟩
      · have h := (if_neg hc25).symm.trans h
        refine AW.condN (x22 < (p0.length : Int)) rfl hc25 ?_
        refine AW.exit (ρ' := [(2, (.ptr n2 0)), (5, (.ptr n5 0)), (6, (.own n20 0 x21.length))]) (H' := [(n2, (.mem (.st [(1, (eI64 (0 : Int))), (1, (.fl (.slice none 0 0))), (1, (eI64 (0 : Int))), (1, (eI64 (0 : Int)))]))), (n5, (.mem (.st [(4, (.st [(1, (eI64 x15)), (1, (.own n16 0 x17.length)), (1, (eI64 x18)), (1, (eI64 x19))]))]))), (n16, (.mem (.ar 7 (x17.map e35)))), (n20, (.mem (.ar 2 (x21.map e110))))]) ⟨rfl, rfl, rfl, trivial⟩ (Sub.refl _) ?_
        exact ⟨n16, n20, x15, x17, x18, x19, x21, rfl, rfl, h⟩
    · rintro _ _ ⟨n7, n11, x6, x8, x9, x10, x12, rfl, rfl, h⟩
      rw [nfa_Of_c0.eq_1] at h
      refine AW.seq ?_
      obtain ⟨hg13, h⟩ := of_guard h
      obtain ⟨hg14, h⟩ := of_guard h
      refine AW.regEff (by rfl) (by decide +kernel) (fun (σ : Nat → Nat) => ([(.ptr n5 0), (.ptr n5 0), (.own n11 0 x12.length), (.ptr n11 ((0 : Int).toNat * 2 + 0)), (.ptr n11 ((0 : Int).toNat * 2 + 0 + 0)), (eI64 ((lget x12 (0 : Int)).f0)), (.own n11 0 x12.length), (.ptr n11 ((0 : Int).toNat * 2 + 0)), (.ptr n11 ((0 : Int).toNat * 2 + 0 + 1)), (eI64 ((lget x12 (0 : Int)).f1)), (.ptr n5 0), (.ptr n5 0), (.ptr n5 2), (.fl undef), (.ptr n5 0), (.ptr n5 0), (.ptr n5 3), (.fl undef)] : List AV)) (fun (L : Nat → Bool) (σ : Nat → Nat) => ((n2, (.mem (.st [(1, (eI64 (0 : Int))), (1, (.fl (.slice none 0 0))), (1, (eI64 (0 : Int))), (1, (eI64 (0 : Int)))]))) :: (n7, (.mem (.ar 7 (x8.map e35)))) :: (n11, (.mem (.ar 2 (x12.map e110)))) :: (bif L 13 then (bif L 17 then ((n5, (.mem (.st [(4, (.st [(1, (eI64 x6)), (1, (.own n7 0 x8.length)), (1, (eI64 ((lget x12 (0 : Int)).f0))), (1, (eI64 ((lget x12 (0 : Int)).f1)))]))]))) :: []) else ((n5, (.mem (.st [(4, (.st [(1, (eI64 x6)), (1, (.own n7 0 x8.length)), (1, (eI64 ((lget x12 (0 : Int)).f0))), (1, (eI64 x10))]))]))) :: [])) else ((n5, (.mem (.st [(4, (.st [(1, (eI64 x6)), (1, (.own n7 0 x8.length)), (1, (eI64 x9)), (1, (eI64 x10))]))]))) :: [])) : Heap)) [(2, (.ptr n2 0)), (5, (.ptr n5 0)), (6, (.own n11 0 x12.length))] ⟨rfl, rfl, rfl, trivial⟩ (fun _ => rfl) (fun σ => (Sub.cons 0 rfl (Sub.cons 1 rfl (Sub.cons 1 rfl (Sub.cons 0 rfl (Sub.refl _)))))) ⟨?_, ?_, ?_, ?_, ?_, ?_, ?_, ?_, ?_, ?_, ?_, ?_, ?_, ?_, ?_, ?_, ?_, ?_, trivial⟩ (fun σ => [(2, (.ptr n2 0)), (5, (.ptr n5 0))]) (fun σ => ((n2, (.mem (.st [(1, (eI64 (0 : Int))), (1, (.fl (.slice none 0 0))), (1, (eI64 (0 : Int))), (1, (eI64 (0 : Int)))]))) :: (n7, (.mem (.ar 7 (x8.map e35)))) :: (n11, (.mem (.ar 2 (x12.map e110)))) :: (n5, (.mem (.st [(4, (.st [(1, (eI64 x6)), (1, (.own n7 0 x8.length)), (1, (eI64 ((lget x12 (0 : Int)).f0))), (1, (eI64 ((lget x12 (0 : Int)).f1)))]))]))) :: [])) (fun σ => ⟨rfl, rfl, trivial⟩) (fun σ => Sub.refl _) (fun σ => ?_)
      · refine StepE.calm (fun _ _ => rfl) fun L σ hc hi hd => ?_
        have m13 : L 13 = false := hc.neg (i := 0) (j := 13) rfl (by rfl) hi
        have m17 : L 17 = false := hc.neg (i := 0) (j := 17) rfl (by rfl) hi
        refine AO.heq (H' := ((n2, (.mem (.st [(1, (eI64 (0 : Int))), (1, (.fl (.slice none 0 0))), (1, (eI64 (0 : Int))), (1, (eI64 (0 : Int)))]))) :: (n7, (.mem (.ar 7 (x8.map e35)))) :: (n11, (.mem (.ar 2 (x12.map e110)))) :: (n5, (.mem (.st [(4, (.st [(1, (eI64 x6)), (1, (.own n7 0 x8.length)), (1, (eI64 x9)), (1, (eI64 x10))]))]))) :: [])) (by first | rfl | simp only [m13, m17, cond_true, cond_false]) ?_
        refine AO.weak (ρ' := [(5, (.ptr n5 0))]) (H' := ((n2, (.mem (.st [(1, (eI64 (0 : Int))), (1, (.fl (.slice none 0 0))), (1, (eI64 (0 : Int))), (1, (eI64 (0 : Int)))]))) :: (n7, (.mem (.ar 7 (x8.map e35)))) :: (n11, (.mem (.ar 2 (x12.map e110)))) :: (n5, (.mem (.st [(4, (.st [(1, (eI64 x6)), (1, (.own n7 0 x8.length)), (1, (eI64 x9)), (1, (eI64 x10))]))]))) :: [])) ⟨rfl, trivial⟩ (Sub.refl _) ?_
        refine AO.calm rfl 28 rfl (by decide) (.ptr n5 0) (Calm.move rfl rfl) ?_
        exact AO.nilE (ρ' := [(28, (.ptr n5 0))]) ⟨⟨28, _, rfl, rfl, rfl⟩, Sub.of_eq (by first | rfl | simp only [m13, m17, cond_true, cond_false]) (Sub.refl _)⟩ ⟨rfl, trivial⟩ (Sub.refl _)
      · refine StepE.calm (fun _ _ => rfl) fun L σ hc hi hd => ?_
        have m17 : L 17 = false := hc.neg (i := 1) (j := 17) rfl (by rfl) hi
        cases b13 : L 13 with
        | true =>
          refine AO.heq (H' := ((n2, (.mem (.st [(1, (eI64 (0 : Int))), (1, (.fl (.slice none 0 0))), (1, (eI64 (0 : Int))), (1, (eI64 (0 : Int)))]))) :: (n7, (.mem (.ar 7 (x8.map e35)))) :: (n11, (.mem (.ar 2 (x12.map e110)))) :: (n5, (.mem (.st [(4, (.st [(1, (eI64 x6)), (1, (.own n7 0 x8.length)), (1, (eI64 ((lget x12 (0 : Int)).f0))), (1, (eI64 x10))]))]))) :: [])) (by first | rfl | simp only [b13, m17, cond_true, cond_false]) ?_
          refine AO.weak (ρ' := [(5, (.ptr n5 0))]) (H' := ((n2, (.mem (.st [(1, (eI64 (0 : Int))), (1, (.fl (.slice none 0 0))), (1, (eI64 (0 : Int))), (1, (eI64 (0 : Int)))]))) :: (n7, (.mem (.ar 7 (x8.map e35)))) :: (n11, (.mem (.ar 2 (x12.map e110)))) :: (n5, (.mem (.st [(4, (.st [(1, (eI64 x6)), (1, (.own n7 0 x8.length)), (1, (eI64 ((lget x12 (0 : Int)).f0))), (1, (eI64 x10))]))]))) :: [])) ⟨rfl, trivial⟩ (Sub.refl _) ?_
          refine AO.calm rfl 29 rfl (by decide) (.ptr n5 0) (Calm.move rfl rfl) ?_
          exact AO.nilE (ρ' := [(29, (.ptr n5 0))]) ⟨⟨29, _, rfl, rfl, rfl⟩, Sub.of_eq (by first | rfl | simp only [b13, m17, cond_true, cond_false]) (Sub.refl _)⟩ ⟨rfl, trivial⟩ (Sub.refl _)
        | false =>
          refine AO.heq (H' := ((n2, (.mem (.st [(1, (eI64 (0 : Int))), (1, (.fl (.slice none 0 0))), (1, (eI64 (0 : Int))), (1, (eI64 (0 : Int)))]))) :: (n7, (.mem (.ar 7 (x8.map e35)))) :: (n11, (.mem (.ar 2 (x12.map e110)))) :: (n5, (.mem (.st [(4, (.st [(1, (eI64 x6)), (1, (.own n7 0 x8.length)), (1, (eI64 x9)), (1, (eI64 x10))]))]))) :: [])) (by first | rfl | simp only [b13, m17, cond_true, cond_false]) ?_
          refine AO.weak (ρ' := [(5, (.ptr n5 0))]) (H' := ((n2, (.mem (.st [(1, (eI64 (0 : Int))), (1, (.fl (.slice none 0 0))), (1, (eI64 (0 : Int))), (1, (eI64 (0 : Int)))]))) :: (n7, (.mem (.ar 7 (x8.map e35)))) :: (n11, (.mem (.ar 2 (x12.map e110)))) :: (n5, (.mem (.st [(4, (.st [(1, (eI64 x6)), (1, (.own n7 0 x8.length)), (1, (eI64 x9)), (1, (eI64 x10))]))]))) :: [])) ⟨rfl, trivial⟩ (Sub.refl _) ?_
          refine AO.calm rfl 29 rfl (by decide) (.ptr n5 0) (Calm.move rfl rfl) ?_
          exact AO.nilE (ρ' := [(29, (.ptr n5 0))]) ⟨⟨29, _, rfl, rfl, rfl⟩, Sub.of_eq (by first | rfl | simp only [b13, m17, cond_true, cond_false]) (Sub.refl _)⟩ ⟨rfl, trivial⟩ (Sub.refl _)
      · refine StepE.calm (fun _ _ => rfl) fun L σ hc hi hd => ?_
        refine AO.weak (ρ' := [(6, (.own n11 0 x12.length))]) ⟨rfl, trivial⟩ (Sub.refl _) ?_
        refine AO.calm rfl 30 rfl (by decide) (.own n11 0 x12.length) (Calm.move rfl rfl) ?_
        exact AO.nilE (ρ' := [(30, (.own n11 0 x12.length))]) ⟨⟨30, _, rfl, rfl, rfl⟩, Sub.refl _⟩ ⟨rfl, trivial⟩ (Sub.refl _)
      · refine StepE.calm (fun _ _ => rfl) fun L σ hc hi hd => ?_
        refine AO.weak (ρ' := [(30, (.own n11 0 x12.length))]) ⟨rfl, trivial⟩ (Sub.refl _) ?_
        refine AO.calm rfl 31 rfl (by decide) (.ptr n11 ((0 : Int).toNat * 2 + 0)) (Calm.idxO 2 rfl rfl rfl rfl hg13 Try.underlying107 sz110) ?_
        exact AO.nilE (ρ' := [(31, (.ptr n11 ((0 : Int).toNat * 2 + 0)))]) ⟨⟨31, _, rfl, rfl, rfl⟩, Sub.refl _⟩ ⟨rfl, trivial⟩ (Sub.refl _)
      · refine StepE.calm (fun _ _ => rfl) fun L σ hc hi hd => ?_
        refine AO.weak (ρ' := [(31, (.ptr n11 ((0 : Int).toNat * 2 + 0)))]) ⟨rfl, trivial⟩ (Sub.refl _) ?_
        refine AO.calm rfl 32 rfl (by decide) (.ptr n11 ((0 : Int).toNat * 2 + 0 + 0)) (Calm.fldPtr rfl rfl Try.underlying110 rfl sz3 _ rfl) ?_
        exact AO.nilE (ρ' := [(32, (.ptr n11 ((0 : Int).toNat * 2 + 0 + 0)))]) ⟨⟨32, _, rfl, rfl, rfl⟩, Sub.refl _⟩ ⟨rfl, trivial⟩ (Sub.refl _)
      · refine StepE.calm (fun _ _ => rfl) fun L σ hc hi hd => ?_
        refine AO.weak (ρ' := [(32, (.ptr n11 ((0 : Int).toNat * 2 + 0 + 0)))]) ⟨rfl, trivial⟩ (Sub.refl _) ?_
        refine AO.calm rfl 33 rfl (by decide) (eI64 ((lget x12 (0 : Int)).f0)) (Calm.load 2 rfl rfl rfl (At.cast (At.lidx (0 : Int) hg13.1 hg13.2 (At.fld0 At.here)) (by omega)) ag3 sz3) ?_
        exact AO.nilE (ρ' := [(33, (eI64 ((lget x12 (0 : Int)).f0)))]) ⟨⟨33, _, rfl, rfl, rfl⟩, Sub.refl _⟩ ⟨rfl, trivial⟩ (Sub.refl _)
      · refine StepE.calm (fun _ _ => rfl) fun L σ hc hi hd => ?_
        refine AO.weak (ρ' := [(6, (.own n11 0 x12.length))]) ⟨rfl, trivial⟩ (Sub.refl _) ?_
        refine AO.calm rfl 34 rfl (by decide) (.own n11 0 x12.length) (Calm.move rfl rfl) ?_
        exact AO.nilE (ρ' := [(34, (.own n11 0 x12.length))]) ⟨⟨34, _, rfl, rfl, rfl⟩, Sub.refl _⟩ ⟨rfl, trivial⟩ (Sub.refl _)
      · refine StepE.calm (fun _ _ => rfl) fun L σ hc hi hd => ?_
        refine AO.weak (ρ' := [(34, (.own n11 0 x12.length))]) ⟨rfl, trivial⟩ (Sub.refl _) ?_
        refine AO.calm rfl 35 rfl (by decide) (.ptr n11 ((0 : Int).toNat * 2 + 0)) (Calm.idxO 2 rfl rfl rfl rfl hg14 Try.underlying107 sz110) ?_
        exact AO.nilE (ρ' := [(35, (.ptr n11 ((0 : Int).toNat * 2 + 0)))]) ⟨⟨35, _, rfl, rfl, rfl⟩, Sub.refl _⟩ ⟨rfl, trivial⟩ (Sub.refl _)
      · refine StepE.calm (fun _ _ => rfl) fun L σ hc hi hd => ?_
        refine AO.weak (ρ' := [(35, (.ptr n11 ((0 : Int).toNat * 2 + 0)))]) ⟨rfl, trivial⟩ (Sub.refl _) ?_
        refine AO.calm rfl 36 rfl (by decide) (.ptr n11 ((0 : Int).toNat * 2 + 0 + 1)) (Calm.fldPtr rfl rfl Try.underlying110 rfl sz3 _ rfl) ?_
        exact AO.nilE (ρ' := [(36, (.ptr n11 ((0 : Int).toNat * 2 + 0 + 1)))]) ⟨⟨36, _, rfl, rfl, rfl⟩, Sub.refl _⟩ ⟨rfl, trivial⟩ (Sub.refl _)
      · refine StepE.calm (fun _ _ => rfl) fun L σ hc hi hd => ?_
        refine AO.weak (ρ' := [(36, (.ptr n11 ((0 : Int).toNat * 2 + 0 + 1)))]) ⟨rfl, trivial⟩ (Sub.refl _) ?_
        refine AO.calm rfl 37 rfl (by decide) (eI64 ((lget x12 (0 : Int)).f1)) (Calm.load 2 rfl rfl rfl (At.cast (At.lidx (0 : Int) hg14.1 hg14.2 (At.fldS (At.fld0 At.here))) (by omega)) ag3 sz3) ?_
        exact AO.nilE (ρ' := [(37, (eI64 ((lget x12 (0 : Int)).f1)))]) ⟨⟨37, _, rfl, rfl, rfl⟩, Sub.refl _⟩ ⟨rfl, trivial⟩ (Sub.refl _)
      · refine StepE.calm (fun _ _ => rfl) fun L σ hc hi hd => ?_
        have m11 : L 11 = false := hc.neg (i := 10) (j := 11) rfl (by rfl) hi
        have m12 : L 12 = false := hc.neg (i := 11) (j := 12) rfl (by rfl) m11
        have m13 : L 13 = false := hc.neg (i := 12) (j := 13) rfl (by rfl) m12
        have m17 : L 17 = false := hc.neg (i := 10) (j := 17) rfl (by rfl) hi
        refine AO.heq (H' := ((n2, (.mem (.st [(1, (eI64 (0 : Int))), (1, (.fl (.slice none 0 0))), (1, (eI64 (0 : Int))), (1, (eI64 (0 : Int)))]))) :: (n7, (.mem (.ar 7 (x8.map e35)))) :: (n11, (.mem (.ar 2 (x12.map e110)))) :: (n5, (.mem (.st [(4, (.st [(1, (eI64 x6)), (1, (.own n7 0 x8.length)), (1, (eI64 x9)), (1, (eI64 x10))]))]))) :: [])) (by first | rfl | simp only [m13, m17, cond_true, cond_false]) ?_
        refine AO.weak (ρ' := [(28, (.ptr n5 0))]) (H' := ((n2, (.mem (.st [(1, (eI64 (0 : Int))), (1, (.fl (.slice none 0 0))), (1, (eI64 (0 : Int))), (1, (eI64 (0 : Int)))]))) :: (n7, (.mem (.ar 7 (x8.map e35)))) :: (n11, (.mem (.ar 2 (x12.map e110)))) :: (n5, (.mem (.st [(4, (.st [(1, (eI64 x6)), (1, (.own n7 0 x8.length)), (1, (eI64 x9)), (1, (eI64 x10))]))]))) :: [])) ⟨rfl, trivial⟩ (Sub.refl _) ?_
        refine AO.calm rfl 38 rfl (by decide) (.ptr n5 0) (Calm.nilCheck rfl rfl) ?_
        exact AO.nilE (ρ' := [(38, (.ptr n5 0))]) ⟨⟨38, _, rfl, rfl, rfl⟩, Sub.of_eq (by first | rfl | simp only [m13, m17, cond_true, cond_false]) (Sub.refl _)⟩ ⟨rfl, trivial⟩ (Sub.refl _)
      · refine StepE.calm (fun _ _ => rfl) fun L σ hc hi hd => ?_
        have m12 : L 12 = false := hc.neg (i := 11) (j := 12) rfl (by rfl) hi
        have m13 : L 13 = false := hc.neg (i := 12) (j := 13) rfl (by rfl) m12
        have m17 : L 17 = false := hc.neg (i := 11) (j := 17) rfl (by rfl) hi
        refine AO.heq (H' := ((n2, (.mem (.st [(1, (eI64 (0 : Int))), (1, (.fl (.slice none 0 0))), (1, (eI64 (0 : Int))), (1, (eI64 (0 : Int)))]))) :: (n7, (.mem (.ar 7 (x8.map e35)))) :: (n11, (.mem (.ar 2 (x12.map e110)))) :: (n5, (.mem (.st [(4, (.st [(1, (eI64 x6)), (1, (.own n7 0 x8.length)), (1, (eI64 x9)), (1, (eI64 x10))]))]))) :: [])) (by first | rfl | simp only [m13, m17, cond_true, cond_false]) ?_
        refine AO.weak (ρ' := [(38, (.ptr n5 0))]) (H' := ((n2, (.mem (.st [(1, (eI64 (0 : Int))), (1, (.fl (.slice none 0 0))), (1, (eI64 (0 : Int))), (1, (eI64 (0 : Int)))]))) :: (n7, (.mem (.ar 7 (x8.map e35)))) :: (n11, (.mem (.ar 2 (x12.map e110)))) :: (n5, (.mem (.st [(4, (.st [(1, (eI64 x6)), (1, (.own n7 0 x8.length)), (1, (eI64 x9)), (1, (eI64 x10))]))]))) :: [])) ⟨rfl, trivial⟩ (Sub.refl _) ?_
        refine AO.calm rfl 39 rfl (by decide) (.ptr n5 0) (Calm.fldPtr rfl rfl Try.underlying106 rfl sz24 _ rfl) ?_
        exact AO.nilE (ρ' := [(39, (.ptr n5 0))]) ⟨⟨39, _, rfl, rfl, rfl⟩, Sub.of_eq (by first | rfl | simp only [m13, m17, cond_true, cond_false]) (Sub.refl _)⟩ ⟨rfl, trivial⟩ (Sub.refl _)
      · refine StepE.calm (fun _ _ => rfl) fun L σ hc hi hd => ?_
        have m13 : L 13 = false := hc.neg (i := 12) (j := 13) rfl (by rfl) hi
        have m17 : L 17 = false := hc.neg (i := 12) (j := 17) rfl (by rfl) hi
        refine AO.heq (H' := ((n2, (.mem (.st [(1, (eI64 (0 : Int))), (1, (.fl (.slice none 0 0))), (1, (eI64 (0 : Int))), (1, (eI64 (0 : Int)))]))) :: (n7, (.mem (.ar 7 (x8.map e35)))) :: (n11, (.mem (.ar 2 (x12.map e110)))) :: (n5, (.mem (.st [(4, (.st [(1, (eI64 x6)), (1, (.own n7 0 x8.length)), (1, (eI64 x9)), (1, (eI64 x10))]))]))) :: [])) (by first | rfl | simp only [m13, m17, cond_true, cond_false]) ?_
        refine AO.weak (ρ' := [(39, (.ptr n5 0))]) (H' := ((n2, (.mem (.st [(1, (eI64 (0 : Int))), (1, (.fl (.slice none 0 0))), (1, (eI64 (0 : Int))), (1, (eI64 (0 : Int)))]))) :: (n7, (.mem (.ar 7 (x8.map e35)))) :: (n11, (.mem (.ar 2 (x12.map e110)))) :: (n5, (.mem (.st [(4, (.st [(1, (eI64 x6)), (1, (.own n7 0 x8.length)), (1, (eI64 x9)), (1, (eI64 x10))]))]))) :: [])) ⟨rfl, trivial⟩ (Sub.refl _) ?_
        refine AO.calm rfl 40 rfl (by decide) (.ptr n5 2) (Calm.fldPtr rfl rfl Try.underlying24 rfl sz3 _ rfl) ?_
        exact AO.nilE (ρ' := [(40, (.ptr n5 2))]) ⟨⟨40, _, rfl, rfl, rfl⟩, Sub.of_eq (by first | rfl | simp only [m13, m17, cond_true, cond_false]) (Sub.refl _)⟩ ⟨rfl, trivial⟩ (Sub.refl _)
      · intro L σ hc hi hd
        have m17 : L 17 = false := hc.neg (i := 13) (j := 17) rfl (by rfl) hi
        refine AO.heq (H' := ((n2, (.mem (.st [(1, (eI64 (0 : Int))), (1, (.fl (.slice none 0 0))), (1, (eI64 (0 : Int))), (1, (eI64 (0 : Int)))]))) :: (n7, (.mem (.ar 7 (x8.map e35)))) :: (n11, (.mem (.ar 2 (x12.map e110)))) :: (n5, (.mem (.st [(4, (.st [(1, (eI64 x6)), (1, (.own n7 0 x8.length)), (1, (eI64 x9)), (1, (eI64 x10))]))]))) :: [])) (by first | rfl | simp only [hi, m17, cond_true, cond_false]) ?_
        refine AO.weak (ρ' := [(33, (eI64 ((lget x12 (0 : Int)).f0))), (40, (.ptr n5 2))]) (H' := ((n2, (.mem (.st [(1, (eI64 (0 : Int))), (1, (.fl (.slice none 0 0))), (1, (eI64 (0 : Int))), (1, (eI64 (0 : Int)))]))) :: (n7, (.mem (.ar 7 (x8.map e35)))) :: (n11, (.mem (.ar 2 (x12.map e110)))) :: (n5, (.mem (.st [(4, (.st [(1, (eI64 x6)), (1, (.own n7 0 x8.length)), (1, (eI64 x9)), (1, (eI64 x10))]))]))) :: [])) ⟨rfl, rfl, trivial⟩ (Sub.refl _) ?_
        refine AO.store (X' := (.st [(4, (.st [(1, (eI64 x6)), (1, (.own n7 0 x8.length)), (1, (eI64 ((lget x12 (0 : Int)).f0))), (1, (eI64 x10))]))])) 3 rfl rfl rfl rfl rfl rfl (Put.cast (Put.fld0 (Put.fldS (Put.fldS (Put.fld0 Put.here)))) rfl) rfl rfl sz3 rfl ?_
        have a13 : addL L 13 13 = true := rfl
        have a17 : addL L 13 17 = false := m17
        exact AO.nilE (ρ' := []) (H' := ((n2, (.mem (.st [(1, (eI64 (0 : Int))), (1, (.fl (.slice none 0 0))), (1, (eI64 (0 : Int))), (1, (eI64 (0 : Int)))]))) :: (n7, (.mem (.ar 7 (x8.map e35)))) :: (n11, (.mem (.ar 2 (x12.map e110)))) :: (n5, (.mem (.st [(4, (.st [(1, (eI64 x6)), (1, (.own n7 0 x8.length)), (1, (eI64 ((lget x12 (0 : Int)).f0))), (1, (eI64 x10))]))]))) :: [])) ⟨σ, (fun _ _ => rfl), (fun d' hd' => by cases hd'), Sub.of_eq (B := ((n2, (.mem (.st [(1, (eI64 (0 : Int))), (1, (.fl (.slice none 0 0))), (1, (eI64 (0 : Int))), (1, (eI64 (0 : Int)))]))) :: (n7, (.mem (.ar 7 (x8.map e35)))) :: (n11, (.mem (.ar 2 (x12.map e110)))) :: (n5, (.mem (.st [(4, (.st [(1, (eI64 x6)), (1, (.own n7 0 x8.length)), (1, (eI64 ((lget x12 (0 : Int)).f0))), (1, (eI64 x10))]))]))) :: [])) (by simp only [a13, a17, cond_true, cond_false]) (Sub.refl _)⟩ trivial (Sub.refl _)
      · refine StepE.calm (fun _ _ => rfl) fun L σ hc hi hd => ?_
        have y13 : L 13 = true := on_get hd (i := 13) (by rfl)
        have m15 : L 15 = false := hc.neg (i := 14) (j := 15) rfl (by rfl) hi
        have m16 : L 16 = false := hc.neg (i := 15) (j := 16) rfl (by rfl) m15
        have m17 : L 17 = false := hc.neg (i := 16) (j := 17) rfl (by rfl) m16
        refine AO.heq (H' := ((n2, (.mem (.st [(1, (eI64 (0 : Int))), (1, (.fl (.slice none 0 0))), (1, (eI64 (0 : Int))), (1, (eI64 (0 : Int)))]))) :: (n7, (.mem (.ar 7 (x8.map e35)))) :: (n11, (.mem (.ar 2 (x12.map e110)))) :: (n5, (.mem (.st [(4, (.st [(1, (eI64 x6)), (1, (.own n7 0 x8.length)), (1, (eI64 ((lget x12 (0 : Int)).f0))), (1, (eI64 x10))]))]))) :: [])) (by first | rfl | simp only [y13, m17, cond_true, cond_false]) ?_
        refine AO.weak (ρ' := [(29, (.ptr n5 0))]) (H' := ((n2, (.mem (.st [(1, (eI64 (0 : Int))), (1, (.fl (.slice none 0 0))), (1, (eI64 (0 : Int))), (1, (eI64 (0 : Int)))]))) :: (n7, (.mem (.ar 7 (x8.map e35)))) :: (n11, (.mem (.ar 2 (x12.map e110)))) :: (n5, (.mem (.st [(4, (.st [(1, (eI64 x6)), (1, (.own n7 0 x8.length)), (1, (eI64 ((lget x12 (0 : Int)).f0))), (1, (eI64 x10))]))]))) :: [])) ⟨rfl, trivial⟩ (Sub.refl _) ?_
        refine AO.calm rfl 41 rfl (by decide) (.ptr n5 0) (Calm.nilCheck rfl rfl) ?_
        exact AO.nilE (ρ' := [(41, (.ptr n5 0))]) ⟨⟨41, _, rfl, rfl, rfl⟩, Sub.of_eq (by first | rfl | simp only [y13, m17, cond_true, cond_false]) (Sub.refl _)⟩ ⟨rfl, trivial⟩ (Sub.refl _)
      · refine StepE.calm (fun _ _ => rfl) fun L σ hc hi hd => ?_
        have y13 : L 13 = true := on_get hd (i := 13) (by rfl)
        have m16 : L 16 = false := hc.neg (i := 15) (j := 16) rfl (by rfl) hi
        have m17 : L 17 = false := hc.neg (i := 16) (j := 17) rfl (by rfl) m16
        refine AO.heq (H' := ((n2, (.mem (.st [(1, (eI64 (0 : Int))), (1, (.fl (.slice none 0 0))), (1, (eI64 (0 : Int))), (1, (eI64 (0 : Int)))]))) :: (n7, (.mem (.ar 7 (x8.map e35)))) :: (n11, (.mem (.ar 2 (x12.map e110)))) :: (n5, (.mem (.st [(4, (.st [(1, (eI64 x6)), (1, (.own n7 0 x8.length)), (1, (eI64 ((lget x12 (0 : Int)).f0))), (1, (eI64 x10))]))]))) :: [])) (by first | rfl | simp only [y13, m17, cond_true, cond_false]) ?_
        refine AO.weak (ρ' := [(41, (.ptr n5 0))]) (H' := ((n2, (.mem (.st [(1, (eI64 (0 : Int))), (1, (.fl (.slice none 0 0))), (1, (eI64 (0 : Int))), (1, (eI64 (0 : Int)))]))) :: (n7, (.mem (.ar 7 (x8.map e35)))) :: (n11, (.mem (.ar 2 (x12.map e110)))) :: (n5, (.mem (.st [(4, (.st [(1, (eI64 x6)), (1, (.own n7 0 x8.length)), (1, (eI64 ((lget x12 (0 : Int)).f0))), (1, (eI64 x10))]))]))) :: [])) ⟨rfl, trivial⟩ (Sub.refl _) ?_
        refine AO.calm rfl 42 rfl (by decide) (.ptr n5 0) (Calm.fldPtr rfl rfl Try.underlying106 rfl sz24 _ rfl) ?_
        exact AO.nilE (ρ' := [(42, (.ptr n5 0))]) ⟨⟨42, _, rfl, rfl, rfl⟩, Sub.of_eq (by first | rfl | simp only [y13, m17, cond_true, cond_false]) (Sub.refl _)⟩ ⟨rfl, trivial⟩ (Sub.refl _)
      · refine StepE.calm (fun _ _ => rfl) fun L σ hc hi hd => ?_
        have y13 : L 13 = true := on_get hd (i := 13) (by rfl)
        have m17 : L 17 = false := hc.neg (i := 16) (j := 17) rfl (by rfl) hi
        refine AO.heq (H' := ((n2, (.mem (.st [(1, (eI64 (0 : Int))), (1, (.fl (.slice none 0 0))), (1, (eI64 (0 : Int))), (1, (eI64 (0 : Int)))]))) :: (n7, (.mem (.ar 7 (x8.map e35)))) :: (n11, (.mem (.ar 2 (x12.map e110)))) :: (n5, (.mem (.st [(4, (.st [(1, (eI64 x6)), (1, (.own n7 0 x8.length)), (1, (eI64 ((lget x12 (0 : Int)).f0))), (1, (eI64 x10))]))]))) :: [])) (by first | rfl | simp only [y13, m17, cond_true, cond_false]) ?_
        refine AO.weak (ρ' := [(42, (.ptr n5 0))]) (H' := ((n2, (.mem (.st [(1, (eI64 (0 : Int))), (1, (.fl (.slice none 0 0))), (1, (eI64 (0 : Int))), (1, (eI64 (0 : Int)))]))) :: (n7, (.mem (.ar 7 (x8.map e35)))) :: (n11, (.mem (.ar 2 (x12.map e110)))) :: (n5, (.mem (.st [(4, (.st [(1, (eI64 x6)), (1, (.own n7 0 x8.length)), (1, (eI64 ((lget x12 (0 : Int)).f0))), (1, (eI64 x10))]))]))) :: [])) ⟨rfl, trivial⟩ (Sub.refl _) ?_
        refine AO.calm rfl 43 rfl (by decide) (.ptr n5 3) (Calm.fldPtr rfl rfl Try.underlying24 rfl sz3 _ rfl) ?_
        exact AO.nilE (ρ' := [(43, (.ptr n5 3))]) ⟨⟨43, _, rfl, rfl, rfl⟩, Sub.of_eq (by first | rfl | simp only [y13, m17, cond_true, cond_false]) (Sub.refl _)⟩ ⟨rfl, trivial⟩ (Sub.refl _)
      · intro L σ hc hi hd
        have y13 : L 13 = true := on_get hd (i := 13) (by rfl)
        refine AO.heq (H' := ((n2, (.mem (.st [(1, (eI64 (0 : Int))), (1, (.fl (.slice none 0 0))), (1, (eI64 (0 : Int))), (1, (eI64 (0 : Int)))]))) :: (n7, (.mem (.ar 7 (x8.map e35)))) :: (n11, (.mem (.ar 2 (x12.map e110)))) :: (n5, (.mem (.st [(4, (.st [(1, (eI64 x6)), (1, (.own n7 0 x8.length)), (1, (eI64 ((lget x12 (0 : Int)).f0))), (1, (eI64 x10))]))]))) :: [])) (by first | rfl | simp only [hi, y13, cond_true, cond_false]) ?_
        refine AO.weak (ρ' := [(37, (eI64 ((lget x12 (0 : Int)).f1))), (43, (.ptr n5 3))]) (H' := ((n2, (.mem (.st [(1, (eI64 (0 : Int))), (1, (.fl (.slice none 0 0))), (1, (eI64 (0 : Int))), (1, (eI64 (0 : Int)))]))) :: (n7, (.mem (.ar 7 (x8.map e35)))) :: (n11, (.mem (.ar 2 (x12.map e110)))) :: (n5, (.mem (.st [(4, (.st [(1, (eI64 x6)), (1, (.own n7 0 x8.length)), (1, (eI64 ((lget x12 (0 : Int)).f0))), (1, (eI64 x10))]))]))) :: [])) ⟨rfl, rfl, trivial⟩ (Sub.refl _) ?_
        refine AO.store (X' := (.st [(4, (.st [(1, (eI64 x6)), (1, (.own n7 0 x8.length)), (1, (eI64 ((lget x12 (0 : Int)).f0))), (1, (eI64 ((lget x12 (0 : Int)).f1)))]))])) 3 rfl rfl rfl rfl rfl rfl (Put.cast (Put.fld0 (Put.fldS (Put.fldS (Put.fldS (Put.fld0 Put.here))))) rfl) rfl rfl sz3 rfl ?_
        have a13 : addL L 17 13 = true := y13
        have a17 : addL L 17 17 = true := rfl
        exact AO.nilE (ρ' := []) (H' := ((n2, (.mem (.st [(1, (eI64 (0 : Int))), (1, (.fl (.slice none 0 0))), (1, (eI64 (0 : Int))), (1, (eI64 (0 : Int)))]))) :: (n7, (.mem (.ar 7 (x8.map e35)))) :: (n11, (.mem (.ar 2 (x12.map e110)))) :: (n5, (.mem (.st [(4, (.st [(1, (eI64 x6)), (1, (.own n7 0 x8.length)), (1, (eI64 ((lget x12 (0 : Int)).f0))), (1, (eI64 ((lget x12 (0 : Int)).f1)))]))]))) :: [])) ⟨σ, (fun _ _ => rfl), (fun d' hd' => by cases hd'), Sub.of_eq (B := ((n2, (.mem (.st [(1, (eI64 (0 : Int))), (1, (.fl (.slice none 0 0))), (1, (eI64 (0 : Int))), (1, (eI64 (0 : Int)))]))) :: (n7, (.mem (.ar 7 (x8.map e35)))) :: (n11, (.mem (.ar 2 (x12.map e110)))) :: (n5, (.mem (.st [(4, (.st [(1, (eI64 x6)), (1, (.own n7 0 x8.length)), (1, (eI64 ((lget x12 (0 : Int)).f0))), (1, (eI64 ((lget x12 (0 : Int)).f1)))]))]))) :: [])) (by simp only [a13, a17, cond_true, cond_false]) (Sub.refl _)⟩ trivial (Sub.refl _)
      · refine AO.nil (ρ' := [(2, (.ptr n2 0)), (5, (.ptr n5 0))]) (H' := [(n2, (.mem (.st [(1, (eI64 (0 : Int))), (1, (.fl (.slice none 0 0))), (1, (eI64 (0 : Int))), (1, (eI64 (0 : Int)))]))), (n5, (.mem (.st [(4, (.st [(1, (eI64 x6)), (1, (.own n7 0 x8.length)), (1, (eI64 ((lget x12 (0 : Int)).f0))), (1, (eI64 ((lget x12 (0 : Int)).f1)))]))]))), (n7, (.mem (.ar 7 (x8.map e35))))]) ⟨rfl, rfl, trivial⟩ (Sub.cons 0 rfl (Sub.cons 2 rfl (Sub.cons 0 rfl (Sub.nil _)))) ?_
        refine AW.seq ?_
        refine AW.reg ?_
        refine AO.calm rfl 44 rfl (by decide) (.ptr n5 0) (Calm.move rfl rfl) ?_
        refine AO.calm rfl 45 rfl (by decide) (.ptr n5 0) (Calm.nilCheck rfl rfl) ?_
        refine AO.calm rfl 46 rfl (by decide) (.ptr n5 0) (Calm.fldPtr rfl rfl Try.underlying106 rfl sz24 _ rfl) ?_
        refine AO.freezeFld (X' := (.st [(4, (.st [(1, (eI64 x6)), (1, (.fz 7 (x8.map e35))), (1, (eI64 ((lget x12 (0 : Int)).f0))), (1, (eI64 ((lget x12 (0 : Int)).f1)))]))])) (els' := (x8.map e35)) 2 1 rfl rfl (Put.cast (Put.fld0 (Put.fldS (Put.fld0 Put.here))) rfl) (by simp) (by rw [own_all]) rfl rfl (by decide) ?_
        refine AO.calm rfl 47 rfl (by decide) (e24 (S24.mk x6 x8 ((lget x12 (0 : Int)).f0) ((lget x12 (0 : Int)).f1))) (Calm.load 1 rfl rfl rfl (At.cast (At.fld0 At.here) rfl) ag24 sz24) ?_
        refine AO.store (X' := (e24 (S24.mk x6 x8 ((lget x12 (0 : Int)).f0) ((lget x12 (0 : Int)).f1)))) 0 rfl rfl rfl rfl rfl rfl (Put.cast Put.here rfl) rfl rfl sz24 rfl ?_
        refine AO.calm rfl 3 rfl (by decide) (eI64 (0 : Int)) (Calm.assign rfl rfl) ?_
        refine AO.nil (ρ' := [(2, (.ptr n2 0)), (3, (eI64 (0 : Int)))]) (H' := [(n2, (.mem (e24 (S24.mk x6 x8 ((lget x12 (0 : Int)).f0) ((lget x12 (0 : Int)).f1)))))]) ⟨rfl, rfl, trivial⟩ (Sub.cons 0 rfl (Sub.nil _)) ?_
        refine AW.ret (ρ' := [(2, (.ptr n2 0)), (3, (eI64 (0 : Int)))]) (H' := [(n2, (.mem (e24 (S24.mk x6 x8 ((lget x12 (0 : Int)).f0) ((lget x12 (0 : Int)).f1)))))]) ⟨rfl, rfl, trivial⟩ (Sub.refl _) ?_
        have hr := Option.some.inj h
        subst hr
        exact ⟨[(e24 (S24.mk x6 x8 ((lget x12 (0 : Int)).f0) ((lget x12 (0 : Int)).f1))), (eI64 (0 : Int))], ⟨⟨_, 0, rfl, rfl, ag24, sz24⟩, rfl, rfl, trivial⟩, rfl⟩
end Go.Avl.T3
/- bosket/bosketlaw06.awake; printed by avmain.py. -/
namespace Go.Avl.T3
open Go Go.RowKit Go.Proofs Go.Avl
set_option linter.unusedVariables false
set_option maxRecDepth 100000
set_option maxHeartbeats 4000000
attribute [local irreducible] AW AO AQ Spec SpecH Calm

def bosketlaw06_awake (k : Nat) : Option Bool :=
  (nfa_Of k [(S82.mk (1 : Int) (vset (vset (Vector.replicate 4 (0 : Int)) (0 : Int) (0 : Int)) (1 : Int) (8589934592 : Int)))]).bind fun t2 =>
  Option.bind (α := Bool) (if t2.2 = (0 : Int) then if t2.1.f0 = (2 : Int) then if (t2.1.f1.length : Int) = (1 : Int) then (nfa_Has k t2.1 (ByteArray.mk #[97])).bind fun t9 =>
  if t9 = true then (nfa_Has k t2.1 (ByteArray.mk #[98])).bind fun t11 =>
  some (!t11)
  else some (false)
  else some (false)
  else some (false)
  else some (false)) fun b4 =>
  some (b4)
theorem bosketlaw06_awake_spec {k : Nat}  {r : Bool} (h : bosketlaw06_awake k = some r) : Spec Try.prog 9 [] (eBool r) := by
  rw [bosketlaw06_awake.eq_1] at h
  refine Spec.intro (res := [.tmp 0]) Try.func9 rfl rfl rfl (Nat.le_of_ble_eq_true rfl) ?_
  refine AW.seq ?_
  refine AW.reg ?_
  refine AO.calm rfl 0 rfl (by decide) (eBool false) (Calm.assign rfl rfl) ?_
  refine AO.nil (ρ' := []) (H' := []) trivial (Sub.refl _) ?_
  refine AW.seq ?_
  refine AW.reg ?_
  refine AO.calm rfl 4 rfl (by decide) (.ar 1 ((vset (vset (Vector.replicate 4 (0 : Int)) (0 : Int) (0 : Int)) (1 : Int) (8589934592 : Int)).toList.map eU64)) (Calm.buildAr (qs := [(0, (eU64 (0 : Int))), (1, (eU64 (8589934592 : Int)))]) rfl ⟨rfl, rfl, rfl, rfl, rfl, rfl, trivial⟩ Try.underlying33 sz31 zr33 lay33 (.cons rfl rfl rfl rfl (Put.cast (Put.vidx (0 : Int) (0 : Int) (by decide) (by decide) Put.here) rfl) (.cons rfl rfl rfl rfl (Put.cast (Put.vidx (1 : Int) (8589934592 : Int) (by decide) (by decide) Put.here) rfl) .nil)) rfl) ?_
  refine AO.calm rfl 5 rfl (by decide) (.st [(1, (eI64 (1 : Int))), (4, (.ar 1 ((vset (vset (Vector.replicate 4 (0 : Int)) (0 : Int) (0 : Int)) (1 : Int) (8589934592 : Int)).toList.map eU64)))]) (Calm.build (qs := [(0, (eI64 (1 : Int))), (1, (.ar 1 ((vset (vset (Vector.replicate 4 (0 : Int)) (0 : Int) (0 : Int)) (1 : Int) (8589934592 : Int)).toList.map eU64)))]) rfl ⟨rfl, rfl, rfl, rfl, rfl, rfl, trivial⟩ Try.underlying82 rfl zr82 lay82 (.cons rfl rfl rfl rfl (Put.cast (Put.fld0 Put.here) rfl) (.cons rfl rfl (vec_size _ _) (vec_size _ _) (Put.cast (Put.fldS (Put.fld0 Put.here)) rfl) .nil)) rfl) ?_
  refine AO.lit (Z := (.st [(1, (eI64 (0 : Int))), (4, (.ar 1 ((Vector.replicate 4 (0 : Int)).toList.map eU64)))])) (xs := (([(S82.mk (1 : Int) (vset (vset (Vector.replicate 4 (0 : Int)) (0 : Int) (0 : Int)) (1 : Int) (8589934592 : Int)))] : List S82).map e82)) (qs := [(0, (e82 (S82.mk (1 : Int) (vset (vset (Vector.replicate 4 (0 : Int)) (0 : Int) (0 : Int)) (1 : Int) (8589934592 : Int)))))]) rfl 6 rfl (by decide) rfl ⟨rfl, rfl, rfl, trivial⟩ Try.underlying58 sz82 zr82 lay82 rfl (by decide) (litOK (z := 5) [(e82 (S82.mk (1 : Int) (vset (vset (Vector.replicate 4 (0 : Int)) (0 : Int) (0 : Int)) (1 : Int) (8589934592 : Int))))] rfl ⟨⟨rfl, rfl⟩, trivial⟩) rfl fun n1 => ?_
  obtain ⟨t2, et2, h⟩ := of_bind h
  refine AO.freezeS 0 [(6, (.fz 5 (([(S82.mk (1 : Int) (vset (vset (Vector.replicate 4 (0 : Int)) (0 : Int) (0 : Int)) (1 : Int) (8589934592 : Int)))] : List S82).map e82)))] rfl ⟨fz_all rfl, trivial⟩ ?_
  refine AO.callS [(.fz 5 (([(S82.mk (1 : Int) (vset (vset (Vector.replicate 4 (0 : Int)) (0 : Int) (0 : Int)) (1 : Int) (8589934592 : Int)))] : List S82).map e82))] (.tup [(e24 t2.1), (eI64 t2.2)]) 7 rfl (by decide) ok45 rfl rfl rfl ⟨rfl, rfl, trivial⟩ (nfa_Of_spec et2) ?_
  refine AO.calm rfl 3 rfl (by decide) (.tup [(e24 t2.1), (eI64 t2.2)]) (Calm.move rfl rfl) ?_
  refine AO.calm rfl 8 rfl (by decide) (e24 t2.1) (Calm.extract rfl rfl rfl) ?_
  refine AO.calm rfl 9 rfl (by decide) (eI64 t2.2) (Calm.extract rfl rfl rfl) ?_
  refine AO.alloc rfl 1 rfl (by decide) rfl zr24 lay24 fun n3 => ?_
  refine AO.store (X' := (e24 t2.1)) 0 rfl rfl rfl rfl rfl rfl (Put.cast Put.here rfl) rfl rfl sz24 rfl ?_
  refine AO.calm rfl 2 rfl (by decide) (eI64 t2.2) (Calm.assign rfl rfl) ?_
  refine AO.nil (ρ' := [(1, (.ptr n3 0)), (2, (eI64 t2.2))]) (H' := [(n3, (.mem (e24 t2.1)))]) ⟨rfl, rfl, trivial⟩ (Sub.refl _) ?_
  refine AW.seq ?_
  obtain ⟨b4, hq5, h⟩ := of_bind h
  refine AW.regM [(0, (eBool b4))] [] ?_ ?_
  · refine AO.calm rfl 10 rfl (by decide) (eI64 t2.2) (Calm.move rfl rfl) ?_
    refine AO.calm rfl 11 rfl (by decide) (eBool (decide (t2.2 = (0 : Int)))) (Calm.int rfl rfl rfl rfl) ?_
    refine AO.calm rfl 12 rfl (by decide) (eBool (decide (t2.2 = (0 : Int)))) (Calm.move rfl rfl) ?_
    by_cases hc6 : t2.2 = (0 : Int)
    · have hq5 := (if_pos hc6).symm.trans hq5
      refine AO.calmG 2 true 12 rfl rfl (congrArg (fun b => some (AV.fl (Value.bool b))) (decide_eq_true hc6)) 13 rfl (by decide) (.ptr n3 0) (Calm.fldPtr rfl rfl Try.underlying24 rfl sz3 _ rfl) ?_
      refine AO.calmG 2 true 12 rfl rfl (congrArg (fun b => some (AV.fl (Value.bool b))) (decide_eq_true hc6)) 14 rfl (by decide) (eI64 t2.1.f0) (Calm.load 0 rfl rfl rfl (At.cast (At.fld0 At.here) rfl) ag3 sz3) ?_
      refine AO.calmG 2 true 12 rfl rfl (congrArg (fun b => some (AV.fl (Value.bool b))) (decide_eq_true hc6)) 15 rfl (by decide) (eBool (decide (t2.1.f0 = (2 : Int)))) (Calm.int rfl rfl rfl rfl) ?_
      refine AO.calm rfl 16 rfl (by decide) (eBool (decide (t2.1.f0 = (2 : Int)))) (Calm.pickT rfl (congrArg (fun b => some (AV.fl (Value.bool b))) (decide_eq_true hc6)) rfl) ?_
      refine AO.calm rfl 17 rfl (by decide) (eBool (decide (t2.1.f0 = (2 : Int)))) (Calm.move rfl rfl) ?_
      by_cases hc7 : t2.1.f0 = (2 : Int)
      · have hq5 := (if_pos hc7).symm.trans hq5
        refine AO.calmG 7 true 17 rfl rfl (congrArg (fun b => some (AV.fl (Value.bool b))) (decide_eq_true hc7)) 18 rfl (by decide) (.ptr n3 1) (Calm.fldPtr rfl rfl Try.underlying24 rfl sz22 _ rfl) ?_
        refine AO.calmG 7 true 17 rfl rfl (congrArg (fun b => some (AV.fl (Value.bool b))) (decide_eq_true hc7)) 19 rfl (by decide) (.fz 7 (t2.1.f1.map e35)) (Calm.load 0 rfl rfl rfl (At.cast (At.fldS (At.fld0 At.here)) rfl) ag22 sz22) ?_
        refine AO.calmG 7 true 17 rfl rfl (congrArg (fun b => some (AV.fl (Value.bool b))) (decide_eq_true hc7)) 20 rfl (by decide) (eI64 (t2.1.f1.length : Int)) (Calm.lenL rfl rfl Try.underlying22) ?_
        refine AO.calmG 7 true 17 rfl rfl (congrArg (fun b => some (AV.fl (Value.bool b))) (decide_eq_true hc7)) 21 rfl (by decide) (eBool (decide ((t2.1.f1.length : Int) = (1 : Int)))) (Calm.int rfl rfl rfl rfl) ?_
        refine AO.calm rfl 22 rfl (by decide) (eBool (decide ((t2.1.f1.length : Int) = (1 : Int)))) (Calm.pickT rfl (congrArg (fun b => some (AV.fl (Value.bool b))) (decide_eq_true hc7)) rfl) ?_
        refine AO.calm rfl 23 rfl (by decide) (eBool (decide ((t2.1.f1.length : Int) = (1 : Int)))) (Calm.move rfl rfl) ?_
        by_cases hc8 : (t2.1.f1.length : Int) = (1 : Int)
        · have hq5 := (if_pos hc8).symm.trans hq5
          refine AO.calmG 13 true 23 rfl rfl (congrArg (fun b => some (AV.fl (Value.bool b))) (decide_eq_true hc8)) 24 rfl (by decide) (e24 t2.1) (Calm.load 0 rfl rfl rfl (At.cast At.here rfl) ag24 sz24) ?_
          obtain ⟨t9, et9, hq5⟩ := of_bind hq5
          refine AO.callG 13 true 23 [(e24 t2.1), (eStr (ByteArray.mk #[97]))] (eBool t9) 25 rfl (by decide) ok12 rfl rfl (congrArg (fun b => some (AV.fl (Value.bool b))) (decide_eq_true hc8)) rfl rfl ⟨rfl, rfl, rfl, rfl, trivial⟩ (nfa_Has_spec et9) ?_
          refine AO.calm rfl 26 rfl (by decide) (eBool t9) (Calm.pickT rfl (congrArg (fun b => some (AV.fl (Value.bool b))) (decide_eq_true hc8)) rfl) ?_
          refine AO.calm rfl 27 rfl (by decide) (eBool t9) (Calm.move rfl rfl) ?_
          by_cases hc10 : t9 = true
          · have hq5 := (if_pos hc10).symm.trans hq5
            refine AO.calmG 17 true 27 rfl rfl (congrArg (fun b => some (AV.fl (Value.bool b))) hc10) 28 rfl (by decide) (e24 t2.1) (Calm.load 0 rfl rfl rfl (At.cast At.here rfl) ag24 sz24) ?_
            obtain ⟨t11, et11, hq5⟩ := of_bind hq5
            refine AO.callG 17 true 27 [(e24 t2.1), (eStr (ByteArray.mk #[98]))] (eBool t11) 29 rfl (by decide) ok12 rfl rfl (congrArg (fun b => some (AV.fl (Value.bool b))) hc10) rfl rfl ⟨rfl, rfl, rfl, rfl, trivial⟩ (nfa_Has_spec et11) ?_
            refine AO.calmG 17 true 27 rfl rfl (congrArg (fun b => some (AV.fl (Value.bool b))) hc10) 30 rfl (by decide) (eBool (!t11)) (Calm.not rfl rfl) ?_
            refine AO.calm rfl 31 rfl (by decide) (eBool (!t11)) (Calm.pickT rfl (congrArg (fun b => some (AV.fl (Value.bool b))) hc10) rfl) ?_
            refine AO.calm rfl 0 rfl (by decide) (eBool (!t11)) (Calm.assign rfl rfl) ?_
            cases hq5
            refine AO.nilE ⟨rfl, rfl⟩ ?_ ?_
            · exact ⟨rfl, trivial⟩
            · exact (Sub.nil _)
          · have hq5 := (if_neg hc10).symm.trans hq5
            refine AO.skipG 17 false 27 rfl rfl (congrArg (fun b => some (AV.fl (Value.bool b))) (eq_false_of_ne_true hc10)) 28 rfl (by decide) ?_
            refine AO.skipG 17 false 27 rfl rfl (congrArg (fun b => some (AV.fl (Value.bool b))) (eq_false_of_ne_true hc10)) 29 rfl (by decide) ?_
            refine AO.skipG 17 false 27 rfl rfl (congrArg (fun b => some (AV.fl (Value.bool b))) (eq_false_of_ne_true hc10)) 30 rfl (by decide) ?_
            refine AO.calm rfl 31 rfl (by decide) (eBool false) (Calm.pickF rfl (congrArg (fun b => some (AV.fl (Value.bool b))) (eq_false_of_ne_true hc10)) rfl) ?_
            refine AO.calm rfl 0 rfl (by decide) (eBool false) (Calm.assign rfl rfl) ?_
            cases hq5
            refine AO.nilE ⟨rfl, rfl⟩ ?_ ?_
            · exact ⟨rfl, trivial⟩
            · exact (Sub.nil _)
        · have hq5 := (if_neg hc8).symm.trans hq5
          refine AO.skipG 13 false 23 rfl rfl (congrArg (fun b => some (AV.fl (Value.bool b))) (decide_eq_false hc8)) 24 rfl (by decide) ?_
          refine AO.skipG 13 false 23 rfl rfl (congrArg (fun b => some (AV.fl (Value.bool b))) (decide_eq_false hc8)) 25 rfl (by decide) ?_
          refine AO.calm rfl 26 rfl (by decide) (eBool false) (Calm.pickF rfl (congrArg (fun b => some (AV.fl (Value.bool b))) (decide_eq_false hc8)) rfl) ?_
          refine AO.calm rfl 27 rfl (by decide) (eBool false) (Calm.move rfl rfl) ?_
          refine AO.skipG 17 false 27 rfl rfl rfl 28 rfl (by decide) ?_
          refine AO.skipG 17 false 27 rfl rfl rfl 29 rfl (by decide) ?_
          refine AO.skipG 17 false 27 rfl rfl rfl 30 rfl (by decide) ?_
          refine AO.calm rfl 31 rfl (by decide) (eBool false) (Calm.pickF rfl rfl rfl) ?_
          refine AO.calm rfl 0 rfl (by decide) (eBool false) (Calm.assign rfl rfl) ?_
          cases hq5
          refine AO.nilE ⟨rfl, rfl⟩ ?_ ?_
          · exact ⟨rfl, trivial⟩
          · exact (Sub.nil _)
      · have hq5 := (if_neg hc7).symm.trans hq5
        refine AO.skipG 7 false 17 rfl rfl (congrArg (fun b => some (AV.fl (Value.bool b))) (decide_eq_false hc7)) 18 rfl (by decide) ?_
        refine AO.skipG 7 false 17 rfl rfl (congrArg (fun b => some (AV.fl (Value.bool b))) (decide_eq_false hc7)) 19 rfl (by decide) ?_
        refine AO.skipG 7 false 17 rfl rfl (congrArg (fun b => some (AV.fl (Value.bool b))) (decide_eq_false hc7)) 20 rfl (by decide) ?_
        refine AO.skipG 7 false 17 rfl rfl (congrArg (fun b => some (AV.fl (Value.bool b))) (decide_eq_false hc7)) 21 rfl (by decide) ?_
        refine AO.calm rfl 22 rfl (by decide) (eBool false) (Calm.pickF rfl (congrArg (fun b => some (AV.fl (Value.bool b))) (decide_eq_false hc7)) rfl) ?_
        refine AO.calm rfl 23 rfl (by decide) (eBool false) (Calm.move rfl rfl) ?_
        refine AO.skipG 13 false 23 rfl rfl rfl 24 rfl (by decide) ?_
        refine AO.skipG 13 false 23 rfl rfl rfl 25 rfl (by decide) ?_
        refine AO.calm rfl 26 rfl (by decide) (eBool false) (Calm.pickF rfl rfl rfl) ?_
        refine AO.calm rfl 27 rfl (by decide) (eBool false) (Calm.move rfl rfl) ?_
        refine AO.skipG 17 false 27 rfl rfl rfl 28 rfl (by decide) ?_
        refine AO.skipG 17 false 27 rfl rfl rfl 29 rfl (by decide) ?_
        refine AO.skipG 17 false 27 rfl rfl rfl 30 rfl (by decide) ?_
        refine AO.calm rfl 31 rfl (by decide) (eBool false) (Calm.pickF rfl rfl rfl) ?_
        refine AO.calm rfl 0 rfl (by decide) (eBool false) (Calm.assign rfl rfl) ?_
        cases hq5
        refine AO.nilE ⟨rfl, rfl⟩ ?_ ?_
        · exact ⟨rfl, trivial⟩
        · exact (Sub.nil _)
    · have hq5 := (if_neg hc6).symm.trans hq5
      refine AO.skipG 2 false 12 rfl rfl (congrArg (fun b => some (AV.fl (Value.bool b))) (decide_eq_false hc6)) 13 rfl (by decide) ?_
      refine AO.skipG 2 false 12 rfl rfl (congrArg (fun b => some (AV.fl (Value.bool b))) (decide_eq_false hc6)) 14 rfl (by decide) ?_
      refine AO.skipG 2 false 12 rfl rfl (congrArg (fun b => some (AV.fl (Value.bool b))) (decide_eq_false hc6)) 15 rfl (by decide) ?_
      refine AO.calm rfl 16 rfl (by decide) (eBool false) (Calm.pickF rfl (congrArg (fun b => some (AV.fl (Value.bool b))) (decide_eq_false hc6)) rfl) ?_
      refine AO.calm rfl 17 rfl (by decide) (eBool false) (Calm.move rfl rfl) ?_
      refine AO.skipG 7 false 17 rfl rfl rfl 18 rfl (by decide) ?_
      refine AO.skipG 7 false 17 rfl rfl rfl 19 rfl (by decide) ?_
      refine AO.skipG 7 false 17 rfl rfl rfl 20 rfl (by decide) ?_
      refine AO.skipG 7 false 17 rfl rfl rfl 21 rfl (by decide) ?_
      refine AO.calm rfl 22 rfl (by decide) (eBool false) (Calm.pickF rfl rfl rfl) ?_
      refine AO.calm rfl 23 rfl (by decide) (eBool false) (Calm.move rfl rfl) ?_
      refine AO.skipG 13 false 23 rfl rfl rfl 24 rfl (by decide) ?_
      refine AO.skipG 13 false 23 rfl rfl rfl 25 rfl (by decide) ?_
      refine AO.calm rfl 26 rfl (by decide) (eBool false) (Calm.pickF rfl rfl rfl) ?_
      refine AO.calm rfl 27 rfl (by decide) (eBool false) (Calm.move rfl rfl) ?_
      refine AO.skipG 17 false 27 rfl rfl rfl 28 rfl (by decide) ?_
      refine AO.skipG 17 false 27 rfl rfl rfl 29 rfl (by decide) ?_
      refine AO.skipG 17 false 27 rfl rfl rfl 30 rfl (by decide) ?_
      refine AO.calm rfl 31 rfl (by decide) (eBool false) (Calm.pickF rfl rfl rfl) ?_
      refine AO.calm rfl 0 rfl (by decide) (eBool false) (Calm.assign rfl rfl) ?_
      cases hq5
      refine AO.nilE ⟨rfl, rfl⟩ ?_ ?_
      · exact ⟨rfl, trivial⟩
      · exact (Sub.nil _)
  · refine AW.ret (ρ' := [(0, (eBool b4))]) (H' := []) ⟨rfl, trivial⟩ (Sub.refl _) ?_
    have hr := Option.some.inj h
    subst hr
    exact ⟨[(eBool b4)], ⟨rfl, rfl, trivial⟩, rfl⟩
end Go.Avl.T3
