/- bosket/munch.All; printed by avmain.py. -/
import Derived.Test.YthfongdjcpmpfaaAB
import Derived.Test.YthfongdjcpmpfaaAf15
namespace Go.Avl.T1
open Go Go.RowKit Go.Proofs Go.Avl
set_option linter.unusedVariables false
set_option maxRecDepth 100000
set_option maxHeartbeats 4000000
attribute [local irreducible] AW AO AQ Spec SpecH Calm

def munch_All_c0 (k : Nat) (p1 : ByteArray) (x6 : (List S61)) : Option ((List S61) × Int × Int) :=
  some (x6, (p1.size : Int), (0 : Int))
def munch_All_l1 (k : Nat) (p0 : S26) (p1 : ByteArray) : Nat → (List S61) → Int → Option ((List S61) × Int × Int)
  | 0, _, _ => none
  | j + 1, x8, x9 =>
    if x9 < (p1.size : Int) then (munch_Longest k p0 p1 x9).bind fun t13 =>
    if t13.2 = (0 : Int) then some (x8, x9, (7 : Int))
    else if 0 ≤ x9 ∧ x9 ≤ (w64 (x9 + t13.2)) ∧ (w64 (x9 + t13.2)) ≤ (p1.size : Int) then if (x8 ++ ([(S61.mk t13.1 (p1.extract x9.toNat (w64 (x9 + t13.2)).toNat) x9)] : List S61)).length * 32 ≤ 140737488355328 then (munch_All_l1 k p0 p1 j) (x8 ++ ([(S61.mk t13.1 (p1.extract x9.toNat (w64 (x9 + t13.2)).toNat) x9)] : List S61)) (w64 (x9 + t13.2))
    else none
    else none
    else munch_All_c0 k p1 x8
def munch_All (k : Nat) (p0 : S26) (p1 : ByteArray) : Option ((List S61) × Int × Int) :=
  if (65536 : Int) < (p1.size : Int) then some ([], (0 : Int), (6 : Int))
  else munch_All_l1 k p0 p1 k [] (0 : Int)
theorem munch_All_spec {k : Nat} {p0 : S26} {p1 : ByteArray} {r : ((List S61) × Int × Int)} (h : munch_All k p0 p1 = some r) : Spec Try.prog 32 [(e26 p0), (eStr p1)] (.tup [(.fz 3 (r.1.map e61)), (eI64 r.2.1), (eI64 r.2.2)]) := by
  rw [munch_All.eq_1] at h
  refine Spec.intro (res := [.tmp 4, .tmp 5, .tmp 6]) Try.func32 rfl rfl rfl (Nat.le_of_ble_eq_true rfl) ?_
  refine AW.seq ?_
  refine AW.reg ?_
  refine AO.box rfl 2 rfl (by decide) rfl rfl rfl fun n3 => ?_
  refine AO.calm rfl 4 rfl (by decide) (.fl (.slice none 0 0)) (Calm.assign rfl rfl) ?_
  refine AO.calm rfl 5 rfl (by decide) (eI64 (0 : Int)) (Calm.assign rfl rfl) ?_
  refine AO.calm rfl 6 rfl (by decide) (eI64 (0 : Int)) (Calm.assign rfl rfl) ?_
  refine AO.nil (ρ' := [(1, (eStr p1)), (2, (.ptr n3 0))]) (H' := [(n3, .mem (e26 p0))]) ⟨rfl, rfl, trivial⟩ (Sub.refl _) ?_
  refine AW.seq ?_
  refine AW.seq ?_
  refine AW.reg ?_
  refine AO.calm rfl 11 rfl (by decide) (eStr p1) (Calm.move rfl rfl) ?_
  refine AO.calm rfl 12 rfl (by decide) (eI64 (p1.size : Int)) (Calm.lenStr rfl rfl Try.underlying9) ?_
  refine AO.calm rfl 13 rfl (by decide) (eBool (decide ((65536 : Int) < (p1.size : Int)))) (Calm.int rfl rfl rfl rfl) ?_
  refine AO.nil (ρ' := [(1, (eStr p1)), (2, (.ptr n3 0)), (13, (eBool (decide ((65536 : Int) < (p1.size : Int)))))]) (H' := [(n3, .mem (e26 p0))]) ⟨rfl, rfl, rfl, trivial⟩ (Sub.refl _) ?_
  by_cases hc4 : (65536 : Int) < (p1.size : Int)
  · have h := (if_pos hc4).symm.trans h
    refine AW.condP ((65536 : Int) < (p1.size : Int)) rfl hc4 ?_
    refine AW.seq ?_
    refine AW.reg ?_
    refine AO.calm rfl 4 rfl (by decide) (.fl (.slice none 0 0)) (Calm.assign rfl rfl) ?_
    refine AO.calm rfl 5 rfl (by decide) (eI64 (0 : Int)) (Calm.assign rfl rfl) ?_
    refine AO.calm rfl 6 rfl (by decide) (eI64 (6 : Int)) (Calm.assign rfl rfl) ?_
    refine AO.nil (ρ' := [(4, (.fl (.slice none 0 0))), (5, (eI64 (0 : Int))), (6, (eI64 (6 : Int)))]) (H' := []) ⟨rfl, rfl, rfl, trivial⟩ (Sub.nil _) ?_
    refine AW.coeC 4 (y' := (.fz 3 (([] : List S61).map e61))) rfl Coe.nil ?_
    refine AW.ret (ρ' := [(4, (.fz 3 (([] : List S61).map e61))), (5, (eI64 (0 : Int))), (6, (eI64 (6 : Int)))]) (H' := []) ⟨rfl, rfl, rfl, trivial⟩ (Sub.refl _) ?_
    have hr := Option.some.inj h
    subst hr
    exact ⟨[(.fz 3 (([] : List S61).map e61)), (eI64 (0 : Int)), (eI64 (6 : Int))], ⟨rfl, rfl, rfl, rfl, rfl, rfl, trivial⟩, rfl⟩
  · have h := (if_neg hc4).symm.trans h
    refine AW.condN ((65536 : Int) < (p1.size : Int)) rfl hc4 ?_
    refine AW.skip (ρ' := [(1, (eStr p1)), (2, (.ptr n3 0))]) (H' := [(n3, .mem (e26 p0))]) ⟨rfl, rfl, trivial⟩ (Sub.refl _) ?_
    refine AW.seq ?_
    refine AW.reg ?_
    refine AO.calm rfl 7 rfl (by decide) (.fl (.slice none 0 0)) (Calm.assign rfl rfl) ?_
    refine AO.nil (ρ' := [(1, (eStr p1)), (2, (.ptr n3 0)), (7, (.fl (.slice none 0 0)))]) (H' := [(n3, .mem (e26 p0))]) ⟨rfl, rfl, rfl, trivial⟩ (Sub.refl _) ?_
    refine AW.seq_mid (fun ρ H => ∃ (n5 : Nat) (x6 : (List S61)), ρ = [(1, (eStr p1)), (7, (.own n5 0 x6.length))] ∧ H = [(n5, .mem (.ar 3 (x6.map e61)))] ∧ munch_All_c0 k p1 x6 = some r) ?_ ?_
    · refine AW.seq ?_
      refine AW.reg ?_
      refine AO.calm rfl 8 rfl (by decide) (eI64 (0 : Int)) (Calm.assign rfl rfl) ?_
      refine AO.nil (ρ' := [(1, (eStr p1)), (2, (.ptr n3 0)), (7, (.fl (.slice none 0 0))), (8, (eI64 (0 : Int)))]) (H' := [(n3, .mem (e26 p0))]) ⟨rfl, rfl, rfl, rfl, trivial⟩ (Sub.refl _) ?_
      refine AW.block ?_
      refine AW.nilOwn 7 3 rfl fun n19 => ?_
      refine AW.weak (ρ' := [(1, (eStr p1)), (2, (.ptr n3 0)), (7, (.own n19 0 ([] : List S61).length)), (8, (eI64 (0 : Int)))]) (H' := [(n3, .mem (e26 p0)), (n19, .mem (.ar 3 (([] : List S61).map e61)))]) ⟨rfl, rfl, rfl, rfl, trivial⟩ (Sub.cons 1 rfl (Sub.cons 0 rfl (Sub.nil _))) ?_
      refine AW.loop (fun kq ρ H => ∃ (n7 : Nat) (x8 : (List S61)) (x9 : Int), ρ = [(1, (eStr p1)), (2, (.ptr n3 0)), (7, (.own n7 0 x8.length)), (8, (eI64 x9))] ∧ H = [(n3, .mem (e26 p0)), (n7, .mem (.ar 3 (x8.map e61)))] ∧ munch_All_l1 k p0 p1 kq x8 x9 = some r) k ⟨n19, [], (0 : Int), rfl, rfl, h⟩ ?_
      rintro kq11 _ _ ⟨n7, x8, x9, rfl, rfl, h⟩
      cases kq11 with
      | zero => rw [munch_All_l1.eq_1] at h; cases h
      | succ kq11 =>
      rw [munch_All_l1.eq_2] at h
      generalize hrec10 : munch_All_l1 k p0 p1 kq11 = rec10 at h
      refine AW.seq ?_
      refine AW.seq ?_
      refine AW.reg ?_
      refine AO.calm rfl 14 rfl (by decide) (eI64 x9) (Calm.move rfl rfl) ?_
      refine AO.calm rfl 15 rfl (by decide) (eStr p1) (Calm.move rfl rfl) ?_
      refine AO.calm rfl 16 rfl (by decide) (eI64 (p1.size : Int)) (Calm.lenStr rfl rfl Try.underlying9) ?_
      refine AO.calm rfl 17 rfl (by decide) (eBool (decide (x9 < (p1.size : Int)))) (Calm.int rfl rfl rfl rfl) ?_
      refine AO.nil (ρ' := [(1, (eStr p1)), (2, (.ptr n3 0)), (7, (.own n7 0 x8.length)), (8, (eI64 x9)), (17, (eBool (decide (x9 < (p1.size : Int)))))]) (H' := [(n3, .mem (e26 p0)), (n7, .mem (.ar 3 (x8.map e61)))]) ⟨rfl, rfl, rfl, rfl, rfl, trivial⟩ (Sub.refl _) ?_
      by_cases hc12 : x9 < (p1.size : Int)
      · have h := (if_pos hc12).symm.trans h
        refine AW.condP (x9 < (p1.size : Int)) rfl hc12 ?_
        refine AW.skip (ρ' := [(1, (eStr p1)), (2, (.ptr n3 0)), (7, (.own n7 0 x8.length)), (8, (eI64 x9))]) (H' := [(n3, .mem (e26 p0)), (n7, .mem (.ar 3 (x8.map e61)))]) ⟨rfl, rfl, rfl, rfl, trivial⟩ (Sub.refl _) ?_
        refine AW.block ?_
        refine AW.seq ?_
        refine AW.reg ?_
        refine AO.calm rfl 19 rfl (by decide) (e26 p0) (Calm.load 0 rfl rfl rfl (At.cast At.here rfl) ag26 sz26) ?_
        refine AO.calm rfl 20 rfl (by decide) (eStr p1) (Calm.move rfl rfl) ?_
        refine AO.calm rfl 21 rfl (by decide) (eI64 x9) (Calm.move rfl rfl) ?_
        obtain ⟨t13, et13, h⟩ := of_bind h
        refine AO.callS [(e26 p0), (eStr p1), (eI64 x9)] (.tup [(eI64 t13.1), (eI64 t13.2)]) 22 rfl (by decide) ok15 rfl rfl rfl ⟨rfl, rfl, rfl, rfl, rfl, rfl, trivial⟩ (munch_Longest_spec et13) ?_
        refine AO.calm rfl 18 rfl (by decide) (.tup [(eI64 t13.1), (eI64 t13.2)]) (Calm.move rfl rfl) ?_
        refine AO.calm rfl 23 rfl (by decide) (eI64 t13.1) (Calm.extract rfl rfl rfl) ?_
        refine AO.calm rfl 24 rfl (by decide) (eI64 t13.2) (Calm.extract rfl rfl rfl) ?_
        refine AO.calm rfl 9 rfl (by decide) (eI64 t13.1) (Calm.assign rfl rfl) ?_
        refine AO.calm rfl 10 rfl (by decide) (eI64 t13.2) (Calm.assign rfl rfl) ?_
        refine AO.nil (ρ' := [(1, (eStr p1)), (2, (.ptr n3 0)), (7, (.own n7 0 x8.length)), (8, (eI64 x9)), (9, (eI64 t13.1)), (10, (eI64 t13.2))]) (H' := [(n3, .mem (e26 p0)), (n7, .mem (.ar 3 (x8.map e61)))]) ⟨rfl, rfl, rfl, rfl, rfl, rfl, trivial⟩ (Sub.refl _) ?_
        refine AW.seq ?_
        refine AW.seq ?_
        refine AW.reg ?_
        refine AO.calm rfl 25 rfl (by decide) (eI64 t13.2) (Calm.move rfl rfl) ?_
        refine AO.calm rfl 26 rfl (by decide) (eBool (decide (t13.2 = (0 : Int)))) (Calm.int rfl rfl rfl rfl) ?_
        refine AO.nil (ρ' := [(1, (eStr p1)), (2, (.ptr n3 0)), (7, (.own n7 0 x8.length)), (8, (eI64 x9)), (9, (eI64 t13.1)), (10, (eI64 t13.2)), (26, (eBool (decide (t13.2 = (0 : Int)))))]) (H' := [(n3, .mem (e26 p0)), (n7, .mem (.ar 3 (x8.map e61)))]) ⟨rfl, rfl, rfl, rfl, rfl, rfl, rfl, trivial⟩ (Sub.refl _) ?_
        by_cases hc14 : t13.2 = (0 : Int)
        · have h := (if_pos hc14).symm.trans h
          refine AW.condP (t13.2 = (0 : Int)) rfl hc14 ?_
          refine AW.seq ?_
          refine AW.reg ?_
          refine AO.calm rfl 27 rfl (by decide) (.own n7 0 x8.length) (Calm.move rfl rfl) ?_
          refine AO.calm rfl 28 rfl (by decide) (eI64 x9) (Calm.move rfl rfl) ?_
          refine AO.calm rfl 4 rfl (by decide) (.own n7 0 x8.length) (Calm.assign rfl rfl) ?_
          refine AO.calm rfl 5 rfl (by decide) (eI64 x9) (Calm.assign rfl rfl) ?_
          refine AO.calm rfl 6 rfl (by decide) (eI64 (7 : Int)) (Calm.assign rfl rfl) ?_
          refine AO.nil (ρ' := [(4, (.own n7 0 x8.length)), (5, (eI64 x9)), (6, (eI64 (7 : Int)))]) (H' := [(n7, .mem (.ar 3 (x8.map e61)))]) ⟨rfl, rfl, rfl, trivial⟩ (Sub.cons 1 rfl (Sub.nil _)) ?_
          refine AW.freezeS 0 [(4, (.fz 3 (x8.map e61)))] rfl ⟨fz_all rfl, trivial⟩ ?_
          refine AW.ret (ρ' := [(4, (.fz 3 (x8.map e61))), (5, (eI64 x9)), (6, (eI64 (7 : Int)))]) (H' := []) ⟨rfl, rfl, rfl, trivial⟩ (Sub.refl _) ?_
          have hr := Option.some.inj h
          subst hr
          exact ⟨[(.fz 3 (x8.map e61)), (eI64 x9), (eI64 (7 : Int))], ⟨rfl, rfl, rfl, rfl, rfl, rfl, trivial⟩, rfl⟩
        · have h := (if_neg hc14).symm.trans h
          refine AW.condN (t13.2 = (0 : Int)) rfl hc14 ?_
          refine AW.skip (ρ' := [(1, (eStr p1)), (2, (.ptr n3 0)), (7, (.own n7 0 x8.length)), (8, (eI64 x9)), (9, (eI64 t13.1)), (10, (eI64 t13.2))]) (H' := [(n3, .mem (e26 p0)), (n7, .mem (.ar 3 (x8.map e61)))]) ⟨rfl, rfl, rfl, rfl, rfl, rfl, trivial⟩ (Sub.refl _) ?_
          refine AW.seq ?_
          refine AW.reg ?_
          refine AO.calm rfl 29 rfl (by decide) (.own n7 0 x8.length) (Calm.move rfl rfl) ?_
          refine AO.calm rfl 30 rfl (by decide) (eI64 t13.1) (Calm.move rfl rfl) ?_
          refine AO.calm rfl 31 rfl (by decide) (eStr p1) (Calm.move rfl rfl) ?_
          refine AO.calm rfl 32 rfl (by decide) (eI64 x9) (Calm.move rfl rfl) ?_
          refine AO.calm rfl 33 rfl (by decide) (eI64 x9) (Calm.move rfl rfl) ?_
          refine AO.calm rfl 34 rfl (by decide) (eI64 t13.2) (Calm.move rfl rfl) ?_
          refine AO.calm rfl 35 rfl (by decide) (eI64 (w64 (x9 + t13.2))) (Calm.int rfl rfl rfl rfl) ?_
          obtain ⟨hg15, h⟩ := of_guard h
          refine AO.calm rfl 36 rfl (by decide) (eStr (p1.extract x9.toNat (w64 (x9 + t13.2)).toNat)) (Calm.sliceS rfl rfl rfl rfl hg15 Try.underlying9) ?_
          refine AO.calm rfl 37 rfl (by decide) (eI64 x9) (Calm.move rfl rfl) ?_
          refine AO.calm rfl 38 rfl (by decide) (.st [(1, (eI64 t13.1)), (1, (eStr (p1.extract x9.toNat (w64 (x9 + t13.2)).toNat))), (1, (eI64 x9))]) (Calm.build (qs := [(0, (eI64 t13.1)), (1, (eStr (p1.extract x9.toNat (w64 (x9 + t13.2)).toNat))), (2, (eI64 x9))]) rfl ⟨rfl, rfl, rfl, rfl, rfl, rfl, rfl, rfl, rfl, trivial⟩ Try.underlying61 rfl zr61 lay61 (.cons rfl rfl rfl rfl (Put.cast (Put.fld0 Put.here) rfl) (.cons rfl rfl rfl rfl (Put.cast (Put.fldS (Put.fld0 Put.here)) rfl) (.cons rfl rfl rfl rfl (Put.cast (Put.fldS (Put.fldS (Put.fld0 Put.here))) rfl) .nil))) rfl) ?_
          refine AO.lit (Z := (.st [(1, (eI64 (0 : Int))), (1, (eStr ByteArray.empty)), (1, (eI64 (0 : Int)))])) (xs := (([(S61.mk t13.1 (p1.extract x9.toNat (w64 (x9 + t13.2)).toNat) x9)] : List S61).map e61)) (qs := [(0, (e61 (S61.mk t13.1 (p1.extract x9.toNat (w64 (x9 + t13.2)).toNat) x9)))]) rfl 39 rfl (by decide) rfl ⟨rfl, rfl, rfl, trivial⟩ Try.underlying55 sz61 zr61 lay61 rfl (by decide) (litOK (z := 3) [(e61 (S61.mk t13.1 (p1.extract x9.toNat (w64 (x9 + t13.2)).toNat) x9))] rfl ⟨⟨rfl, rfl⟩, trivial⟩) rfl fun n16 => ?_
          obtain ⟨hg18, h⟩ := of_guard h
          refine AO.appendL (l := x8) (m := ([(S61.mk t13.1 (p1.extract x9.toNat (w64 (x9 + t13.2)).toNat) x9)] : List S61)) 2 40 rfl (by decide) rfl rfl rfl rfl rfl (Src.ownL (f := e61) (l := ([(S61.mk t13.1 (p1.extract x9.toNat (w64 (x9 + t13.2)).toNat) x9)] : List S61)) 0 rfl) Try.underlying55 Try.underlying55 sz61 by61 zr61 rfl hg18 (by decide) fun n17 => ?_
          refine AO.calm rfl 7 rfl (by decide) (.own n17 0 (x8 ++ ([(S61.mk t13.1 (p1.extract x9.toNat (w64 (x9 + t13.2)).toNat) x9)] : List S61)).length) (Calm.assign rfl rfl) ?_
          refine AO.nil (ρ' := [(1, (eStr p1)), (2, (.ptr n3 0)), (7, (.own n17 0 (x8 ++ ([(S61.mk t13.1 (p1.extract x9.toNat (w64 (x9 + t13.2)).toNat) x9)] : List S61)).length)), (8, (eI64 x9)), (10, (eI64 t13.2))]) (H' := [(n3, .mem (e26 p0)), (n17, .mem (.ar 3 ((x8 ++ ([(S61.mk t13.1 (p1.extract x9.toNat (w64 (x9 + t13.2)).toNat) x9)] : List S61)).map e61)))]) ⟨rfl, rfl, rfl, rfl, rfl, trivial⟩ (Sub.cons 1 rfl (Sub.cons 1 rfl (Sub.nil _))) ?_
          refine AW.reg ?_
          refine AO.calm rfl 41 rfl (by decide) (eI64 x9) (Calm.move rfl rfl) ?_
          refine AO.calm rfl 42 rfl (by decide) (eI64 t13.2) (Calm.move rfl rfl) ?_
          refine AO.calm rfl 43 rfl (by decide) (eI64 (w64 (x9 + t13.2))) (Calm.int rfl rfl rfl rfl) ?_
          refine AO.calm rfl 8 rfl (by decide) (eI64 (w64 (x9 + t13.2))) (Calm.assign rfl rfl) ?_
          refine AO.nil (ρ' := [(1, (eStr p1)), (2, (.ptr n3 0)), (7, (.own n17 0 (x8 ++ ([(S61.mk t13.1 (p1.extract x9.toNat (w64 (x9 + t13.2)).toNat) x9)] : List S61)).length)), (8, (eI64 (w64 (x9 + t13.2))))]) (H' := [(n3, .mem (e26 p0)), (n17, .mem (.ar 3 ((x8 ++ ([(S61.mk t13.1 (p1.extract x9.toNat (w64 (x9 + t13.2)).toNat) x9)] : List S61)).map e61)))]) ⟨rfl, rfl, rfl, rfl, trivial⟩ (Sub.refl _) ?_
          exact ⟨kq11, Nat.lt_succ_self _, n17, (x8 ++ ([(S61.mk t13.1 (p1.extract x9.toNat (w64 (x9 + t13.2)).toNat) x9)] : List S61)), (w64 (x9 + t13.2)), rfl, rfl, by rw [hrec10]; exact h⟩
      · have h := (if_neg hc12).symm.trans h
        refine AW.condN (x9 < (p1.size : Int)) rfl hc12 ?_
        refine AW.exit (ρ' := [(1, (eStr p1)), (7, (.own n7 0 x8.length))]) (H' := [(n7, .mem (.ar 3 (x8.map e61)))]) ⟨rfl, rfl, trivial⟩ (Sub.cons 1 rfl (Sub.nil _)) ?_
        exact ⟨n7, x8, rfl, rfl, h⟩
    · rintro _ _ ⟨n5, x6, rfl, rfl, h⟩
      rw [munch_All_c0.eq_1] at h
      refine AW.seq ?_
      refine AW.reg ?_
      refine AO.calm rfl 44 rfl (by decide) (.own n5 0 x6.length) (Calm.move rfl rfl) ?_
      refine AO.calm rfl 45 rfl (by decide) (eStr p1) (Calm.move rfl rfl) ?_
      refine AO.calm rfl 46 rfl (by decide) (eI64 (p1.size : Int)) (Calm.lenStr rfl rfl Try.underlying9) ?_
      refine AO.calm rfl 4 rfl (by decide) (.own n5 0 x6.length) (Calm.assign rfl rfl) ?_
      refine AO.calm rfl 5 rfl (by decide) (eI64 (p1.size : Int)) (Calm.assign rfl rfl) ?_
      refine AO.calm rfl 6 rfl (by decide) (eI64 (0 : Int)) (Calm.assign rfl rfl) ?_
      refine AO.nil (ρ' := [(4, (.own n5 0 x6.length)), (5, (eI64 (p1.size : Int))), (6, (eI64 (0 : Int)))]) (H' := [(n5, .mem (.ar 3 (x6.map e61)))]) ⟨rfl, rfl, rfl, trivial⟩ (Sub.refl _) ?_
      refine AW.freezeS 0 [(4, (.fz 3 (x6.map e61)))] rfl ⟨fz_all rfl, trivial⟩ ?_
      refine AW.ret (ρ' := [(4, (.fz 3 (x6.map e61))), (5, (eI64 (p1.size : Int))), (6, (eI64 (0 : Int)))]) (H' := []) ⟨rfl, rfl, rfl, trivial⟩ (Sub.refl _) ?_
      have hr := Option.some.inj h
      subst hr
      exact ⟨[(.fz 3 (x6.map e61)), (eI64 (p1.size : Int)), (eI64 (0 : Int))], ⟨rfl, rfl, rfl, rfl, rfl, rfl, trivial⟩, rfl⟩
end Go.Avl.T1
