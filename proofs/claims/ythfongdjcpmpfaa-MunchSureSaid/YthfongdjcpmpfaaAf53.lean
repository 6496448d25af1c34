/- bosket/bosketref08.gapless; printed by avmain.py. -/
import Derived.Test.YthfongdjcpmpfaaAB
import Derived.Test.YthfongdjcpmpfaaAf54
namespace Go.Avl.T1
open Go Go.RowKit Go.Proofs Go.Avl
set_option linter.unusedVariables false
set_option maxRecDepth 100000
set_option maxHeartbeats 4000000
attribute [local irreducible] AW AO AQ Spec SpecH Calm

def bosketref08_gapless_c0 (k : Nat) : Option Bool :=
  some (true)
def bosketref08_gapless_c1 (k : Nat) (rec4 : (Int → Option Bool)) (x3 : Int) : Option Bool :=
  rec4 (w64 (x3 + (1 : Int)))
def bosketref08_gapless_c2 (k : Nat) (rec4 : (Int → Option Bool)) (x3 : Int) (b8 : Bool) : Option Bool :=
  if (!b8) = true then some (false)
  else bosketref08_gapless_c1 k rec4 x3
def bosketref08_gapless_l3 (k : Nat) (rec4 : (Int → Option Bool)) (p0 : S26) (x3 : Int) : Nat → Bool → Int → Option Bool
  | 0, _, _ => none
  | j + 1, b10, x11 =>
    if x11 < (256 : Int) then Option.bind (α := Bool) (if b10 = true then some (true)
    else if 0 ≤ x11 ∧ x11 < (256 : Int) then some (decide ((w64 (vget p0.f0 x11)) = x3))
    else none) fun b15 =>
    (bosketref08_gapless_l3 k rec4 p0 x3 j) b15 (w64 (x11 + (1 : Int)))
    else bosketref08_gapless_c2 k rec4 x3 b10
def bosketref08_gapless_l4 (k : Nat) (p0 : S26) : Nat → Int → Option Bool
  | 0, _ => none
  | j + 1, x3 =>
    (bosketref08_classes k p0).bind fun t6 =>
    if x3 < t6 then bosketref08_gapless_l3 k (bosketref08_gapless_l4 k p0 j) p0 x3 k false (0 : Int)
    else bosketref08_gapless_c0 k
def bosketref08_gapless (k : Nat) (p0 : S26) : Option Bool :=
  bosketref08_gapless_l4 k p0 k (0 : Int)
theorem bosketref08_gapless_spec {k : Nat} {p0 : S26} {r : Bool} (h : bosketref08_gapless k p0 = some r) : Spec Try.prog 53 [(e26 p0)] (eBool r) := by
  rw [bosketref08_gapless.eq_1] at h
  refine Spec.intro (res := [.tmp 2]) Try.func53 rfl rfl rfl (Nat.le_of_ble_eq_true rfl) ?_
  refine AW.seq ?_
  refine AW.reg ?_
  refine AO.box rfl 1 rfl (by decide) rfl rfl rfl fun n2 => ?_
  refine AO.calm rfl 2 rfl (by decide) (eBool false) (Calm.assign rfl rfl) ?_
  refine AO.nil (ρ' := [(1, (.ptr n2 0))]) (H' := [(n2, .mem (e26 p0))]) ⟨rfl, trivial⟩ (Sub.refl _) ?_
  refine AW.seq_mid (fun ρ H => ρ = [] ∧ H = [] ∧ bosketref08_gapless_c0 k = some r) ?_ ?_
  · refine AW.seq ?_
    refine AW.reg ?_
    refine AO.calm rfl 3 rfl (by decide) (eI64 (0 : Int)) (Calm.assign rfl rfl) ?_
    refine AO.nil (ρ' := [(1, (.ptr n2 0)), (3, (eI64 (0 : Int)))]) (H' := [(n2, .mem (e26 p0))]) ⟨rfl, rfl, trivial⟩ (Sub.refl _) ?_
    refine AW.block ?_
    refine AW.weak (ρ' := [(1, (.ptr n2 0)), (3, (eI64 (0 : Int)))]) (H' := [(n2, .mem (e26 p0))]) ⟨rfl, rfl, trivial⟩ (Sub.refl _) ?_
    refine AW.loop (fun kq ρ H => ∃ (x3 : Int), ρ = [(1, (.ptr n2 0)), (3, (eI64 x3))] ∧ H = [(n2, .mem (e26 p0))] ∧ bosketref08_gapless_l4 k p0 kq x3 = some r) k ⟨(0 : Int), rfl, rfl, h⟩ ?_
    rintro kq5 _ _ ⟨x3, rfl, rfl, h⟩
    cases kq5 with
    | zero => rw [bosketref08_gapless_l4.eq_1] at h; cases h
    | succ kq5 =>
    rw [bosketref08_gapless_l4.eq_2] at h
    generalize hrec4 : bosketref08_gapless_l4 k p0 kq5 = rec4 at h
    refine AW.seq ?_
    refine AW.seq ?_
    refine AW.reg ?_
    refine AO.calm rfl 6 rfl (by decide) (eI64 x3) (Calm.move rfl rfl) ?_
    refine AO.calm rfl 7 rfl (by decide) (e26 p0) (Calm.load 0 rfl rfl rfl (At.cast At.here rfl) ag26 sz26) ?_
    obtain ⟨t6, et6, h⟩ := of_bind h
    refine AO.callS [(e26 p0)] (eI64 t6) 8 rfl (by decide) ok54 rfl rfl rfl ⟨rfl, rfl, trivial⟩ (bosketref08_classes_spec et6) ?_
    refine AO.calm rfl 9 rfl (by decide) (eBool (decide (x3 < t6))) (Calm.int rfl rfl rfl rfl) ?_
    refine AO.nil (ρ' := [(1, (.ptr n2 0)), (3, (eI64 x3)), (9, (eBool (decide (x3 < t6))))]) (H' := [(n2, .mem (e26 p0))]) ⟨rfl, rfl, rfl, trivial⟩ (Sub.refl _) ?_
    by_cases hc7 : x3 < t6
    · have h := (if_pos hc7).symm.trans h
      refine AW.condP (x3 < t6) rfl hc7 ?_
      refine AW.skip (ρ' := [(1, (.ptr n2 0)), (3, (eI64 x3))]) (H' := [(n2, .mem (e26 p0))]) ⟨rfl, rfl, trivial⟩ (Sub.refl _) ?_
      refine AW.seq_mid (fun ρ H => ρ = [(1, (.ptr n2 0)), (3, (eI64 x3))] ∧ H = [(n2, .mem (e26 p0))] ∧ bosketref08_gapless_c1 k rec4 x3 = some r) ?_ ?_
      · refine AW.block ?_
        refine AW.seq ?_
        refine AW.reg ?_
        refine AO.calm rfl 4 rfl (by decide) (eBool false) (Calm.assign rfl rfl) ?_
        refine AO.nil (ρ' := [(1, (.ptr n2 0)), (3, (eI64 x3)), (4, (eBool false))]) (H' := [(n2, .mem (e26 p0))]) ⟨rfl, rfl, rfl, trivial⟩ (Sub.refl _) ?_
        refine AW.seq_mid (fun ρ H => ∃ (b8 : Bool), ρ = [(1, (.ptr n2 0)), (3, (eI64 x3)), (4, (eBool b8))] ∧ H = [(n2, .mem (e26 p0))] ∧ bosketref08_gapless_c2 k rec4 x3 b8 = some r) ?_ ?_
        · refine AW.seq ?_
          refine AW.reg ?_
          refine AO.calm rfl 5 rfl (by decide) (eI64 (0 : Int)) (Calm.assign rfl rfl) ?_
          refine AO.nil (ρ' := [(1, (.ptr n2 0)), (3, (eI64 x3)), (4, (eBool false)), (5, (eI64 (0 : Int)))]) (H' := [(n2, .mem (e26 p0))]) ⟨rfl, rfl, rfl, rfl, trivial⟩ (Sub.refl _) ?_
          refine AW.block ?_
          refine AW.weak (ρ' := [(1, (.ptr n2 0)), (3, (eI64 x3)), (4, (eBool false)), (5, (eI64 (0 : Int)))]) (H' := [(n2, .mem (e26 p0))]) ⟨rfl, rfl, rfl, rfl, trivial⟩ (Sub.refl _) ?_
          refine AW.loop (fun kq ρ H => ∃ (b10 : Bool) (x11 : Int), ρ = [(1, (.ptr n2 0)), (3, (eI64 x3)), (4, (eBool b10)), (5, (eI64 x11))] ∧ H = [(n2, .mem (e26 p0))] ∧ bosketref08_gapless_l3 k rec4 p0 x3 kq b10 x11 = some r) k ⟨false, (0 : Int), rfl, rfl, h⟩ ?_
          rintro kq13 _ _ ⟨b10, x11, rfl, rfl, h⟩
          cases kq13 with
          | zero => rw [bosketref08_gapless_l3.eq_1] at h; cases h
          | succ kq13 =>
          rw [bosketref08_gapless_l3.eq_2] at h
          generalize hrec12 : bosketref08_gapless_l3 k rec4 p0 x3 kq13 = rec12 at h
          refine AW.seq ?_
          refine AW.seq ?_
          refine AW.reg ?_
          refine AO.calm rfl 12 rfl (by decide) (eI64 x11) (Calm.move rfl rfl) ?_
          refine AO.calm rfl 13 rfl (by decide) (eBool (decide (x11 < (256 : Int)))) (Calm.int rfl rfl rfl rfl) ?_
          refine AO.nil (ρ' := [(1, (.ptr n2 0)), (3, (eI64 x3)), (4, (eBool b10)), (5, (eI64 x11)), (13, (eBool (decide (x11 < (256 : Int)))))]) (H' := [(n2, .mem (e26 p0))]) ⟨rfl, rfl, rfl, rfl, rfl, trivial⟩ (Sub.refl _) ?_
          by_cases hc14 : x11 < (256 : Int)
          · have h := (if_pos hc14).symm.trans h
            refine AW.condP (x11 < (256 : Int)) rfl hc14 ?_
            refine AW.skip (ρ' := [(1, (.ptr n2 0)), (3, (eI64 x3)), (4, (eBool b10)), (5, (eI64 x11))]) (H' := [(n2, .mem (e26 p0))]) ⟨rfl, rfl, rfl, rfl, trivial⟩ (Sub.refl _) ?_
            refine AW.seq ?_
            refine AW.block ?_
            obtain ⟨b15, hq16, h⟩ := of_bind h
            refine AW.regM [(1, (.ptr n2 0)), (3, (eI64 x3)), (4, (eBool b15)), (5, (eI64 x11))] [(n2, .mem (e26 p0))] ?_ ?_
            · refine AO.calm rfl 16 rfl (by decide) (eBool b10) (Calm.move rfl rfl) ?_
              refine AO.calm rfl 17 rfl (by decide) (eBool b10) (Calm.move rfl rfl) ?_
              by_cases hc17 : b10 = true
              · have hq16 := (if_pos hc17).symm.trans hq16
                refine AO.skipG 1 true 17 rfl rfl (congrArg (fun b => some (AV.fl (Value.bool b))) hc17) 18 rfl (by decide) ?_
                refine AO.skipG 1 true 17 rfl rfl (congrArg (fun b => some (AV.fl (Value.bool b))) hc17) 19 rfl (by decide) ?_
                refine AO.skipG 1 true 17 rfl rfl (congrArg (fun b => some (AV.fl (Value.bool b))) hc17) 20 rfl (by decide) ?_
                refine AO.skipG 1 true 17 rfl rfl (congrArg (fun b => some (AV.fl (Value.bool b))) hc17) 21 rfl (by decide) ?_
                refine AO.skipG 1 true 17 rfl rfl (congrArg (fun b => some (AV.fl (Value.bool b))) hc17) 22 rfl (by decide) ?_
                refine AO.skipG 1 true 17 rfl rfl (congrArg (fun b => some (AV.fl (Value.bool b))) hc17) 23 rfl (by decide) ?_
                refine AO.skipG 1 true 17 rfl rfl (congrArg (fun b => some (AV.fl (Value.bool b))) hc17) 24 rfl (by decide) ?_
                refine AO.calm rfl 25 rfl (by decide) (eBool true) (Calm.pickT rfl (congrArg (fun b => some (AV.fl (Value.bool b))) hc17) rfl) ?_
                refine AO.calm rfl 4 rfl (by decide) (eBool true) (Calm.assign rfl rfl) ?_
                cases hq16
                refine AO.nilE ⟨rfl, rfl⟩ ?_ ?_
                · exact ⟨rfl, rfl, rfl, rfl, trivial⟩
                · exact (Sub.refl _)
              · have hq16 := (if_neg hc17).symm.trans hq16
                refine AO.calmG 1 false 17 rfl rfl (congrArg (fun b => some (AV.fl (Value.bool b))) (eq_false_of_ne_true hc17)) 18 rfl (by decide) (eI64 x11) (Calm.move rfl rfl) ?_
                refine AO.calmG 1 false 17 rfl rfl (congrArg (fun b => some (AV.fl (Value.bool b))) (eq_false_of_ne_true hc17)) 19 rfl (by decide) (.ptr n2 0) (Calm.fldPtr rfl rfl Try.underlying26 rfl sz22 _ rfl) ?_
                obtain ⟨hg18, hq16⟩ := of_guard hq16
                refine AO.calmG 1 false 17 rfl rfl (congrArg (fun b => some (AV.fl (Value.bool b))) (eq_false_of_ne_true hc17)) 20 rfl (by decide) (.ptr n2 (0 + x11.toNat * 1)) (Calm.idxP rfl rfl rfl hg18 Try.underlying22 sz5) ?_
                refine AO.calmG 1 false 17 rfl rfl (congrArg (fun b => some (AV.fl (Value.bool b))) (eq_false_of_ne_true hc17)) 21 rfl (by decide) (eU8 (vget p0.f0 x11)) (Calm.load 0 rfl rfl rfl (At.cast (At.fld0 (At.vidx x11 hg18.1 hg18.2 At.here)) (by omega)) ag5 sz5) ?_
                refine AO.calmG 1 false 17 rfl rfl (congrArg (fun b => some (AV.fl (Value.bool b))) (eq_false_of_ne_true hc17)) 22 rfl (by decide) (eI64 (w64 (vget p0.f0 x11))) (Calm.conv rfl rfl Try.underlying5 Try.underlying3) ?_
                refine AO.calmG 1 false 17 rfl rfl (congrArg (fun b => some (AV.fl (Value.bool b))) (eq_false_of_ne_true hc17)) 23 rfl (by decide) (eI64 x3) (Calm.move rfl rfl) ?_
                refine AO.calmG 1 false 17 rfl rfl (congrArg (fun b => some (AV.fl (Value.bool b))) (eq_false_of_ne_true hc17)) 24 rfl (by decide) (eBool (decide ((w64 (vget p0.f0 x11)) = x3))) (Calm.int rfl rfl rfl rfl) ?_
                refine AO.calm rfl 25 rfl (by decide) (eBool (decide ((w64 (vget p0.f0 x11)) = x3))) (Calm.pickF rfl (congrArg (fun b => some (AV.fl (Value.bool b))) (eq_false_of_ne_true hc17)) rfl) ?_
                refine AO.calm rfl 4 rfl (by decide) (eBool (decide ((w64 (vget p0.f0 x11)) = x3))) (Calm.assign rfl rfl) ?_
                cases hq16
                refine AO.nilE ⟨rfl, rfl⟩ ?_ ?_
                · exact ⟨rfl, rfl, rfl, rfl, trivial⟩
                · exact (Sub.refl _)
            · refine AW.reg ?_
              refine AO.calm rfl 14 rfl (by decide) (eI64 x11) (Calm.move rfl rfl) ?_
              refine AO.calm rfl 15 rfl (by decide) (eI64 (w64 (x11 + (1 : Int)))) (Calm.int rfl rfl rfl rfl) ?_
              refine AO.calm rfl 5 rfl (by decide) (eI64 (w64 (x11 + (1 : Int)))) (Calm.assign rfl rfl) ?_
              refine AO.nil (ρ' := [(1, (.ptr n2 0)), (3, (eI64 x3)), (4, (eBool b15)), (5, (eI64 (w64 (x11 + (1 : Int)))))]) (H' := [(n2, .mem (e26 p0))]) ⟨rfl, rfl, rfl, rfl, trivial⟩ (Sub.refl _) ?_
              exact ⟨kq13, Nat.lt_succ_self _, b15, (w64 (x11 + (1 : Int))), rfl, rfl, by rw [hrec12]; exact h⟩
          · have h := (if_neg hc14).symm.trans h
            refine AW.condN (x11 < (256 : Int)) rfl hc14 ?_
            refine AW.exit (ρ' := [(1, (.ptr n2 0)), (3, (eI64 x3)), (4, (eBool b10))]) (H' := [(n2, .mem (e26 p0))]) ⟨rfl, rfl, rfl, trivial⟩ (Sub.refl _) ?_
            exact ⟨b10, rfl, rfl, h⟩
        · rintro _ _ ⟨b8, rfl, rfl, h⟩
          rw [bosketref08_gapless_c2.eq_1] at h
          refine AW.seq ?_
          refine AW.reg ?_
          refine AO.calm rfl 26 rfl (by decide) (eBool b8) (Calm.move rfl rfl) ?_
          refine AO.calm rfl 27 rfl (by decide) (eBool (!b8)) (Calm.not rfl rfl) ?_
          refine AO.nil (ρ' := [(1, (.ptr n2 0)), (3, (eI64 x3)), (27, (eBool (!b8)))]) (H' := [(n2, .mem (e26 p0))]) ⟨rfl, rfl, rfl, trivial⟩ (Sub.refl _) ?_
          by_cases hc9 : (!b8) = true
          · have h := (if_pos hc9).symm.trans h
            refine AW.condT' (!b8) rfl hc9 ?_
            refine AW.seq ?_
            refine AW.reg ?_
            refine AO.calm rfl 2 rfl (by decide) (eBool false) (Calm.assign rfl rfl) ?_
            refine AO.nil (ρ' := [(2, (eBool false))]) (H' := []) ⟨rfl, trivial⟩ (Sub.nil _) ?_
            refine AW.ret (ρ' := [(2, (eBool false))]) (H' := []) ⟨rfl, trivial⟩ (Sub.refl _) ?_
            have hr := Option.some.inj h
            subst hr
            exact ⟨[(eBool false)], ⟨rfl, rfl, trivial⟩, rfl⟩
          · have h := (if_neg hc9).symm.trans h
            refine AW.condF' (!b8) rfl hc9 ?_
            refine AW.skip (ρ' := [(1, (.ptr n2 0)), (3, (eI64 x3))]) (H' := [(n2, .mem (e26 p0))]) ⟨rfl, rfl, trivial⟩ (Sub.refl _) ?_
            exact ⟨rfl, rfl, h⟩
      · rintro _ _ ⟨rfl, rfl, h⟩
        rw [bosketref08_gapless_c1.eq_1] at h
        refine AW.reg ?_
        refine AO.calm rfl 10 rfl (by decide) (eI64 x3) (Calm.move rfl rfl) ?_
        refine AO.calm rfl 11 rfl (by decide) (eI64 (w64 (x3 + (1 : Int)))) (Calm.int rfl rfl rfl rfl) ?_
        refine AO.calm rfl 3 rfl (by decide) (eI64 (w64 (x3 + (1 : Int)))) (Calm.assign rfl rfl) ?_
        refine AO.nil (ρ' := [(1, (.ptr n2 0)), (3, (eI64 (w64 (x3 + (1 : Int)))))]) (H' := [(n2, .mem (e26 p0))]) ⟨rfl, rfl, trivial⟩ (Sub.refl _) ?_
        exact ⟨kq5, Nat.lt_succ_self _, (w64 (x3 + (1 : Int))), rfl, rfl, by rw [hrec4]; exact h⟩
    · have h := (if_neg hc7).symm.trans h
      refine AW.condN (x3 < t6) rfl hc7 ?_
      refine AW.exit (ρ' := []) (H' := []) trivial (Sub.nil _) ?_
      exact ⟨rfl, rfl, h⟩
  · rintro _ _ ⟨rfl, rfl, h⟩
    rw [bosketref08_gapless_c0.eq_1] at h
    refine AW.seq ?_
    refine AW.reg ?_
    refine AO.calm rfl 2 rfl (by decide) (eBool true) (Calm.assign rfl rfl) ?_
    refine AO.nil (ρ' := [(2, (eBool true))]) (H' := []) ⟨rfl, trivial⟩ (Sub.refl _) ?_
    refine AW.ret (ρ' := [(2, (eBool true))]) (H' := []) ⟨rfl, trivial⟩ (Sub.refl _) ?_
    have hr := Option.some.inj h
    subst hr
    exact ⟨[(eBool true)], ⟨rfl, rfl, trivial⟩, rfl⟩
end Go.Avl.T1
