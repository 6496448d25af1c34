/- Parts: T7f110, T7f111, T7f84, T7f86, T7f65, T7f36, T7f68, T7f40, T7f41, T7f42, T7f8, T7f27, T7f46, T7f47, T7f71, T7f72, T7f49, T7f48, T7f51, T7f50, T7f12, T7f53, T7f52, T7f13, T7f10, T7f18, T7f21, T7f54, T7f70, T7f43, T7f16, T7f22, T7f44, T7f45, T7f11, T7f9. -/
import Derived.Test.YtpkgpmmcbpfenaaAF1
import Derived.Test.YtpkgpmmcbpfenaaAF7
import Derived.Test.YtpkgpmmcbpfenaaAF6
import Derived.Test.YtpkgpmmcbpfenaaAF4
namespace Go.Avl.T7
open Go Go.RowKit Go.Proofs Go.Avl
set_option linter.unusedVariables false
set_option maxRecDepth 100000
set_option maxHeartbeats 4000000
attribute [local irreducible] AW AO AQ Spec SpecH Calm
def F110 (k : Nat) (p0 : Int) : Option Int :=
  Option.bind (α := Bool) (if p0 < (0 : Int) then some (true)
  else some (decide ((6 : Int) < p0))) fun b3 =>
  if b3 = true then some ((-1 : Int))
  else if 0 ≤ p0 ∧ p0 < (([(0 : Int), (0 : Int), (2 : Int), (2 : Int), (1 : Int), (1 : Int), (1 : Int)] : List Int).length : Int) then (some (lget ([(0 : Int), (0 : Int), (2 : Int), (2 : Int), (1 : Int), (1 : Int), (1 : Int)] : List Int) p0)).bind fun x8 =>
  some (x8)
  else none
theorem F110_spec {k : Nat} {p0 : Int} {r : Int} (h : F110 k p0 = some r) : Spec Try.prog 110 [(eI64 p0)] (eI64 r) := by
  rw [F110.eq_1] at h
  refine Spec.intro (res := [.tmp 2]) Try.func110 rfl rfl rfl (Nat.le_of_ble_eq_true rfl) ?_
  refine .a 6 ?_
  refine .lit (Z := (eI64 (0 : Int))) (xs := (([(0 : Int), (0 : Int), (2 : Int), (2 : Int), (1 : Int), (1 : Int), (1 : Int)] : List Int).map eI64)) (qs := [(0, (eI64 (0 : Int))), (1, (eI64 (0 : Int))), (2, (eI64 (2 : Int))), (3, (eI64 (2 : Int))), (4, (eI64 (1 : Int))), (5, (eI64 (1 : Int))), (6, (eI64 (1 : Int)))]) rfl 4 rfl (by decide) rfl ⟨rfl, rfl, rfl, rfl, rfl, rfl, rfl, rfl, rfl, rfl, rfl, rfl, rfl, rfl, rfl, rfl, rfl, rfl, rfl, rfl, rfl, trivial⟩ Try.underlying35 sz3 zr3 lay3 rfl (by decide) (litOK (z := 1) [(eI64 (0 : Int)), (eI64 (0 : Int)), (eI64 (2 : Int)), (eI64 (2 : Int)), (eI64 (1 : Int)), (eI64 (1 : Int)), (eI64 (1 : Int))] rfl ⟨⟨rfl, rfl⟩, ⟨rfl, rfl⟩, ⟨rfl, rfl⟩, ⟨rfl, rfl⟩, ⟨rfl, rfl⟩, ⟨rfl, rfl⟩, ⟨rfl, rfl⟩, trivial⟩) rfl fun n2 => ?_
  refine .a 4 ?_
  obtain ⟨b3, q4, h⟩ := ob h
  refine .regM [(0, (eI64 p0)), (3, (Z28 n2 ([(0 : Int), (0 : Int), (2 : Int), (2 : Int), (1 : Int), (1 : Int), (1 : Int)] : List Int).length)), (10, (eBool b3))] [(n2, (Z3 ([(0 : Int), (0 : Int), (2 : Int), (2 : Int), (1 : Int), (1 : Int), (1 : Int)] : List Int)))] ?_ ?_
  ·refine .a 3 ?_
   rcases oi q4 with ⟨c5, q4⟩ | ⟨c5, q4⟩
   ·refine .a 3 ?_
    cases q4
    refine .nilE ⟨rfl, rfl⟩ ?_ ?_
    ·exact ⟨rfl, rfl, rfl, trivial⟩
    exact (.refl _)
   refine .a 3 ?_
   cases q4
   refine .nilE ⟨rfl, rfl⟩ ?_ ?_
   ·exact ⟨rfl, rfl, rfl, trivial⟩
   exact (.refl _)
  rcases oi h with ⟨c6, h⟩ | ⟨c6, h⟩
  ·refine .a 4 ?_
   refine .nS [2] [] ?_
   refine .rK [2] ?_
   cases h
   exact ⟨[(eI64 (-1 : Int))], ⟨rfl, rfl, trivial⟩, rfl⟩
  refine .a 6 ?_
  obtain ⟨g7, h⟩ := of_guard h
  refine .c (.idxO 0 rfl rfl rfl rfl g7 Try.underlying35 sz3) ?_
  refine .c (.load 0 rfl rfl rfl (.cast (.lidx p0 g7.1 g7.2 .here) (by omega)) ag3 sz3) ?_
  obtain ⟨x8, ex8, h⟩ := ob h
  refine .c (.assign rfl (congrArg (fun x => some (eI64 x)) (Option.some.inj ex8))) ?_
  refine .nS [2] [] ?_
  refine .rK [2] ?_
  have hr := Option.some.inj h
  subst hr
  exact ⟨[(eI64 x8)], ⟨rfl, rfl, trivial⟩, rfl⟩
def F111_c0 (k : Nat) : Option Int :=
  some ((0 : Int))
def F111_l1 (k : Nat) (p0 : (List S131)) : Nat → Int → Int → Option Int
  | 0, _, _ => none
  | j + 1, x3, x4 =>
    if (0 : Int) ≤ x4 then if 0 ≤ x4 ∧ x4 < (p0.length : Int) then (F110 k ((lget p0 x4).f0)).bind fun t9 =>
    if (w64 ((w64 (x3 - (1 : Int))) + t9)) = (0 : Int) then some (x4)
    else (F111_l1 k p0 j) (w64 ((w64 (x3 - (1 : Int))) + t9)) (w64 (x4 - (1 : Int)))
    else none
    else F111_c0 k
def F111 (k : Nat) (p0 : (List S131)) (p1 : Int) : Option Int :=
  F111_l1 k p0 k (1 : Int) p1
theorem F111_spec {k : Nat} {p0 : (List S131)} {p1 : Int} {r : Int} (h : F111 k p0 p1 = some r) : Spec Try.prog 111 [(.fz 5 (p0.map e131)), (eI64 p1)] (eI64 r) := by
  rw [F111.eq_1] at h
  refine Spec.intro (res := [.tmp 4]) Try.func111 rfl rfl rfl (Nat.le_of_ble_eq_true rfl) ?_
  refine .a 7 ?_
  refine .nK [0, 1, 5] ?_
  refine .seq_mid (fun ρ H => ρ = [] ∧ H = [] ∧ F111_c0 k = some r) ?_ ?_
  ·refine .a 6 ?_
   refine .wK [0, 5, 6] ?_
   refine .loop (fun kq ρ H => ∃ (x3 : Int) (x4 : Int), ρ = [(0, (.fz 5 (p0.map e131))), (5, (eI64 x3)), (6, (eI64 x4))] ∧ H = [] ∧ F111_l1 k p0 kq x3 x4 = some r) k ⟨(1 : Int), p1, rfl, rfl, h⟩ ?_
   rintro kq6 _ _ ⟨x3, x4, rfl, rfl, h⟩
   cases kq6 with
   | zero => rw [F111_l1.eq_1] at h; cases h
   | succ kq6 =>
   rw [F111_l1.eq_2] at h
   generalize hrec5 : F111_l1 k p0 kq6 = rec5 at h
   refine .a 6 ?_
   rcases oi h with ⟨c7, h⟩ | ⟨c7, h⟩
   ·refine .a 10 ?_
    obtain ⟨g8, h⟩ := of_guard h
    refine .a 1 ?_
    refine .c (.fldRp rfl rfl Try.underlying131 rfl sz3 (.cast (.fld0 .here) rfl)) ?_
    refine .a 1 ?_
    obtain ⟨t9, et9, h⟩ := ob h
    refine .callS [(eI64 ((lget p0 x4).f0))] (eI64 t9) 19 rfl (by decide) ok110 rfl rfl rfl ⟨rfl, rfl, trivial⟩ (F110_spec et9) ?_
    refine .a 8 ?_
    rcases oi h with ⟨c10, h⟩ | ⟨c10, h⟩
    ·refine .a 5 ?_
     refine .nK [4] ?_
     refine .rK [4] ?_
     have hr := Option.some.inj h
     subst hr
     exact ⟨[(eI64 x4)], ⟨rfl, rfl, trivial⟩, rfl⟩
    refine .a 6 ?_
    refine .nK [0, 5, 6] ?_
    exact ⟨kq6, Nat.lt_succ_self _, (w64 ((w64 (x3 - (1 : Int))) + t9)), (w64 (x4 - (1 : Int))), rfl, rfl, by rw [hrec5]; exact h⟩
   refine .a 1 ?_
   refine .eK [] ?_
   exact ⟨rfl, rfl, h⟩
  rintro _ _ ⟨rfl, rfl, h⟩
  rw [F111_c0.eq_1] at h
  refine .a 3 ?_
  refine .nK [4] ?_
  refine .rK [4] ?_
  cases h
  exact ⟨[(eI64 (0 : Int))], ⟨rfl, rfl, trivial⟩, rfl⟩
def F84_c0 (k : Nat) (x3 : (List (List S131))) : Option (List (List S131)) :=
  some (x3)
def F84_l1 (k : Nat) (p0 : (List S131)) : Nat → (List (List S131)) → Int → Int → Option (List (List S131))
  | 0, _, _, _ => none
  | j + 1, x7, x8, x9 =>
    if (0 : Int) < x9 then (F111 k p0 (w64 (x8 - (1 : Int)))).bind fun t13 =>
    if 0 ≤ t13 ∧ t13 ≤ x8 ∧ x8 ≤ (p0.length : Int) then if (([(lcut p0 t13 x8)] : List (List S131)) ++ x7).length * 24 ≤ 140737488355328 then (F84_l1 k p0 j) (([(lcut p0 t13 x8)] : List (List S131)) ++ x7) t13 (w64 (x9 - (1 : Int)))
    else none
    else none
    else F84_c0 k x7
def F84 (k : Nat) (p0 : (List S131)) : Option (List (List S131)) :=
  if 0 ≤ (w64 ((p0.length : Int) - (1 : Int))) ∧ (w64 ((p0.length : Int) - (1 : Int))) < (p0.length : Int) then (F110 k ((lget p0 (w64 ((p0.length : Int) - (1 : Int)))).f0)).bind fun t5 =>
  F84_l1 k p0 k ([] : List (List S131)) (w64 ((p0.length : Int) - (1 : Int))) t5
  else none
theorem F84_spec {k : Nat} {p0 : (List S131)} {r : (List (List S131))} (h : F84 k p0 = some r) : Spec Try.prog 84 [(.fz 5 (p0.map e131))] (e132 r) := by
  rw [F84.eq_1] at h
  refine Spec.intro (res := [.tmp 2]) Try.func84 rfl rfl rfl (Nat.le_of_ble_eq_true rfl) ?_
  refine .a 19 ?_
  refine .nK [0, 3, 4, 5] ?_
  refine .seq_mid (fun ρ H => ∃ (n2 : Nat) (x3 : (List (List S131))), ρ = [(4, (.own n2 0 x3.length))] ∧ H = [(n2, (.mem (.ar 1 (x3.map e68))))] ∧ F84_c0 k x3 = some r) ?_ ?_
  ·refine .a 4 ?_
   obtain ⟨g4, h⟩ := of_guard h
   refine .a 1 ?_
   refine .c (.fldRp rfl rfl Try.underlying131 rfl sz3 (.cast (.fld0 .here) rfl)) ?_
   refine .a 1 ?_
   obtain ⟨t5, et5, h⟩ := ob h
   refine .callS [(eI64 ((lget p0 (w64 ((p0.length : Int) - (1 : Int)))).f0))] (eI64 t5) 17 rfl (by decide) ok110 rfl rfl rfl ⟨rfl, rfl, trivial⟩ (F110_spec et5) ?_
   refine .a 3 ?_
   refine .nilOwn 4 1 rfl fun n18 => ?_
   refine .wK [0, 4, 5, 6] ?_
   refine .loop (fun kq ρ H => ∃ (n6 : Nat) (x7 : (List (List S131))) (x8 : Int) (x9 : Int), ρ = [(0, (.fz 5 (p0.map e131))), (4, (.own n6 0 x7.length)), (5, (eI64 x8)), (6, (eI64 x9))] ∧ H = [(n6, (.mem (.ar 1 (x7.map e68))))] ∧ F84_l1 k p0 kq x7 x8 x9 = some r) k ⟨n18, ([] : List (List S131)), (w64 ((p0.length : Int) - (1 : Int))), t5, rfl, rfl, h⟩ ?_
   rintro kq11 _ _ ⟨n6, x7, x8, x9, rfl, rfl, h⟩
   cases kq11 with
   | zero => rw [F84_l1.eq_1] at h; cases h
   | succ kq11 =>
   rw [F84_l1.eq_2] at h
   generalize hrec10 : F84_l1 k p0 kq11 = rec10 at h
   refine .a 6 ?_
   rcases oi h with ⟨c12, h⟩ | ⟨c12, h⟩
   ·refine .a 9 ?_
    obtain ⟨t13, et13, h⟩ := ob h
    refine .callS [(.fz 5 (p0.map e131)), (eI64 (w64 (x8 - (1 : Int))))] (eI64 t13) 25 rfl (by decide) ok111 rfl rfl rfl ⟨rfl, rfl, rfl, rfl, trivial⟩ (F111_spec et13) ?_
    refine .a 7 ?_
    obtain ⟨g14, h⟩ := of_guard h
    refine .c (x := .fz 5 ((lcut p0 t13 x8).map e131)) (.sliceL rfl rfl rfl rfl g14 Try.underlying68 sz131) ?_
    refine .lit (Z := (.fl (.slice none 0 0))) (xs := (([(lcut p0 t13 x8)] : List (List S131)).map e68)) (qs := [(0, (Z12 (lcut p0 t13 x8)))]) rfl 30 rfl (by decide) rfl ⟨rfl, rfl, rfl, trivial⟩ Try.underlying132 sz68 zr68 lay68 rfl (by decide) (litOK (z := 1) [(Z12 (lcut p0 t13 x8))] rfl ⟨⟨rfl, rfl⟩, trivial⟩) rfl fun n15 => ?_
    refine .a 1 ?_
    obtain ⟨g17, h⟩ := of_guard h
    refine .appendL (l := ([(lcut p0 t13 x8)] : List (List S131))) (m := x7) 0 32 rfl (by decide) rfl rfl rfl rfl rfl (Src.ownL (f := e68) (l := x7) 1 rfl) Try.underlying132 Try.underlying132 sz68 by68 zr68 rfl g17 (by decide) fun n16 => ?_
    refine .a 1 ?_
    refine .nS [0, 4, 6, 7] [0] ?_
    refine .a 8 ?_
    refine .nK [0, 4, 5, 6] ?_
    exact ⟨kq11, Nat.lt_succ_self _, n16, (([(lcut p0 t13 x8)] : List (List S131)) ++ x7), t13, (w64 (x9 - (1 : Int))), rfl, rfl, by rw [hrec10]; exact h⟩
   refine .a 1 ?_
   refine .eK [4] ?_
   exact ⟨n6, x7, rfl, rfl, h⟩
  rintro _ _ ⟨n2, x3, rfl, rfl, h⟩
  rw [F84_c0.eq_1] at h
  refine .a 4 ?_
  refine .nK [2] ?_
  refine .freezeS 0 [(2, (.fz 1 (x3.map e68)))] rfl ⟨fz_all rfl, trivial⟩ ?_
  refine .rK [2] ?_
  have hr := Option.some.inj h
  subst hr
  exact ⟨[(.fz 1 (x3.map e68))], ⟨rfl, rfl, trivial⟩, rfl⟩
def F86_c0 (k : Nat) (x4 : (List Bool)) : Option (List Bool) :=
  some (x4)
def F86_c1 (k : Nat) (rec8 : ((List Bool) → Int → Option (List Bool))) (x7 : Int) (x12 : (List Bool)) : Option (List Bool) :=
  rec8 x12 (w64 (x7 + (1 : Int)))
def F86_l2 (k : Nat) (p0 : (List Bool)) (p1 : (List Bool)) : Nat → (List Bool) → Int → Option (List Bool)
  | 0, _, _ => none
  | j + 1, x6, x7 =>
    if x7 < (p0.length : Int) then if 0 ≤ x7 ∧ x7 < (p0.length : Int) then if (lget p0 x7) = true then if (x6 ++ ([true] : List Bool)).length * 1 ≤ 140737488355328 then F86_c1 k (F86_l2 k p0 p1 j) x7 (x6 ++ ([true] : List Bool))
    else none
    else if 0 ≤ x7 ∧ x7 < (p1.length : Int) then if (x6 ++ ([(lget p1 x7)] : List Bool)).length * 1 ≤ 140737488355328 then F86_c1 k (F86_l2 k p0 p1 j) x7 (x6 ++ ([(lget p1 x7)] : List Bool))
    else none
    else none
    else none
    else F86_c0 k x6
def F86 (k : Nat) (p0 : (List Bool)) (p1 : (List Bool)) : Option (List Bool) :=
  F86_l2 k p0 p1 k ([] : List Bool) (0 : Int)
theorem F86_spec {k : Nat} {p0 : (List Bool)} {p1 : (List Bool)} {r : (List Bool)} (h : F86 k p0 p1 = some r) : Spec Try.prog 86 [(.fz 1 (p0.map eBool)), (.fz 1 (p1.map eBool))] (e98 r) := by
  rw [F86.eq_1] at h
  refine Spec.intro (res := [.tmp 4]) Try.func86 rfl rfl rfl (Nat.le_of_ble_eq_true rfl) ?_
  refine .a 7 ?_
  refine .nK [0, 1, 5] ?_
  refine .seq_mid (fun ρ H => ∃ (n3 : Nat) (x4 : (List Bool)), ρ = [(5, (.own n3 0 x4.length))] ∧ H = [(Z9 n3 x4)] ∧ F86_c0 k x4 = some r) ?_ ?_
  ·refine .a 5 ?_
   refine .nilOwn 5 1 rfl fun n22 => ?_
   refine .wK [0, 1, 5, 6] ?_
   refine .loop (fun kq ρ H => ∃ (n5 : Nat) (x6 : (List Bool)) (x7 : Int), ρ = [(0, (.fz 1 (p0.map eBool))), (1, (.fz 1 (p1.map eBool))), (5, (.own n5 0 x6.length)), (6, (eI64 x7))] ∧ H = [(Z9 n5 x6)] ∧ F86_l2 k p0 p1 kq x6 x7 = some r) k ⟨n22, ([] : List Bool), (0 : Int), rfl, rfl, h⟩ ?_
   rintro kq9 _ _ ⟨n5, x6, x7, rfl, rfl, h⟩
   cases kq9 with
   | zero => rw [F86_l2.eq_1] at h; cases h
   | succ kq9 =>
   rw [F86_l2.eq_2] at h
   generalize hrec8 : F86_l2 k p0 p1 kq9 = rec8 at h
   refine .a 8 ?_
   rcases oi h with ⟨c10, h⟩ | ⟨c10, h⟩
   ·refine .a 1 ?_
    refine .sK [0, 1, 5, 6] ?_
    refine .seq_mid (fun ρ H => ∃ (n11 : Nat) (x12 : (List Bool)), ρ = [(0, (.fz 1 (p0.map eBool))), (1, (.fz 1 (p1.map eBool))), (5, (.own n11 0 x12.length)), (6, (eI64 x7))] ∧ H = [(Z9 n11 x12)] ∧ F86_c1 k rec8 x7 x12 = some r) ?_ ?_
    ·refine .a 5 ?_
     obtain ⟨g13, h⟩ := of_guard h
     refine .a 3 ?_
     rcases oi h with ⟨c14, h⟩ | ⟨c14, h⟩
     ·refine .a 5 ?_
      refine .lit (Z := (eBool false)) (xs := (([true] : List Bool).map eBool)) (qs := [(0, (eBool true))]) rfl 24 rfl (by decide) rfl ⟨rfl, rfl, rfl, trivial⟩ Try.underlying98 sz4 zr4 lay4 rfl (by decide) (litOK (z := 1) [(eBool true)] rfl ⟨⟨rfl, rfl⟩, trivial⟩) rfl fun n15 => ?_
      obtain ⟨g17, h⟩ := of_guard h
      refine .appendL (l := x6) (m := ([true] : List Bool)) 1 25 rfl (by decide) rfl rfl rfl rfl rfl (Src.ownL (f := eBool) (l := ([true] : List Bool)) 0 rfl) Try.underlying98 Try.underlying98 sz4 by4 zr4 rfl g17 (by decide) fun n16 => ?_
      refine .a 1 ?_
      refine .nS [0, 1, 5, 6] [1] ?_
      exact ⟨n16, (x6 ++ ([true] : List Bool)), rfl, rfl, h⟩
     refine .a 2 ?_
     obtain ⟨g18, h⟩ := of_guard h
     refine .a 3 ?_
     refine .lit (Z := (eBool false)) (xs := (([(lget p1 x7)] : List Bool).map eBool)) (qs := [(0, (eBool (lget p1 x7)))]) rfl 24 rfl (by decide) rfl ⟨rfl, rfl, rfl, trivial⟩ Try.underlying98 sz4 zr4 lay4 rfl (by decide) (litOK (z := 1) [(eBool (lget p1 x7))] rfl ⟨⟨rfl, rfl⟩, trivial⟩) rfl fun n19 => ?_
     obtain ⟨g21, h⟩ := of_guard h
     refine .appendL (l := x6) (m := ([(lget p1 x7)] : List Bool)) 1 25 rfl (by decide) rfl rfl rfl rfl rfl (Src.ownL (f := eBool) (l := ([(lget p1 x7)] : List Bool)) 0 rfl) Try.underlying98 Try.underlying98 sz4 by4 zr4 rfl g21 (by decide) fun n20 => ?_
     refine .a 1 ?_
     refine .nS [0, 1, 5, 6] [1] ?_
     exact ⟨n20, (x6 ++ ([(lget p1 x7)] : List Bool)), rfl, rfl, h⟩
    rintro _ _ ⟨n11, x12, rfl, rfl, h⟩
    rw [F86_c1.eq_1] at h
    refine .a 4 ?_
    refine .nK [0, 1, 5, 6] ?_
    exact ⟨kq9, Nat.lt_succ_self _, n11, x12, (w64 (x7 + (1 : Int))), rfl, rfl, by rw [hrec8]; exact h⟩
   refine .a 1 ?_
   refine .eK [5] ?_
   exact ⟨n5, x6, rfl, rfl, h⟩
  rintro _ _ ⟨n3, x4, rfl, rfl, h⟩
  rw [F86_c0.eq_1] at h
  refine .a 4 ?_
  refine .nK [4] ?_
  refine .freezeS 0 [(4, (.fz 1 (x4.map eBool)))] rfl ⟨fz_all rfl, trivial⟩ ?_
  refine .rK [4] ?_
  have hr := Option.some.inj h
  subst hr
  exact ⟨[(.fz 1 (x4.map eBool))], ⟨rfl, rfl, trivial⟩, rfl⟩
end Go.Avl.T7
namespace Go.Avl.T7
open Go Go.RowKit Go.Proofs Go.Avl
set_option linter.unusedVariables false
set_option maxRecDepth 100000
set_option maxHeartbeats 4000000
set_option linter.unusedSimpArgs false
attribute [local irreducible] AW AO AQ Spec SpecH Calm
def F65a_c0 (k : Nat) (self65 : ((List S131) → ByteArray → (List Bool) → Option (List Bool))) (self87 : ((List S131) → ByteArray → (List Bool) → Option (List Bool))) (p0 : (List S131)) (p1 : ByteArray) (p2 : (List Bool)) (t6 : (List (List S131))) : Option (List Bool) :=
  if 0 ≤ (w64 ((p0.length : Int) - (1 : Int))) ∧ (w64 ((p0.length : Int) - (1 : Int))) < (p0.length : Int) then if ((lget p0 (w64 ((p0.length : Int) - (1 : Int)))).f0) = (4 : Int) then if 0 ≤ (0 : Int) ∧ (0 : Int) < (t6.length : Int) then (self87 (lget t6 (0 : Int)) p1 p2).bind fun t10 =>
  some (t10)
  else none
  else if 0 ≤ (0 : Int) ∧ (0 : Int) < (t6.length : Int) then if 0 ≤ (0 : Int) ∧ (0 : Int) < (t6.length : Int) then (self65 (lget t6 (0 : Int)) p1 p2).bind fun t13 =>
  (self87 (lget t6 (0 : Int)) p1 t13).bind fun t14 =>
  some (t14)
  else none
  else none
  else none
def F65a_c1 (k : Nat) (x18 : (List Bool)) : Option (List Bool) :=
  some (x18)
def F65a_c2 (k : Nat) (rec21 : ((List Bool) → Int → Option (List Bool))) (x20 : Int) (x24 : (List Bool)) : Option (List Bool) :=
  rec21 x24 (w64 (x20 + (1 : Int)))
def F65a_l3 (k : Nat) (p0 : (List S131)) (p1 : ByteArray) (p2 : (List Bool)) : Nat → (List Bool) → Int → Option (List Bool)
  | 0, _, _ => none
  | j + 1, x19, x20 =>
    if x20 < (p1.size : Int) then if 0 ≤ x20 ∧ x20 < (p2.length : Int) then if (lget p2 x20) = true then if 0 ≤ (w64 ((p0.length : Int) - (1 : Int))) ∧ (w64 ((p0.length : Int) - (1 : Int))) < (p0.length : Int) then if 0 ≤ x20 ∧ x20 < (p1.size : Int) then (F85 k ((lget p0 (w64 ((p0.length : Int) - (1 : Int)))).f1) (w64 (byteAt p1 x20))).bind fun t29 =>
    if 0 ≤ (w64 (x20 + (1 : Int))) ∧ (w64 (x20 + (1 : Int))) < (x19.length : Int) then F65a_c2 k (F65a_l3 k p0 p1 p2 j) x20 (lset x19 (w64 (x20 + (1 : Int))) t29)
    else none
    else none
    else none
    else if 0 ≤ (w64 (x20 + (1 : Int))) ∧ (w64 (x20 + (1 : Int))) < (x19.length : Int) then F65a_c2 k (F65a_l3 k p0 p1 p2 j) x20 (lset x19 (w64 (x20 + (1 : Int))) false)
    else none
    else none
    else F65a_c1 k x19
def F65b_c0 (k : Nat) (x4 : (List Bool)) : Option (List Bool) :=
  some (x4)
def F65b_c1 (k : Nat) (rec7 : ((List Bool) → Int → Option (List Bool))) (x6 : Int) (x10 : (List Bool)) : Option (List Bool) :=
  rec7 x10 (w64 (x6 + (1 : Int)))
def F65b_c2 (k : Nat) (rec7 : ((List Bool) → Int → Option (List Bool))) (x6 : Int) (t12 : (List Bool)) (b13 : Bool) : Option (List Bool) :=
  if b13 = true then some (t12)
  else F65b_c1 k rec7 x6 t12
def F65b_l3 (k : Nat) (rec7 : ((List Bool) → Int → Option (List Bool))) (x5 : (List Bool)) (x6 : Int) (t12 : (List Bool)) : Nat → Bool → Int → Option (List Bool)
  | 0, _, _ => none
  | j + 1, b15, x16 =>
    if x16 < (t12.length : Int) then Option.bind (α := Bool) (if b15 = true then if 0 ≤ x16 ∧ x16 < (t12.length : Int) then if 0 ≤ x16 ∧ x16 < (x5.length : Int) then some (((lget t12 x16) == (lget x5 x16)))
    else none
    else none
    else some (false)) fun b20 =>
    (F65b_l3 k rec7 x5 x6 t12 j) b20 (w64 (x16 + (1 : Int)))
    else F65b_c2 k rec7 x6 t12 b15
def F65b_l4 (k : Nat) (self65 : ((List S131) → ByteArray → (List Bool) → Option (List Bool))) (p0 : (List S131)) (p1 : ByteArray) : Nat → (List Bool) → Int → Option (List Bool)
  | 0, _, _ => none
  | j + 1, x5, x6 =>
    if x6 ≤ (p1.size : Int) then (self65 p0 p1 x5).bind fun t11 =>
    (F86 k x5 t11).bind fun t12 =>
    F65b_l3 k (F65b_l4 k self65 p0 p1 j) x5 x6 t12 k true (0 : Int)
    else F65b_c0 k x5
mutual
def F65a_r (k : Nat) : Nat → (List S131) → ByteArray → (List Bool) → Option (List Bool)
  | 0, _, _, _ => none
  | j + 1, p0, p1, p2 =>
    if 0 ≤ (p2.length : Int) ∧ (p2.length : Int) * (1 : Int) ≤ 140737488355328 ∧ (p2.length : Int) ≤ 9223372036854775807 then (F84 k p0).bind fun t6 =>
    if 0 ≤ (w64 ((p0.length : Int) - (1 : Int))) ∧ (w64 ((p0.length : Int) - (1 : Int))) < (p0.length : Int) then if ((lget p0 (w64 ((p0.length : Int) - (1 : Int)))).f0) = (0 : Int) then some (p2)
    else if ((lget p0 (w64 ((p0.length : Int) - (1 : Int)))).f0) = (1 : Int) then F65a_l3 k p0 p1 p2 k (List.replicate (p2.length : Int).toNat false) (0 : Int)
    else if ((lget p0 (w64 ((p0.length : Int) - (1 : Int)))).f0) = (2 : Int) then if 0 ≤ (1 : Int) ∧ (1 : Int) < (t6.length : Int) then if 0 ≤ (0 : Int) ∧ (0 : Int) < (t6.length : Int) then ((F65a_r k j) (lget t6 (0 : Int)) p1 p2).bind fun t35 =>
    ((F65a_r k j) (lget t6 (1 : Int)) p1 t35).bind fun t36 =>
    some (t36)
    else none
    else none
    else if ((lget p0 (w64 ((p0.length : Int) - (1 : Int)))).f0) = (3 : Int) then if 0 ≤ (0 : Int) ∧ (0 : Int) < (t6.length : Int) then ((F65a_r k j) (lget t6 (0 : Int)) p1 p2).bind fun t39 =>
    if 0 ≤ (1 : Int) ∧ (1 : Int) < (t6.length : Int) then ((F65a_r k j) (lget t6 (1 : Int)) p1 p2).bind fun t41 =>
    (F86 k t39 t41).bind fun t42 =>
    some (t42)
    else none
    else none
    else if ((lget p0 (w64 ((p0.length : Int) - (1 : Int)))).f0) = (6 : Int) then if 0 ≤ (0 : Int) ∧ (0 : Int) < (t6.length : Int) then ((F65a_r k j) (lget t6 (0 : Int)) p1 p2).bind fun t45 =>
    (F86 k p2 t45).bind fun t46 =>
    some (t46)
    else none
    else F65a_c0 k (F65a_r k j) (F65b_r k j) p0 p1 p2 t6
    else none
    else none
def F65b_r (k : Nat) : Nat → (List S131) → ByteArray → (List Bool) → Option (List Bool)
  | 0, _, _, _ => none
  | j + 1, p0, p1, p2 =>
    F65b_l4 k (F65a_r k j) p0 p1 k p2 (0 : Int)
end
def F65a (k : Nat) (p0 : (List S131)) (p1 : ByteArray) (p2 : (List Bool)) : Option (List Bool) := F65a_r k k p0 p1 p2
theorem F65a_all (k : Nat) : ∀ j : Nat, (∀ (p0 : (List S131)) (p1 : ByteArray) (p2 : (List Bool)) (r : (List Bool)), F65a_r k j p0 p1 p2 = some r → Spec Try.prog 65 [(.fz 5 (p0.map e131)), (eStr p1), (.fz 1 (p2.map eBool))] (e98 r)) ∧ (∀ (p0 : (List S131)) (p1 : ByteArray) (p2 : (List Bool)) (r : (List Bool)), F65b_r k j p0 p1 p2 = some r → Spec Try.prog 87 [(.fz 5 (p0.map e131)), (eStr p1), (.fz 1 (p2.map eBool))] (e98 r)) := by
  intro j
  induction j with
  | zero => exact ⟨(by intro p0 p1 p2 r h; rw [F65a_r.eq_1] at h; cases h), (by intro p0 p1 p2 r h; rw [F65b_r.eq_1] at h; cases h)⟩
  | succ j hself =>
  obtain ⟨hself65, hself87⟩ := hself
  refine ⟨?_, ?_⟩
  ·intro p0 p1 p2 r h
   rw [F65a_r.eq_2] at h
   generalize hsself65 : F65a_r k j = self65 at h hself65
   generalize hsself87 : F65b_r k j = self87 at h hself87
   refine Spec.intro (res := [.tmp 6]) Try.func65 rfl rfl rfl (Nat.le_of_ble_eq_true rfl) ?_
   refine .a 8 ?_
   obtain ⟨g5, h⟩ := of_guard h
   refine .makeL (f := eBool) false rfl 12 rfl (by decide) rfl rfl rfl Try.underlying98 sz4 by4 zr4 lay4 rfl g5 fun n4 => ?_
   refine .a 5 ?_
   obtain ⟨t6, et6, h⟩ := ob h
   refine .callS [(.fz 5 (p0.map e131))] (.fz 1 (t6.map e68)) 14 rfl (by decide) ok84 rfl rfl rfl ⟨rfl, rfl, trivial⟩ (F84_spec et6) ?_
   refine .a 1 ?_
   refine .nK [0, 1, 2, 7, 8] ?_
   refine .seq_mid (fun ρ H => ρ = [(0, (.fz 5 (p0.map e131))), (1, (eStr p1)), (2, (.fz 1 (p2.map eBool))), (8, (.fz 1 (t6.map e68)))] ∧ H = [] ∧ F65a_c0 k self65 self87 p0 p1 p2 t6 = some r) ?_ ?_
   ·refine .a 6 ?_
    obtain ⟨g15, h⟩ := of_guard h
    refine .a 1 ?_
    refine .c (.fldRp rfl rfl Try.underlying131 rfl sz3 (.cast (.fld0 .here) rfl)) ?_
    refine .a 8 ?_
    rcases oi h with ⟨c16, h⟩ | ⟨c16, h⟩
    ·refine .a 5 ?_
     refine .nS [6] [] ?_
     refine .rK [6] ?_
     have hr := Option.some.inj h
     subst hr
     exact ⟨[(.fz 1 (p2.map eBool))], ⟨rfl, rfl, trivial⟩, rfl⟩
    refine .a 6 ?_
    rcases oi h with ⟨c17, h⟩ | ⟨c17, h⟩
    ·refine .a 1 ?_
     refine .seq_mid (fun ρ H => ∃ (x18 : (List Bool)), ρ = [(7, (.own n4 0 x18.length))] ∧ H = [(Z9 n4 x18)] ∧ F65a_c1 k x18 = some r) ?_ ?_
     ·refine .a 5 ?_
      refine .wK [0, 1, 2, 7, 9] ?_
      refine .loop (fun kq ρ H => ∃ (x19 : (List Bool)) (x20 : Int), ρ = [(0, (.fz 5 (p0.map e131))), (1, (eStr p1)), (2, (.fz 1 (p2.map eBool))), (7, (.own n4 0 x19.length)), (9, (eI64 x20))] ∧ H = [(Z9 n4 x19)] ∧ F65a_l3 k p0 p1 p2 kq x19 x20 = some r) k ⟨(List.replicate (p2.length : Int).toNat false), (0 : Int), rfl, rfl, h⟩ ?_
      rintro kq22 _ _ ⟨x19, x20, rfl, rfl, h⟩
      cases kq22 with
      | zero => rw [F65a_l3.eq_1] at h; cases h
      | succ kq22 =>
      rw [F65a_l3.eq_2] at h
      generalize hrec21 : F65a_l3 k p0 p1 p2 kq22 = rec21 at h
      refine .a 8 ?_
      rcases oi h with ⟨c23, h⟩ | ⟨c23, h⟩
      ·refine .a 1 ?_
       refine .sK [0, 1, 2, 7, 9] ?_
       refine .seq_mid (fun ρ H => ∃ (x24 : (List Bool)), ρ = [(0, (.fz 5 (p0.map e131))), (1, (eStr p1)), (2, (.fz 1 (p2.map eBool))), (7, (.own n4 0 x24.length)), (9, (eI64 x20))] ∧ H = [(Z9 n4 x24)] ∧ F65a_c2 k rec21 x20 x24 = some r) ?_ ?_
       ·refine .a 1 ?_
        obtain ⟨g25, h⟩ := of_guard h
        rcases oi h with ⟨c26, h⟩ | ⟨c26, h⟩
        ·obtain ⟨g27, h⟩ := of_guard h
         obtain ⟨g28, h⟩ := of_guard h
         obtain ⟨t29, et29, h⟩ := ob h
         obtain ⟨g30, h⟩ := of_guard h
         refine .regEff (by rfl) (by decide +kernel) (fun (σ : Nat → Nat) => ([(.own n4 0 x19.length), (eI64 x20), (eI64 (w64 (x20 + (1 : Int)))), (.fz 1 (p2.map eBool)), (eI64 x20), (.rp (eBool (lget p2 x20))), (eBool (lget p2 x20)), (eBool (lget p2 x20)), (.fz 5 (p0.map e131)), (.fz 5 (p0.map e131)), (eI64 (p0.length : Int)), (eI64 (w64 ((p0.length : Int) - (1 : Int)))), (.rp (e131 (lget p0 (w64 ((p0.length : Int) - (1 : Int)))))), (.rp (.ar 1 (((lget p0 (w64 ((p0.length : Int) - (1 : Int)))).f1).toList.map eU64))), (.ar 1 (((lget p0 (w64 ((p0.length : Int) - (1 : Int)))).f1).toList.map eU64)), (eStr p1), (eI64 x20), (eU8 (byteAt p1 x20)), (eI64 (w64 (byteAt p1 x20))), (eBool t29), (eBool t29), (.ptr n4 ((w64 (x20 + (1 : Int))).toNat * 1 + 0)), (.fl undef)] : List AV)) (fun (L : Nat → Bool) (σ : Nat → Nat) => ((bif L 22 then ((Z9 n4 (lset x19 (w64 (x20 + (1 : Int))) t29)) :: []) else ((Z9 n4 x19) :: [])) : Heap)) [(0, (.fz 5 (p0.map e131))), (1, (eStr p1)), (2, (.fz 1 (p2.map eBool))), (7, (.own n4 0 x19.length)), (9, (eI64 x20))] ⟨rfl, rfl, rfl, rfl, rfl, trivial⟩ (fun _ => rfl) (fun σ => (.refl _)) ⟨?_, ?_, ?_, ?_, ?_, ?_, ?_, ?_, ?_, ?_, ?_, ?_, ?_, ?_, ?_, ?_, ?_, ?_, ?_, ?_, ?_, ?_, ?_, trivial⟩ (fun σ => [(0, (.fz 5 (p0.map e131))), (1, (eStr p1)), (2, (.fz 1 (p2.map eBool))), (7, (.own n4 0 x19.length)), (9, (eI64 x20))]) (fun σ => ((Z9 n4 (lset x19 (w64 (x20 + (1 : Int))) t29)) :: [])) (fun σ => ⟨rfl, rfl, rfl, rfl, rfl, trivial⟩) (fun σ => .refl _) (fun σ => ?_)
         ·refine .calm (fun _ _ => rfl) fun L σ hc hi hd => ?_
          have m22 : L 22 = false := hc.neg (i := 0) (j := 22) rfl (by rfl) hi
          refine .heq (H' := ((Z9 n4 x19) :: [])) (by first | rfl | simp only [m22, cond_true, cond_false]) ?_
          refine .a 1 ?_
          exact .nE (d := 33) rfl ⟨⟨33, _, rfl, rfl, rfl⟩, .of_eq (by first | rfl | simp only [m22, cond_true, cond_false]) (.refl _)⟩
         ·refine .calm (fun _ _ => rfl) fun L σ hc hi hd => ?_
          refine .a 1 ?_
          exact .nE (d := 34) rfl ⟨⟨34, _, rfl, rfl, rfl⟩, .refl _⟩
         ·refine .calm (fun _ _ => rfl) fun L σ hc hi hd => ?_
          refine .a 1 ?_
          exact .nE (d := 35) rfl ⟨⟨35, _, rfl, rfl, rfl⟩, .refl _⟩
         ·refine .calm (fun _ _ => rfl) fun L σ hc hi hd => ?_
          refine .a 1 ?_
          exact .nE (d := 36) rfl ⟨⟨36, _, rfl, rfl, rfl⟩, .refl _⟩
         ·refine .calm (fun _ _ => rfl) fun L σ hc hi hd => ?_
          refine .a 1 ?_
          exact .nE (d := 37) rfl ⟨⟨37, _, rfl, rfl, rfl⟩, .refl _⟩
         ·refine .calm (fun _ _ => rfl) fun L σ hc hi hd => ?_
          refine .a 1 ?_
          exact .nE (d := 38) rfl ⟨⟨38, _, rfl, rfl, rfl⟩, .refl _⟩
         ·refine .calm (fun _ _ => rfl) fun L σ hc hi hd => ?_
          refine .a 1 ?_
          exact .nE (d := 39) rfl ⟨⟨39, _, rfl, rfl, rfl⟩, .refl _⟩
         ·refine .calm (fun _ _ => rfl) fun L σ hc hi hd => ?_
          refine .a 1 ?_
          exact .nE (d := 40) rfl ⟨⟨40, _, rfl, rfl, rfl⟩, .refl _⟩
         ·refine .calm (fun _ _ => rfl) fun L σ hc hi hd => ?_
          refine .a 1 ?_
          exact .nE (d := 41) rfl ⟨⟨41, _, rfl, rfl, rfl⟩, .refl _⟩
         ·refine .calm (fun _ _ => rfl) fun L σ hc hi hd => ?_
          refine .a 1 ?_
          exact .nE (d := 42) rfl ⟨⟨42, _, rfl, rfl, rfl⟩, .refl _⟩
         ·refine .calm (fun _ _ => rfl) fun L σ hc hi hd => ?_
          refine .a 1 ?_
          exact .nE (d := 43) rfl ⟨⟨43, _, rfl, rfl, rfl⟩, .refl _⟩
         ·refine .calm (fun _ _ => rfl) fun L σ hc hi hd => ?_
          refine .a 1 ?_
          exact .nE (d := 44) rfl ⟨⟨44, _, rfl, rfl, rfl⟩, .refl _⟩
         ·refine .calm (fun _ _ => rfl) fun L σ hc hi hd => ?_
          refine .a 1 ?_
          exact .nE (d := 45) rfl ⟨⟨45, _, rfl, rfl, rfl⟩, .refl _⟩
         ·refine .calm (fun _ _ => rfl) fun L σ hc hi hd => ?_
          refine .wK [40, 45] ?_
          refine .cG rfl rfl (bD c26) (.fldRp rfl rfl Try.underlying131 rfl sz62 (.cast (.fldS (.fld0 .here)) rfl)) ?_
          exact .nE (d := 46) rfl ⟨⟨46, _, rfl, rfl, rfl⟩, .refl _⟩
         ·refine .calm (fun _ _ => rfl) fun L σ hc hi hd => ?_
          refine .a 1 ?_
          exact .nE (d := 47) rfl ⟨⟨47, _, rfl, rfl, rfl⟩, .refl _⟩
         ·refine .calm (fun _ _ => rfl) fun L σ hc hi hd => ?_
          refine .a 1 ?_
          exact .nE (d := 48) rfl ⟨⟨48, _, rfl, rfl, rfl⟩, .refl _⟩
         ·refine .calm (fun _ _ => rfl) fun L σ hc hi hd => ?_
          refine .a 1 ?_
          exact .nE (d := 49) rfl ⟨⟨49, _, rfl, rfl, rfl⟩, .refl _⟩
         ·refine .calm (fun _ _ => rfl) fun L σ hc hi hd => ?_
          refine .a 1 ?_
          exact .nE (d := 50) rfl ⟨⟨50, _, rfl, rfl, rfl⟩, .refl _⟩
         ·refine .calm (fun _ _ => rfl) fun L σ hc hi hd => ?_
          refine .a 1 ?_
          exact .nE (d := 51) rfl ⟨⟨51, _, rfl, rfl, rfl⟩, .refl _⟩
         ·refine .calm (fun _ _ => rfl) fun L σ hc hi hd => ?_
          refine .wK [40, 47, 51] ?_
          refine .callG 7 true 40 [(.ar 1 (((lget p0 (w64 ((p0.length : Int) - (1 : Int)))).f1).toList.map eU64)), (eI64 (w64 (byteAt p1 x20)))] (eBool t29) 52 rfl (by decide) ok85 rfl rfl (bD c26) rfl rfl ⟨rfl, rfl, rfl, rfl, trivial⟩ (F85_spec et29) ?_
          exact .nE (d := 52) rfl ⟨⟨52, _, rfl, rfl, rfl⟩, .refl _⟩
         ·refine .calm (fun _ _ => rfl) fun L σ hc hi hd => ?_
          refine .a 1 ?_
          exact .nE (d := 53) rfl ⟨⟨53, _, rfl, rfl, rfl⟩, .refl _⟩
         ·refine .calm (fun _ _ => rfl) fun L σ hc hi hd => ?_
          have m22 : L 22 = false := hc.neg (i := 21) (j := 22) rfl (by rfl) hi
          refine .heq (H' := ((Z9 n4 x19) :: [])) (by first | rfl | simp only [m22, cond_true, cond_false]) ?_
          refine .a 1 ?_
          exact .nE (d := 54) rfl ⟨⟨54, _, rfl, rfl, rfl⟩, .of_eq (by first | rfl | simp only [m22, cond_true, cond_false]) (.refl _)⟩
         ·intro L σ hc hi hd
          refine .heq (H' := ((Z9 n4 x19) :: [])) (by first | rfl | simp only [hi, cond_true, cond_false]) ?_
          refine .wK [53, 54] ?_
          refine .store 0 rfl rfl rfl rfl rfl rfl (.cast (.lidx (w64 (x20 + (1 : Int))) t29 g30.1 g30.2 .here) (by omega)) rfl rfl sz4 rfl ?_
          have a22 : addL L 22 22 = true := rfl
          exact .n0 ⟨σ, (fun _ _ => rfl), (fun d' hd' => by cases hd'), .of_eq (B := ((Z9 n4 (lset x19 (w64 (x20 + (1 : Int))) t29)) :: [])) (by simp only [a22, cond_true, cond_false]) (.refl _)⟩
         refine .coe 7 (y' := (Z28 n4 (lset x19 (w64 (x20 + (1 : Int))) t29).length)) rfl (fun _ _ h => own_len (by simp [lset, lcopy_len]) h) ?_
         refine .nK [0, 1, 2, 7, 9] ?_
         exact ⟨(lset x19 (w64 (x20 + (1 : Int))) t29), rfl, rfl, h⟩
        obtain ⟨g31, h⟩ := of_guard h
        refine .regEff (by rfl) (by decide +kernel) (fun (σ : Nat → Nat) => ([(.own n4 0 x19.length), (eI64 x20), (eI64 (w64 (x20 + (1 : Int)))), (.fz 1 (p2.map eBool)), (eI64 x20), (.rp (eBool (lget p2 x20))), (eBool (lget p2 x20)), (eBool (lget p2 x20)), (.fl undef), (.fl undef), (.fl undef), (.fl undef), (.fl undef), (.fl undef), (.fl undef), (.fl undef), (.fl undef), (.fl undef), (.fl undef), (.fl undef), (eBool false), (.ptr n4 ((w64 (x20 + (1 : Int))).toNat * 1 + 0)), (.fl undef)] : List AV)) (fun (L : Nat → Bool) (σ : Nat → Nat) => ((bif L 22 then ((Z9 n4 (lset x19 (w64 (x20 + (1 : Int))) false)) :: []) else ((Z9 n4 x19) :: [])) : Heap)) [(0, (.fz 5 (p0.map e131))), (1, (eStr p1)), (2, (.fz 1 (p2.map eBool))), (7, (.own n4 0 x19.length)), (9, (eI64 x20))] ⟨rfl, rfl, rfl, rfl, rfl, trivial⟩ (fun _ => rfl) (fun σ => (.refl _)) ⟨?_, ?_, ?_, ?_, ?_, ?_, ?_, ?_, ?_, ?_, ?_, ?_, ?_, ?_, ?_, ?_, ?_, ?_, ?_, ?_, ?_, ?_, ?_, trivial⟩ (fun σ => [(0, (.fz 5 (p0.map e131))), (1, (eStr p1)), (2, (.fz 1 (p2.map eBool))), (7, (.own n4 0 x19.length)), (9, (eI64 x20))]) (fun σ => ((Z9 n4 (lset x19 (w64 (x20 + (1 : Int))) false)) :: [])) (fun σ => ⟨rfl, rfl, rfl, rfl, rfl, trivial⟩) (fun σ => .refl _) (fun σ => ?_)
        ·refine .calm (fun _ _ => rfl) fun L σ hc hi hd => ?_
         have m22 : L 22 = false := hc.neg (i := 0) (j := 22) rfl (by rfl) hi
         refine .heq (H' := ((Z9 n4 x19) :: [])) (by first | rfl | simp only [m22, cond_true, cond_false]) ?_
         refine .a 1 ?_
         exact .nE (d := 33) rfl ⟨⟨33, _, rfl, rfl, rfl⟩, .of_eq (by first | rfl | simp only [m22, cond_true, cond_false]) (.refl _)⟩
        ·refine .calm (fun _ _ => rfl) fun L σ hc hi hd => ?_
         refine .a 1 ?_
         exact .nE (d := 34) rfl ⟨⟨34, _, rfl, rfl, rfl⟩, .refl _⟩
        ·refine .calm (fun _ _ => rfl) fun L σ hc hi hd => ?_
         refine .a 1 ?_
         exact .nE (d := 35) rfl ⟨⟨35, _, rfl, rfl, rfl⟩, .refl _⟩
        ·refine .calm (fun _ _ => rfl) fun L σ hc hi hd => ?_
         refine .a 1 ?_
         exact .nE (d := 36) rfl ⟨⟨36, _, rfl, rfl, rfl⟩, .refl _⟩
        ·refine .calm (fun _ _ => rfl) fun L σ hc hi hd => ?_
         refine .a 1 ?_
         exact .nE (d := 37) rfl ⟨⟨37, _, rfl, rfl, rfl⟩, .refl _⟩
        ·refine .calm (fun _ _ => rfl) fun L σ hc hi hd => ?_
         refine .a 1 ?_
         exact .nE (d := 38) rfl ⟨⟨38, _, rfl, rfl, rfl⟩, .refl _⟩
        ·refine .calm (fun _ _ => rfl) fun L σ hc hi hd => ?_
         refine .a 1 ?_
         exact .nE (d := 39) rfl ⟨⟨39, _, rfl, rfl, rfl⟩, .refl _⟩
        ·refine .calm (fun _ _ => rfl) fun L σ hc hi hd => ?_
         refine .a 1 ?_
         exact .nE (d := 40) rfl ⟨⟨40, _, rfl, rfl, rfl⟩, .refl _⟩
        ·refine .calm (fun _ _ => rfl) fun L σ hc hi hd => ?_
         refine .a 1 ?_
         exact .nE (d := 41) rfl ⟨⟨41, _, rfl, rfl, rfl⟩, .refl _⟩
        ·refine .calm (fun _ _ => rfl) fun L σ hc hi hd => ?_
         refine .a 1 ?_
         exact .nE (d := 42) rfl ⟨⟨42, _, rfl, rfl, rfl⟩, .refl _⟩
        ·refine .calm (fun _ _ => rfl) fun L σ hc hi hd => ?_
         refine .a 1 ?_
         exact .nE (d := 43) rfl ⟨⟨43, _, rfl, rfl, rfl⟩, .refl _⟩
        ·refine .calm (fun _ _ => rfl) fun L σ hc hi hd => ?_
         refine .a 1 ?_
         exact .nE (d := 44) rfl ⟨⟨44, _, rfl, rfl, rfl⟩, .refl _⟩
        ·refine .calm (fun _ _ => rfl) fun L σ hc hi hd => ?_
         refine .a 1 ?_
         exact .nE (d := 45) rfl ⟨⟨45, _, rfl, rfl, rfl⟩, .refl _⟩
        ·refine .calm (fun _ _ => rfl) fun L σ hc hi hd => ?_
         refine .a 1 ?_
         exact .nE (d := 46) rfl ⟨⟨46, _, rfl, rfl, rfl⟩, .refl _⟩
        ·refine .calm (fun _ _ => rfl) fun L σ hc hi hd => ?_
         refine .a 1 ?_
         exact .nE (d := 47) rfl ⟨⟨47, _, rfl, rfl, rfl⟩, .refl _⟩
        ·refine .calm (fun _ _ => rfl) fun L σ hc hi hd => ?_
         refine .a 1 ?_
         exact .nE (d := 48) rfl ⟨⟨48, _, rfl, rfl, rfl⟩, .refl _⟩
        ·refine .calm (fun _ _ => rfl) fun L σ hc hi hd => ?_
         refine .a 1 ?_
         exact .nE (d := 49) rfl ⟨⟨49, _, rfl, rfl, rfl⟩, .refl _⟩
        ·refine .calm (fun _ _ => rfl) fun L σ hc hi hd => ?_
         refine .a 1 ?_
         exact .nE (d := 50) rfl ⟨⟨50, _, rfl, rfl, rfl⟩, .refl _⟩
        ·refine .calm (fun _ _ => rfl) fun L σ hc hi hd => ?_
         refine .a 1 ?_
         exact .nE (d := 51) rfl ⟨⟨51, _, rfl, rfl, rfl⟩, .refl _⟩
        ·refine .calm (fun _ _ => rfl) fun L σ hc hi hd => ?_
         refine .a 1 ?_
         exact .nE (d := 52) rfl ⟨⟨52, _, rfl, rfl, rfl⟩, .refl _⟩
        ·refine .calm (fun _ _ => rfl) fun L σ hc hi hd => ?_
         refine .a 1 ?_
         exact .nE (d := 53) rfl ⟨⟨53, _, rfl, rfl, rfl⟩, .refl _⟩
        ·refine .calm (fun _ _ => rfl) fun L σ hc hi hd => ?_
         have m22 : L 22 = false := hc.neg (i := 21) (j := 22) rfl (by rfl) hi
         refine .heq (H' := ((Z9 n4 x19) :: [])) (by first | rfl | simp only [m22, cond_true, cond_false]) ?_
         refine .a 1 ?_
         exact .nE (d := 54) rfl ⟨⟨54, _, rfl, rfl, rfl⟩, .of_eq (by first | rfl | simp only [m22, cond_true, cond_false]) (.refl _)⟩
        ·intro L σ hc hi hd
         refine .heq (H' := ((Z9 n4 x19) :: [])) (by first | rfl | simp only [hi, cond_true, cond_false]) ?_
         refine .wK [53, 54] ?_
         refine .store 0 rfl rfl rfl rfl rfl rfl (.cast (.lidx (w64 (x20 + (1 : Int))) false g31.1 g31.2 .here) (by omega)) rfl rfl sz4 rfl ?_
         have a22 : addL L 22 22 = true := rfl
         exact .n0 ⟨σ, (fun _ _ => rfl), (fun d' hd' => by cases hd'), .of_eq (B := ((Z9 n4 (lset x19 (w64 (x20 + (1 : Int))) false)) :: [])) (by simp only [a22, cond_true, cond_false]) (.refl _)⟩
        refine .coe 7 (y' := (Z28 n4 (lset x19 (w64 (x20 + (1 : Int))) false).length)) rfl (fun _ _ h => own_len (by simp [lset, lcopy_len]) h) ?_
        refine .nK [0, 1, 2, 7, 9] ?_
        exact ⟨(lset x19 (w64 (x20 + (1 : Int))) false), rfl, rfl, h⟩
       rintro _ _ ⟨x24, rfl, rfl, h⟩
       rw [F65a_c2.eq_1] at h
       refine .a 4 ?_
       refine .nK [0, 1, 2, 7, 9] ?_
       exact ⟨kq22, Nat.lt_succ_self _, x24, (w64 (x20 + (1 : Int))), rfl, rfl, by rw [hrec21]; exact h⟩
      refine .a 1 ?_
      refine .eK [7] ?_
      exact ⟨x19, rfl, rfl, h⟩
     rintro _ _ ⟨x18, rfl, rfl, h⟩
     rw [F65a_c1.eq_1] at h
     refine .a 4 ?_
     refine .nK [6] ?_
     refine .freezeS 0 [(6, (.fz 1 (x18.map eBool)))] rfl ⟨fz_all rfl, trivial⟩ ?_
     refine .rK [6] ?_
     have hr := Option.some.inj h
     subst hr
     exact ⟨[(.fz 1 (x18.map eBool))], ⟨rfl, rfl, trivial⟩, rfl⟩
    refine .a 5 ?_
    refine .nS [0, 1, 2, 8, 21, 56] [] ?_
    rcases oi h with ⟨c32, h⟩ | ⟨c32, h⟩
    ·refine .a 2 ?_
     obtain ⟨g33, h⟩ := of_guard h
     obtain ⟨g34, h⟩ := of_guard h
     obtain ⟨t35, et35, h⟩ := ob h
     obtain ⟨t36, et36, h⟩ := ob h
     refine .regAny (by rfl) (by decide +kernel) [(.fz 1 (t6.map e68)), (.rp (Z12 (lget t6 (1 : Int)))), (Z12 (lget t6 (1 : Int))), (eStr p1), (.fz 1 (t6.map e68)), (.rp (Z12 (lget t6 (0 : Int)))), (Z12 (lget t6 (0 : Int))), (eStr p1), (.fz 1 (p2.map eBool)), (.fz 1 (t35.map eBool)), (.fz 1 (t36.map eBool)), (.fz 1 (t36.map eBool))] [(1, (eStr p1)), (2, (.fz 1 (p2.map eBool))), (8, (.fz 1 (t6.map e68)))] ⟨rfl, rfl, rfl, trivial⟩ rfl ?_ [(6, (.fz 1 (t36.map eBool)))] [] ⟨rfl, trivial⟩ (.refl _) ?_
     ·refine ⟨?_, ?_, ?_, ?_, ?_, ?_, ?_, ?_, ?_, ?_, ?_, ?_, trivial⟩
      ·refine .a 1 ?_
       exact .q 58
      ·refine .a 1 ?_
       exact .q 59
      ·refine .a 1 ?_
       exact .q 60
      ·refine .a 1 ?_
       exact .q 61
      ·refine .a 1 ?_
       exact .q 62
      ·refine .a 1 ?_
       exact .q 63
      ·refine .a 1 ?_
       exact .q 64
      ·refine .a 1 ?_
       exact .q 65
      ·refine .a 1 ?_
       exact .q 66
      ·refine .wK [64, 65, 66] ?_
       refine .callS [(Z12 (lget t6 (0 : Int))), (eStr p1), (.fz 1 (p2.map eBool))] (.fz 1 (t35.map eBool)) 67 rfl (by decide) ok65 rfl rfl rfl ⟨rfl, rfl, rfl, rfl, rfl, rfl, trivial⟩ (hself65 _ _ _ _ et35) ?_
       exact .q 67
      ·refine .wK [60, 61, 67] ?_
       refine .callS [(Z12 (lget t6 (1 : Int))), (eStr p1), (.fz 1 (t35.map eBool))] (.fz 1 (t36.map eBool)) 68 rfl (by decide) ok65 rfl rfl rfl ⟨rfl, rfl, rfl, rfl, rfl, rfl, trivial⟩ (hself65 _ _ _ _ et36) ?_
       exact .q 68
      refine .a 1 ?_
      exact .q 6
     refine .rK [6] ?_
     have hr := Option.some.inj h
     subst hr
     exact ⟨[(.fz 1 (t36.map eBool))], ⟨rfl, rfl, trivial⟩, rfl⟩
    refine .a 6 ?_
    rcases oi h with ⟨c37, h⟩ | ⟨c37, h⟩
    ·refine .a 2 ?_
     obtain ⟨g38, h⟩ := of_guard h
     obtain ⟨t39, et39, h⟩ := ob h
     obtain ⟨g40, h⟩ := of_guard h
     obtain ⟨t41, et41, h⟩ := ob h
     obtain ⟨t42, et42, h⟩ := ob h
     refine .regAny (by rfl) (by decide +kernel) [(.fz 1 (t6.map e68)), (.rp (Z12 (lget t6 (0 : Int)))), (Z12 (lget t6 (0 : Int))), (eStr p1), (.fz 1 (p2.map eBool)), (.fz 1 (t39.map eBool)), (.fz 1 (t6.map e68)), (.rp (Z12 (lget t6 (1 : Int)))), (Z12 (lget t6 (1 : Int))), (eStr p1), (.fz 1 (p2.map eBool)), (.fz 1 (t41.map eBool)), (.fz 1 (t42.map eBool)), (.fz 1 (t42.map eBool))] [(1, (eStr p1)), (2, (.fz 1 (p2.map eBool))), (8, (.fz 1 (t6.map e68)))] ⟨rfl, rfl, rfl, trivial⟩ rfl ?_ [(6, (.fz 1 (t42.map eBool)))] [] ⟨rfl, trivial⟩ (.refl _) ?_
     ·refine ⟨?_, ?_, ?_, ?_, ?_, ?_, ?_, ?_, ?_, ?_, ?_, ?_, ?_, ?_, trivial⟩
      ·refine .a 1 ?_
       exact .q 71
      ·refine .a 1 ?_
       exact .q 72
      ·refine .a 1 ?_
       exact .q 73
      ·refine .a 1 ?_
       exact .q 74
      ·refine .a 1 ?_
       exact .q 75
      ·refine .wK [73, 74, 75] ?_
       refine .callS [(Z12 (lget t6 (0 : Int))), (eStr p1), (.fz 1 (p2.map eBool))] (.fz 1 (t39.map eBool)) 76 rfl (by decide) ok65 rfl rfl rfl ⟨rfl, rfl, rfl, rfl, rfl, rfl, trivial⟩ (hself65 _ _ _ _ et39) ?_
       exact .q 76
      ·refine .a 1 ?_
       exact .q 77
      ·refine .a 1 ?_
       exact .q 78
      ·refine .a 1 ?_
       exact .q 79
      ·refine .a 1 ?_
       exact .q 80
      ·refine .a 1 ?_
       exact .q 81
      ·refine .wK [79, 80, 81] ?_
       refine .callS [(Z12 (lget t6 (1 : Int))), (eStr p1), (.fz 1 (p2.map eBool))] (.fz 1 (t41.map eBool)) 82 rfl (by decide) ok65 rfl rfl rfl ⟨rfl, rfl, rfl, rfl, rfl, rfl, trivial⟩ (hself65 _ _ _ _ et41) ?_
       exact .q 82
      ·refine .wK [76, 82] ?_
       refine .callS [(.fz 1 (t39.map eBool)), (.fz 1 (t41.map eBool))] (.fz 1 (t42.map eBool)) 83 rfl (by decide) ok86 rfl rfl rfl ⟨rfl, rfl, rfl, rfl, trivial⟩ (F86_spec et42) ?_
       exact .q 83
      refine .a 1 ?_
      exact .q 6
     refine .rK [6] ?_
     have hr := Option.some.inj h
     subst hr
     exact ⟨[(.fz 1 (t42.map eBool))], ⟨rfl, rfl, trivial⟩, rfl⟩
    refine .a 6 ?_
    rcases oi h with ⟨c43, h⟩ | ⟨c43, h⟩
    ·refine .a 5 ?_
     obtain ⟨g44, h⟩ := of_guard h
     refine .a 4 ?_
     obtain ⟨t45, et45, h⟩ := ob h
     refine .callS [(Z12 (lget t6 (0 : Int))), (eStr p1), (.fz 1 (p2.map eBool))] (.fz 1 (t45.map eBool)) 92 rfl (by decide) ok65 rfl rfl rfl ⟨rfl, rfl, rfl, rfl, rfl, rfl, trivial⟩ (hself65 _ _ _ _ et45) ?_
     obtain ⟨t46, et46, h⟩ := ob h
     refine .callS [(.fz 1 (p2.map eBool)), (.fz 1 (t45.map eBool))] (.fz 1 (t46.map eBool)) 93 rfl (by decide) ok86 rfl rfl rfl ⟨rfl, rfl, rfl, rfl, trivial⟩ (F86_spec et46) ?_
     refine .a 1 ?_
     refine .nK [6] ?_
     refine .rK [6] ?_
     have hr := Option.some.inj h
     subst hr
     exact ⟨[(.fz 1 (t46.map eBool))], ⟨rfl, rfl, trivial⟩, rfl⟩
    refine .a 1 ?_
    refine .sK [0, 1, 2, 8] ?_
    exact ⟨rfl, rfl, h⟩
   rintro _ _ ⟨rfl, rfl, h⟩
   rw [F65a_c0.eq_1] at h
   refine .a 7 ?_
   obtain ⟨g7, h⟩ := of_guard h
   refine .a 1 ?_
   refine .c (.fldRp rfl rfl Try.underlying131 rfl sz3 (.cast (.fld0 .here) rfl)) ?_
   refine .a 3 ?_
   rcases oi h with ⟨c8, h⟩ | ⟨c8, h⟩
   ·refine .a 4 ?_
    obtain ⟨g9, h⟩ := of_guard h
    refine .a 4 ?_
    obtain ⟨t10, et10, h⟩ := ob h
    refine .callS [(Z12 (lget t6 (0 : Int))), (eStr p1), (.fz 1 (p2.map eBool))] (.fz 1 (t10.map eBool)) 107 rfl (by decide) ok87 rfl rfl rfl ⟨rfl, rfl, rfl, rfl, rfl, rfl, trivial⟩ (hself87 _ _ _ _ et10) ?_
    refine .a 1 ?_
    refine .nK [6] ?_
    refine .rK [6] ?_
    have hr := Option.some.inj h
    subst hr
    exact ⟨[(.fz 1 (t10.map eBool))], ⟨rfl, rfl, trivial⟩, rfl⟩
   refine .a 3 ?_
   obtain ⟨g11, h⟩ := of_guard h
   obtain ⟨g12, h⟩ := of_guard h
   obtain ⟨t13, et13, h⟩ := ob h
   obtain ⟨t14, et14, h⟩ := ob h
   refine .regAny (by rfl) (by decide +kernel) [(.fz 1 (t6.map e68)), (.rp (Z12 (lget t6 (0 : Int)))), (Z12 (lget t6 (0 : Int))), (eStr p1), (.fz 1 (t6.map e68)), (.rp (Z12 (lget t6 (0 : Int)))), (Z12 (lget t6 (0 : Int))), (eStr p1), (.fz 1 (p2.map eBool)), (.fz 1 (t13.map eBool)), (.fz 1 (t14.map eBool)), (.fz 1 (t14.map eBool))] [(1, (eStr p1)), (2, (.fz 1 (p2.map eBool))), (8, (.fz 1 (t6.map e68)))] ⟨rfl, rfl, rfl, trivial⟩ rfl ?_ [(6, (.fz 1 (t14.map eBool)))] [] ⟨rfl, trivial⟩ (.refl _) ?_
   ·refine ⟨?_, ?_, ?_, ?_, ?_, ?_, ?_, ?_, ?_, ?_, ?_, ?_, trivial⟩
    ·refine .a 1 ?_
     exact .q 108
    ·refine .a 1 ?_
     exact .q 109
    ·refine .a 1 ?_
     exact .q 110
    ·refine .a 1 ?_
     exact .q 111
    ·refine .a 1 ?_
     exact .q 112
    ·refine .a 1 ?_
     exact .q 113
    ·refine .a 1 ?_
     exact .q 114
    ·refine .a 1 ?_
     exact .q 115
    ·refine .a 1 ?_
     exact .q 116
    ·refine .wK [114, 115, 116] ?_
     refine .callS [(Z12 (lget t6 (0 : Int))), (eStr p1), (.fz 1 (p2.map eBool))] (.fz 1 (t13.map eBool)) 117 rfl (by decide) ok65 rfl rfl rfl ⟨rfl, rfl, rfl, rfl, rfl, rfl, trivial⟩ (hself65 _ _ _ _ et13) ?_
     exact .q 117
    ·refine .wK [110, 111, 117] ?_
     refine .callS [(Z12 (lget t6 (0 : Int))), (eStr p1), (.fz 1 (t13.map eBool))] (.fz 1 (t14.map eBool)) 118 rfl (by decide) ok87 rfl rfl rfl ⟨rfl, rfl, rfl, rfl, rfl, rfl, trivial⟩ (hself87 _ _ _ _ et14) ?_
     exact .q 118
    refine .a 1 ?_
    exact .q 6
   refine .rK [6] ?_
   have hr := Option.some.inj h
   subst hr
   exact ⟨[(.fz 1 (t14.map eBool))], ⟨rfl, rfl, trivial⟩, rfl⟩
  intro p0 p1 p2 r h
  rw [F65b_r.eq_2] at h
  generalize hsself65 : F65a_r k j = self65 at h hself65
  generalize hsself87 : F65b_r k j = self87 at h hself87
  refine Spec.intro (res := [.tmp 6]) Try.func87 rfl rfl rfl (Nat.le_of_ble_eq_true rfl) ?_
  refine .a 3 ?_
  refine .nK [0, 1, 2] ?_
  refine .seq_mid (fun ρ H => ∃ (x4 : (List Bool)), ρ = [(2, (.fz 1 (x4.map eBool)))] ∧ H = [] ∧ F65b_c0 k x4 = some r) ?_ ?_
  ·refine .a 5 ?_
   refine .wK [0, 1, 2, 7] ?_
   refine .loop (fun kq ρ H => ∃ (x5 : (List Bool)) (x6 : Int), ρ = [(0, (.fz 5 (p0.map e131))), (1, (eStr p1)), (2, (.fz 1 (x5.map eBool))), (7, (eI64 x6))] ∧ H = [] ∧ F65b_l4 k self65 p0 p1 kq x5 x6 = some r) k ⟨p2, (0 : Int), rfl, rfl, h⟩ ?_
   rintro kq8 _ _ ⟨x5, x6, rfl, rfl, h⟩
   cases kq8 with
   | zero => rw [F65b_l4.eq_1] at h; cases h
   | succ kq8 =>
   rw [F65b_l4.eq_2] at h
   generalize hrec7 : F65b_l4 k self65 p0 p1 kq8 = rec7 at h
   refine .a 8 ?_
   rcases oi h with ⟨c9, h⟩ | ⟨c9, h⟩
   ·refine .a 1 ?_
    refine .sK [0, 1, 2, 7] ?_
    refine .seq_mid (fun ρ H => ∃ (x10 : (List Bool)), ρ = [(0, (.fz 5 (p0.map e131))), (1, (eStr p1)), (2, (.fz 1 (x10.map eBool))), (7, (eI64 x6))] ∧ H = [] ∧ F65b_c1 k rec7 x6 x10 = some r) ?_ ?_
    ·refine .a 7 ?_
     obtain ⟨t11, et11, h⟩ := ob h
     refine .callS [(.fz 5 (p0.map e131)), (eStr p1), (.fz 1 (x5.map eBool))] (.fz 1 (t11.map eBool)) 21 rfl (by decide) ok65 rfl rfl rfl ⟨rfl, rfl, rfl, rfl, rfl, rfl, trivial⟩ (hself65 _ _ _ _ et11) ?_
     obtain ⟨t12, et12, h⟩ := ob h
     refine .callS [(.fz 1 (x5.map eBool)), (.fz 1 (t11.map eBool))] (.fz 1 (t12.map eBool)) 22 rfl (by decide) ok86 rfl rfl rfl ⟨rfl, rfl, rfl, rfl, trivial⟩ (F86_spec et12) ?_
     refine .a 5 ?_
     refine .nK [0, 1, 2, 7, 8, 9] ?_
     refine .seq_mid (fun ρ H => ∃ (b13 : Bool), ρ = [(0, (.fz 5 (p0.map e131))), (1, (eStr p1)), (7, (eI64 x6)), (8, (.fz 1 (t12.map eBool))), (9, (eBool b13))] ∧ H = [] ∧ F65b_c2 k rec7 x6 t12 b13 = some r) ?_ ?_
     ·refine .a 5 ?_
      refine .wK [0, 1, 2, 7, 8, 9, 10] ?_
      refine .loop (fun kq ρ H => ∃ (b15 : Bool) (x16 : Int), ρ = [(0, (.fz 5 (p0.map e131))), (1, (eStr p1)), (2, (.fz 1 (x5.map eBool))), (7, (eI64 x6)), (8, (.fz 1 (t12.map eBool))), (9, (eBool b15)), (10, (eI64 x16))] ∧ H = [] ∧ F65b_l3 k rec7 x5 x6 t12 kq b15 x16 = some r) k ⟨true, (0 : Int), rfl, rfl, h⟩ ?_
      rintro kq18 _ _ ⟨b15, x16, rfl, rfl, h⟩
      cases kq18 with
      | zero => rw [F65b_l3.eq_1] at h; cases h
      | succ kq18 =>
      rw [F65b_l3.eq_2] at h
      generalize hrec17 : F65b_l3 k rec7 x5 x6 t12 kq18 = rec17 at h
      refine .a 8 ?_
      rcases oi h with ⟨c19, h⟩ | ⟨c19, h⟩
      ·refine .a 4 ?_
       obtain ⟨b20, q21, h⟩ := ob h
       refine .regQM (by rfl) (by decide +kernel) [(0, (.fz 5 (p0.map e131))), (1, (eStr p1)), (2, (.fz 1 (x5.map eBool))), (7, (eI64 x6)), (8, (.fz 1 (t12.map eBool))), (9, (eBool b20)), (10, (eI64 x16))] ?_ ?_
       ·refine .a 2 ?_
        rcases oi q21 with ⟨c22, q21⟩ | ⟨c22, q21⟩
        ·refine .a 2 ?_
         obtain ⟨g23, q21⟩ := of_guard q21
         refine .a 4 ?_
         obtain ⟨g24, q21⟩ := of_guard q21
         refine .a 2 ?_
         refine .cG (x := eBool ((lget t12 x16) == (lget x5 x16))) rfl rfl (bD c22) (.boolEq rfl rfl rfl Try.underlying4) ?_
         refine .a 2 ?_
         cases q21
         refine .nilE rfl ?_
         exact ⟨rfl, rfl, rfl, rfl, rfl, rfl, rfl, trivial⟩
        refine .a 11 ?_
        cases q21
        refine .nilE rfl ?_
        exact ⟨rfl, rfl, rfl, rfl, rfl, rfl, rfl, trivial⟩
       refine .a 4 ?_
       refine .nK [0, 1, 2, 7, 8, 9, 10] ?_
       exact ⟨kq18, Nat.lt_succ_self _, b20, (w64 (x16 + (1 : Int))), rfl, rfl, by rw [hrec17]; exact h⟩
      refine .a 1 ?_
      refine .eK [0, 1, 7, 8, 9] ?_
      exact ⟨b15, rfl, rfl, h⟩
     rintro _ _ ⟨b13, rfl, rfl, h⟩
     rw [F65b_c2.eq_1] at h
     refine .a 5 ?_
     rcases oi h with ⟨c14, h⟩ | ⟨c14, h⟩
     ·refine .a 5 ?_
      refine .nK [6] ?_
      refine .rK [6] ?_
      have hr := Option.some.inj h
      subst hr
      exact ⟨[(.fz 1 (t12.map eBool))], ⟨rfl, rfl, trivial⟩, rfl⟩
     refine .a 5 ?_
     refine .nK [0, 1, 2, 7] ?_
     exact ⟨t12, rfl, rfl, h⟩
    rintro _ _ ⟨x10, rfl, rfl, h⟩
    rw [F65b_c1.eq_1] at h
    refine .a 4 ?_
    refine .nK [0, 1, 2, 7] ?_
    exact ⟨kq8, Nat.lt_succ_self _, x10, (w64 (x6 + (1 : Int))), rfl, rfl, by rw [hrec7]; exact h⟩
   refine .a 1 ?_
   refine .eK [2] ?_
   exact ⟨x5, rfl, rfl, h⟩
  rintro _ _ ⟨x4, rfl, rfl, h⟩
  rw [F65b_c0.eq_1] at h
  refine .a 4 ?_
  refine .nK [6] ?_
  refine .rK [6] ?_
  have hr := Option.some.inj h
  subst hr
  exact ⟨[(.fz 1 (x4.map eBool))], ⟨rfl, rfl, trivial⟩, rfl⟩
theorem F65a_spec {k : Nat} {p0 : (List S131)} {p1 : ByteArray} {p2 : (List Bool)} {r : (List Bool)} (h : F65a k p0 p1 p2 = some r) : Spec Try.prog 65 [(.fz 5 (p0.map e131)), (eStr p1), (.fz 1 (p2.map eBool))] (e98 r) := (F65a_all k k).1 p0 p1 p2 r h
end Go.Avl.T7
namespace Go.Avl.T7
open Go Go.RowKit Go.Proofs Go.Avl
set_option linter.unusedVariables false
set_option maxRecDepth 100000
set_option maxHeartbeats 4000000
attribute [local irreducible] AW AO AQ Spec SpecH Calm
def F36 (k : Nat) (p0 : (List S131)) (p1 : ByteArray) : Option Bool :=
  if 0 ≤ (w64 ((p1.size : Int) + (1 : Int))) ∧ (w64 ((p1.size : Int) + (1 : Int))) * (1 : Int) ≤ 140737488355328 ∧ (w64 ((p1.size : Int) + (1 : Int))) ≤ 9223372036854775807 then if 0 ≤ (0 : Int) ∧ (0 : Int) < ((List.replicate (w64 ((p1.size : Int) + (1 : Int))).toNat false).length : Int) then (F65a k p0 p1 (lset (List.replicate (w64 ((p1.size : Int) + (1 : Int))).toNat false) (0 : Int) true)).bind fun t6 =>
  if 0 ≤ (p1.size : Int) ∧ (p1.size : Int) < (t6.length : Int) then some ((lget t6 (p1.size : Int)))
  else none
  else none
  else none
theorem F36_spec {k : Nat} {p0 : (List S131)} {p1 : ByteArray} {r : Bool} (h : F36 k p0 p1 = some r) : Spec Try.prog 36 [(.fz 5 (p0.map e131)), (eStr p1)] (eBool r) := by
  rw [F36.eq_1] at h
  refine Spec.intro (res := [.tmp 4]) Try.func36 rfl rfl rfl (Nat.le_of_ble_eq_true rfl) ?_
  refine .a 9 ?_
  obtain ⟨g4, h⟩ := of_guard h
  refine .makeL (f := eBool) false rfl 9 rfl (by decide) rfl rfl rfl Try.underlying98 sz4 by4 zr4 lay4 rfl g4 fun n3 => ?_
  refine .a 5 ?_
  obtain ⟨g5, h⟩ := of_guard h
  refine .a 1 ?_
  refine .store 0 rfl rfl rfl rfl rfl rfl (.cast (.lidx (0 : Int) true g5.1 g5.2 .here) (by omega)) rfl rfl sz4 rfl ?_
  refine .coe 5 (y' := (Z28 n3 (lset (List.replicate (w64 ((p1.size : Int) + (1 : Int))).toNat false) (0 : Int) true).length)) rfl (fun _ _ h => lset_own h) ?_
  refine .coe 10 (y' := (Z28 n3 (lset (List.replicate (w64 ((p1.size : Int) + (1 : Int))).toNat false) (0 : Int) true).length)) rfl (fun _ _ h => lset_own h) ?_
  refine .a 6 ?_
  obtain ⟨t6, et6, h⟩ := ob h
  refine .freezeS 0 [(5, (Z29 (lset (List.replicate (w64 ((p1.size : Int) + (1 : Int))).toNat false) (0 : Int) true))), (14, (Z29 (lset (List.replicate (w64 ((p1.size : Int) + (1 : Int))).toNat false) (0 : Int) true)))] rfl ⟨fz_all rfl, fz_all rfl, trivial⟩ ?_
  refine .callS [(.fz 5 (p0.map e131)), (eStr p1), (Z29 (lset (List.replicate (w64 ((p1.size : Int) + (1 : Int))).toNat false) (0 : Int) true))] (.fz 1 (t6.map eBool)) 15 rfl (by decide) ok65 rfl rfl rfl ⟨rfl, rfl, rfl, rfl, rfl, rfl, trivial⟩ (F65a_spec et6) ?_
  refine .a 2 ?_
  obtain ⟨g7, h⟩ := of_guard h
  refine .a 3 ?_
  refine .nK [4] ?_
  refine .rK [4] ?_
  cases h
  exact ⟨[(eBool (lget t6 (p1.size : Int)))], ⟨rfl, rfl, trivial⟩, rfl⟩
def F68_c0 (k : Nat) (p0 : (List S82)) (p1 : Int) : Option Int :=
  Option.bind (α := Bool) (if ((lget p0 p1).f1) < (0 : Int) then some (true)
  else some (decide ((2 : Int) < ((lget p0 p1).f1)))) fun b7 =>
  if b7 = true then some ((1 : Int))
  else (F33 k ((lget p0 p1).f2)).bind fun t11 =>
  if t11.2 ≠ (0 : Int) then some (t11.2)
  else (F36 k t11.1 (ByteArray.mk #[])).bind fun t13 =>
  if t13 = true then some ((14 : Int))
  else some ((0 : Int))
def F68_l1 (k : Nat) (p0 : (List S82)) (p1 : Int) : Nat → Int → Option Int
  | 0, _ => none
  | j + 1, x15 =>
    if x15 < p1 then if 0 ≤ x15 ∧ x15 < (p0.length : Int) then if ((lget p0 x15).f0) = ((lget p0 p1).f0) then some ((9 : Int))
    else (F68_l1 k p0 p1 j) (w64 (x15 + (1 : Int)))
    else none
    else F68_c0 k p0 p1
def F68 (k : Nat) (p0 : (List S82)) (p1 : Int) : Option Int :=
  if 0 ≤ p1 ∧ p1 < (p0.length : Int) then (F90 k ((lget p0 p1).f0)).bind fun t5 =>
  if (!t5) = true then some ((8 : Int))
  else F68_l1 k p0 p1 k (0 : Int)
  else none
theorem F68_spec {k : Nat} {p0 : (List S82)} {p1 : Int} {r : Int} (h : F68 k p0 p1 = some r) : Spec Try.prog 68 [(.fz 3 (p0.map e82)), (eI64 p1)] (eI64 r) := by
  rw [F68.eq_1] at h
  refine Spec.intro (res := [.tmp 4]) Try.func68 rfl rfl rfl (Nat.le_of_ble_eq_true rfl) ?_
  refine .sr ?_
  refine .ag rfl rfl ?_
  refine .nK [0, 1] ?_
  refine .sr ?_
  refine .mv rfl rfl ?_
  refine .mv rfl rfl ?_
  obtain ⟨g3, h⟩ := of_guard h
  refine .c (.idxL (f := e82) rfl rfl rfl g3 Try.underlying22 sz82) ?_
  refine .c (.loadRp rfl rfl ag82 sz82) ?_
  refine .alloc rfl 5 rfl (by decide) rfl zr82 lay82 fun n4 => ?_
  refine .store 0 rfl rfl rfl rfl rfl rfl (.cast .here rfl) rfl rfl sz82 rfl ?_
  refine .nK [0, 1, 5] ?_
  refine .seq ?_
  refine .sr ?_
  refine .c (x := .ptr n4 0) (.fldPtr rfl rfl Try.underlying82 rfl sz9 _ rfl) ?_
  refine .c (.load 0 rfl rfl rfl (.cast (.fld0 .here) rfl) ag9 sz9) ?_
  obtain ⟨t5, et5, h⟩ := ob h
  refine .callS [(eStr ((lget p0 p1).f0))] (eBool t5) 15 rfl (by decide) ok90 rfl rfl rfl ⟨rfl, rfl, trivial⟩ (F90_spec et5) ?_
  refine .c (.not rfl rfl) ?_
  refine .nK [0, 1, 5, 16] ?_
  rcases oi h with ⟨c6, h⟩ | ⟨c6, h⟩
  ·refine .condT' _ rfl c6 ?_
   refine .sr ?_
   refine .ag rfl rfl ?_
   refine .nS [4] [] ?_
   refine .rK [4] ?_
   cases h
   exact ⟨[(eI64 (8 : Int))], ⟨rfl, rfl, trivial⟩, rfl⟩
  refine .condF' _ rfl c6 ?_
  refine .sK [0, 1, 5] ?_
  refine .seq_mid (fun ρ H => ρ = [(5, (.ptr n4 0))] ∧ H = [(n4, (.mem (e82 (lget p0 p1))))] ∧ F68_c0 k p0 p1 = some r) ?_ ?_
  ·refine .sr ?_
   refine .ag rfl rfl ?_
   refine .nK [0, 1, 5, 6] ?_
   refine .block ?_
   refine .wK [0, 1, 5, 6] ?_
   refine .loop (fun kq ρ H => ∃ (x15 : Int), ρ = [(0, (.fz 3 (p0.map e82))), (1, (eI64 p1)), (5, (.ptr n4 0)), (6, (eI64 x15))] ∧ H = [(n4, (.mem (e82 (lget p0 p1))))] ∧ F68_l1 k p0 p1 kq x15 = some r) k ⟨(0 : Int), rfl, rfl, h⟩ ?_
   rintro kq17 _ _ ⟨x15, rfl, rfl, h⟩
   cases kq17 with
   | zero => rw [F68_l1.eq_1] at h; cases h
   | succ kq17 =>
   rw [F68_l1.eq_2] at h
   generalize hrec16 : F68_l1 k p0 p1 kq17 = rec16 at h
   refine .seq ?_
   refine .sr ?_
   refine .mv rfl rfl ?_
   refine .mv rfl rfl ?_
   refine .c (x := eBool (decide (x15 < p1))) (.int rfl rfl rfl rfl) ?_
   refine .nK [0, 1, 5, 6, 19] ?_
   rcases oi h with ⟨c18, h⟩ | ⟨c18, h⟩
   ·refine .condP _ rfl c18 ?_
    refine .sK [0, 1, 5, 6] ?_
    refine .seq ?_
    refine .block ?_
    refine .seq ?_
    refine .regQ (by rfl) (by decide +kernel) ?_
    refine .c (.move rfl rfl) ?_
    refine .c (.move rfl rfl) ?_
    obtain ⟨g19, h⟩ := of_guard h
    refine .c (.idxL (f := e82) rfl rfl rfl g19 Try.underlying22 sz82) ?_
    refine .c (.fldRp rfl rfl Try.underlying82 rfl sz9 (.cast (.fld0 .here) rfl)) ?_
    refine .c (.loadRp rfl rfl ag9 sz9) ?_
    refine .c (x := .ptr n4 0) (.fldPtr rfl rfl Try.underlying82 rfl sz9 _ rfl) ?_
    refine .c (.load 0 rfl rfl rfl (.cast (.fld0 .here) rfl) ag9 sz9) ?_
    refine .c (x := eBool (decide (((lget p0 x15).f0) = ((lget p0 p1).f0)))) (.str rfl rfl rfl rfl) ?_
    refine .nK [0, 1, 5, 6, 29] ?_
    rcases oi h with ⟨c20, h⟩ | ⟨c20, h⟩
    ·refine .condP _ rfl c20 ?_
     refine .sr ?_
     refine .ag rfl rfl ?_
     refine .nS [4] [] ?_
     refine .rK [4] ?_
     cases h
     exact ⟨[(eI64 (9 : Int))], ⟨rfl, rfl, trivial⟩, rfl⟩
    refine .condN _ rfl c20 ?_
    refine .sK [0, 1, 5, 6] ?_
    refine .reg ?_
    refine .mv rfl rfl ?_
    refine .c (x := eI64 (w64 (x15 + (1 : Int)))) (.int rfl rfl rfl rfl) ?_
    refine .ag rfl rfl ?_
    refine .nK [0, 1, 5, 6] ?_
    exact ⟨kq17, Nat.lt_succ_self _, (w64 (x15 + (1 : Int))), rfl, rfl, by rw [hrec16]; exact h⟩
   refine .condN _ rfl c18 ?_
   refine .eK [5] ?_
   exact ⟨rfl, rfl, h⟩
  rintro _ _ ⟨rfl, rfl, h⟩
  rw [F68_c0.eq_1] at h
  refine .seq ?_
  refine .seq ?_
  obtain ⟨b7, q8, h⟩ := ob h
  refine .regM [(5, (.ptr n4 0)), (37, (eBool b7))] [(n4, (.mem (e82 (lget p0 p1))))] ?_ ?_
  ·refine .c (x := .ptr n4 1) (.fldPtr rfl rfl Try.underlying82 rfl sz3 _ rfl) ?_
   refine .c (.load 0 rfl rfl rfl (.cast (.fldS (.fld0 .here)) rfl) ag3 sz3) ?_
   refine .c (x := eBool (decide (((lget p0 p1).f1) < (0 : Int)))) (.int rfl rfl rfl rfl) ?_
   refine .mv rfl rfl ?_
   rcases oi q8 with ⟨c9, q8⟩ | ⟨c9, q8⟩
   ·refine .sF rfl rfl (bD (decide_eq_true c9)) ?_
    refine .sF rfl rfl (bD (decide_eq_true c9)) ?_
    refine .sF rfl rfl (bD (decide_eq_true c9)) ?_
    refine .c (.pickT rfl (bD (decide_eq_true c9)) rfl) ?_
    cases q8
    refine .nilE ⟨rfl, rfl⟩ ?_ ?_
    ·exact ⟨rfl, rfl, trivial⟩
    exact (.refl _)
   refine .cG (x := .ptr n4 1) rfl rfl (bD (decide_eq_false c9)) (.fldPtr rfl rfl Try.underlying82 rfl sz3 _ rfl) ?_
   refine .cG rfl rfl (bD (decide_eq_false c9)) (.load 0 rfl rfl rfl (.cast (.fldS (.fld0 .here)) rfl) ag3 sz3) ?_
   refine .cG (x := eBool (decide ((2 : Int) < ((lget p0 p1).f1)))) rfl rfl (bD (decide_eq_false c9)) (.int rfl rfl rfl rfl) ?_
   refine .c (.pickF rfl (bD (decide_eq_false c9)) rfl) ?_
   cases q8
   refine .nilE ⟨rfl, rfl⟩ ?_ ?_
   ·exact ⟨rfl, rfl, trivial⟩
   exact (.refl _)
  rcases oi h with ⟨c10, h⟩ | ⟨c10, h⟩
  ·refine .condT' _ rfl c10 ?_
   refine .sr ?_
   refine .ag rfl rfl ?_
   refine .nS [4] [] ?_
   refine .rK [4] ?_
   cases h
   exact ⟨[(eI64 (1 : Int))], ⟨rfl, rfl, trivial⟩, rfl⟩
  refine .condF' _ rfl c10 ?_
  refine .sK [5] ?_
  refine .sr ?_
  refine .c (x := .ptr n4 2) (.fldPtr rfl rfl Try.underlying82 rfl sz9 _ rfl) ?_
  refine .c (.load 0 rfl rfl rfl (.cast (.fldS (.fldS (.fld0 .here))) rfl) ag9 sz9) ?_
  obtain ⟨t11, et11, h⟩ := ob h
  refine .callS [(eStr ((lget p0 p1).f2))] (.tup [(Z12 t11.1), (eI64 t11.2)]) 41 rfl (by decide) ok33 rfl rfl rfl ⟨rfl, rfl, trivial⟩ (F33_spec et11) ?_
  refine .mv rfl rfl ?_
  refine .c (.extract rfl rfl rfl) ?_
  refine .c (.extract rfl rfl rfl) ?_
  refine .ag rfl rfl ?_
  refine .ag rfl rfl ?_
  refine .nS [7, 8] [] ?_
  refine .seq ?_
  refine .sr ?_
  refine .mv rfl rfl ?_
  refine .c (x := eBool (decide (t11.2 ≠ (0 : Int)))) (.int rfl rfl rfl rfl) ?_
  refine .nK [7, 8, 45] ?_
  rcases oi h with ⟨c12, h⟩ | ⟨c12, h⟩
  ·refine .condP _ rfl c12 ?_
   refine .sr ?_
   refine .mv rfl rfl ?_
   refine .ag rfl rfl ?_
   refine .nK [4] ?_
   refine .rK [4] ?_
   cases h
   exact ⟨[(eI64 t11.2)], ⟨rfl, rfl, trivial⟩, rfl⟩
  refine .condN _ rfl c12 ?_
  refine .sK [7] ?_
  refine .seq ?_
  refine .sr ?_
  refine .mv rfl rfl ?_
  obtain ⟨t13, et13, h⟩ := ob h
  refine .callS [(Z12 t11.1), (eStr (ByteArray.mk #[]))] (eBool t13) 48 rfl (by decide) ok36 rfl rfl rfl ⟨rfl, rfl, rfl, rfl, trivial⟩ (F36_spec et13) ?_
  refine .nK [48] ?_
  rcases oi h with ⟨c14, h⟩ | ⟨c14, h⟩
  ·refine .condT' _ rfl c14 ?_
   refine .sr ?_
   refine .ag rfl rfl ?_
   refine .nK [4] ?_
   refine .rK [4] ?_
   cases h
   exact ⟨[(eI64 (14 : Int))], ⟨rfl, rfl, trivial⟩, rfl⟩
  refine .condF' _ rfl c14 ?_
  refine .sK [] ?_
  refine .sr ?_
  refine .ag rfl rfl ?_
  refine .nK [4] ?_
  refine .rK [4] ?_
  cases h
  exact ⟨[(eI64 (0 : Int))], ⟨rfl, rfl, trivial⟩, rfl⟩
def F40_c0 (k : Nat) (p0 : (List S82)) : Option (Int × Int) :=
  some ((p0.length : Int), (0 : Int))
def F40_l1 (k : Nat) (p0 : (List S82)) : Nat → Int → Option (Int × Int)
  | 0, _ => none
  | j + 1, x3 =>
    if x3 < (p0.length : Int) then (F68 k p0 x3).bind fun t7 =>
    if t7 ≠ (0 : Int) then some (x3, t7)
    else (F40_l1 k p0 j) (w64 (x3 + (1 : Int)))
    else F40_c0 k p0
def F40 (k : Nat) (p0 : (List S82)) : Option (Int × Int) :=
  if (60 : Int) < (p0.length : Int) then some ((p0.length : Int), (6 : Int))
  else F40_l1 k p0 k (0 : Int)
theorem F40_spec {k : Nat} {p0 : (List S82)} {r : (Int × Int)} (h : F40 k p0 = some r) : Spec Try.prog 40 [(.fz 3 (p0.map e82))] (.tup [(eI64 r.1), (eI64 r.2)]) := by
  rw [F40.eq_1] at h
  refine Spec.intro (res := [.tmp 2, .tmp 3]) Try.func40 rfl rfl rfl (Nat.le_of_ble_eq_true rfl) ?_
  refine .sr ?_
  refine .ag rfl rfl ?_
  refine .ag rfl rfl ?_
  refine .nK [0] ?_
  refine .seq ?_
  refine .sr ?_
  refine .mv rfl rfl ?_
  refine .c (.lenL rfl rfl Try.underlying22) ?_
  refine .c (x := eBool (decide ((60 : Int) < (p0.length : Int)))) (.int rfl rfl rfl rfl) ?_
  refine .nK [0, 8] ?_
  rcases oi h with ⟨c2, h⟩ | ⟨c2, h⟩
  ·refine .condP _ rfl c2 ?_
   refine .sr ?_
   refine .mv rfl rfl ?_
   refine .c (.lenL rfl rfl Try.underlying22) ?_
   refine .ag rfl rfl ?_
   refine .ag rfl rfl ?_
   refine .nK [2, 3] ?_
   refine .rK [2, 3] ?_
   cases h
   exact ⟨[(eI64 (p0.length : Int)), (eI64 (6 : Int))], ⟨rfl, rfl, rfl, rfl, trivial⟩, rfl⟩
  refine .condN _ rfl c2 ?_
  refine .sK [0] ?_
  refine .seq_mid (fun ρ H => ρ = [(0, (.fz 3 (p0.map e82)))] ∧ H = [] ∧ F40_c0 k p0 = some r) ?_ ?_
  ·refine .sr ?_
   refine .ag rfl rfl ?_
   refine .nK [0, 4] ?_
   refine .block ?_
   refine .wK [0, 4] ?_
   refine .loop (fun kq ρ H => ∃ (x3 : Int), ρ = [(0, (.fz 3 (p0.map e82))), (4, (eI64 x3))] ∧ H = [] ∧ F40_l1 k p0 kq x3 = some r) k ⟨(0 : Int), rfl, rfl, h⟩ ?_
   rintro kq5 _ _ ⟨x3, rfl, rfl, h⟩
   cases kq5 with
   | zero => rw [F40_l1.eq_1] at h; cases h
   | succ kq5 =>
   rw [F40_l1.eq_2] at h
   generalize hrec4 : F40_l1 k p0 kq5 = rec4 at h
   refine .seq ?_
   refine .sr ?_
   refine .mv rfl rfl ?_
   refine .mv rfl rfl ?_
   refine .c (.lenL rfl rfl Try.underlying22) ?_
   refine .c (x := eBool (decide (x3 < (p0.length : Int)))) (.int rfl rfl rfl rfl) ?_
   refine .nK [0, 4, 14] ?_
   rcases oi h with ⟨c6, h⟩ | ⟨c6, h⟩
   ·refine .condP _ rfl c6 ?_
    refine .sK [0, 4] ?_
    refine .seq ?_
    refine .block ?_
    refine .sr ?_
    refine .mv rfl rfl ?_
    refine .mv rfl rfl ?_
    obtain ⟨t7, et7, h⟩ := ob h
    refine .callS [(.fz 3 (p0.map e82)), (eI64 x3)] (eI64 t7) 19 rfl (by decide) ok68 rfl rfl rfl ⟨rfl, rfl, rfl, rfl, trivial⟩ (F68_spec et7) ?_
    refine .ag rfl rfl ?_
    refine .nK [0, 4, 5] ?_
    refine .sr ?_
    refine .mv rfl rfl ?_
    refine .c (x := eBool (decide (t7 ≠ (0 : Int)))) (.int rfl rfl rfl rfl) ?_
    refine .nK [0, 4, 5, 21] ?_
    rcases oi h with ⟨c8, h⟩ | ⟨c8, h⟩
    ·refine .condP _ rfl c8 ?_
     refine .sr ?_
     refine .mv rfl rfl ?_
     refine .mv rfl rfl ?_
     refine .ag rfl rfl ?_
     refine .ag rfl rfl ?_
     refine .nK [2, 3] ?_
     refine .rK [2, 3] ?_
     have hr := Option.some.inj h
     subst hr
     exact ⟨[(eI64 x3), (eI64 t7)], ⟨rfl, rfl, rfl, rfl, trivial⟩, rfl⟩
    refine .condN _ rfl c8 ?_
    refine .sK [0, 4] ?_
    refine .reg ?_
    refine .mv rfl rfl ?_
    refine .c (x := eI64 (w64 (x3 + (1 : Int)))) (.int rfl rfl rfl rfl) ?_
    refine .ag rfl rfl ?_
    refine .nK [0, 4] ?_
    exact ⟨kq5, Nat.lt_succ_self _, (w64 (x3 + (1 : Int))), rfl, rfl, by rw [hrec4]; exact h⟩
   refine .condN _ rfl c6 ?_
   refine .eK [0] ?_
   exact ⟨rfl, rfl, h⟩
  rintro _ _ ⟨rfl, rfl, h⟩
  rw [F40_c0.eq_1] at h
  refine .sr ?_
  refine .mv rfl rfl ?_
  refine .c (.lenL rfl rfl Try.underlying22) ?_
  refine .ag rfl rfl ?_
  refine .ag rfl rfl ?_
  refine .nK [2, 3] ?_
  refine .rK [2, 3] ?_
  cases h
  exact ⟨[(eI64 (p0.length : Int)), (eI64 (0 : Int))], ⟨rfl, rfl, rfl, rfl, trivial⟩, rfl⟩
def F41_c0 (k : Nat) (x3 : (List Int)) : Option (List Int) :=
  some (x3)
def F41_l1 (k : Nat) (p0 : (List S82)) : Nat → (List Int) → Int → Option (List Int)
  | 0, _, _ => none
  | j + 1, x5, x6 =>
    if x6 < (p0.length : Int) then if 0 ≤ x6 ∧ x6 < (p0.length : Int) then if (x5 ++ ([(lget p0 x6).f1] : List Int)).length * 8 ≤ 140737488355328 then (F41_l1 k p0 j) (x5 ++ ([(lget p0 x6).f1] : List Int)) (w64 (x6 + (1 : Int)))
    else none
    else none
    else F41_c0 k x5
def F41 (k : Nat) (p0 : (List S82)) : Option (List Int) :=
  F41_l1 k p0 k ([] : List Int) (0 : Int)
theorem F41_spec {k : Nat} {p0 : (List S82)} {r : (List Int)} (h : F41 k p0 = some r) : Spec Try.prog 41 [(.fz 3 (p0.map e82))] (e35 r) := by
  rw [F41.eq_1] at h
  refine Spec.intro (res := [.tmp 2]) Try.func41 rfl rfl rfl (Nat.le_of_ble_eq_true rfl) ?_
  refine .sr ?_
  refine .ag rfl rfl ?_
  refine .nK [0] ?_
  refine .sr ?_
  refine .ag rfl rfl ?_
  refine .nK [0, 3] ?_
  refine .seq_mid (fun ρ H => ∃ (n2 : Nat) (x3 : (List Int)), ρ = [(3, (.own n2 0 x3.length))] ∧ H = [(n2, (Z3 x3))] ∧ F41_c0 k x3 = some r) ?_ ?_
  ·refine .sr ?_
   refine .mv rfl rfl ?_
   refine .c (.lenL rfl rfl Try.underlying22) ?_
   refine .mv rfl rfl ?_
   refine .nK [3, 6, 7, 8] ?_
   refine .block ?_
   refine .nilOwn 3 1 rfl fun n15 => ?_
   refine .wK [3, 6, 7, 8] ?_
   refine .loop (fun kq ρ H => ∃ (n4 : Nat) (x5 : (List Int)) (x6 : Int), ρ = [(3, (.own n4 0 x5.length)), (6, (.fz 3 (p0.map e82))), (7, (eI64 (p0.length : Int))), (8, (eI64 x6))] ∧ H = [(n4, (Z3 x5))] ∧ F41_l1 k p0 kq x5 x6 = some r) k ⟨n15, ([] : List Int), (0 : Int), rfl, rfl, h⟩ ?_
   rintro kq8 _ _ ⟨n4, x5, x6, rfl, rfl, h⟩
   cases kq8 with
   | zero => rw [F41_l1.eq_1] at h; cases h
   | succ kq8 =>
   rw [F41_l1.eq_2] at h
   generalize hrec7 : F41_l1 k p0 kq8 = rec7 at h
   refine .sr ?_
   refine .c (x := eBool (decide (x6 < (p0.length : Int)))) (.int rfl rfl rfl rfl) ?_
   refine .nK [3, 6, 7, 8, 9] ?_
   refine .seq ?_
   rcases oi h with ⟨c9, h⟩ | ⟨c9, h⟩
   ·refine .condP _ rfl c9 ?_
    refine .sK [3, 6, 7, 8] ?_
    refine .seq ?_
    refine .block ?_
    refine .sr ?_
    obtain ⟨g10, h⟩ := of_guard h
    refine .c (.idxL (f := e82) rfl rfl rfl g10 Try.underlying22 sz82) ?_
    refine .c (.loadRp rfl rfl ag82 sz82) ?_
    refine .alloc rfl 5 rfl (by decide) rfl zr82 lay82 fun n11 => ?_
    refine .store 0 rfl rfl rfl rfl rfl rfl (.cast .here rfl) rfl rfl sz82 rfl ?_
    refine .nS [3, 5, 6, 7, 8] [1, 0] ?_
    refine .reg ?_
    refine .mv rfl rfl ?_
    refine .c (x := .ptr n11 1) (.fldPtr rfl rfl Try.underlying82 rfl sz3 _ rfl) ?_
    refine .c (.load 1 rfl rfl rfl (.cast (.fldS (.fld0 .here)) rfl) ag3 sz3) ?_
    refine .lit (Z := (eI64 (0 : Int))) (xs := (([(lget p0 x6).f1] : List Int).map eI64)) (qs := [(0, (eI64 ((lget p0 x6).f1)))]) rfl 15 rfl (by decide) rfl ⟨rfl, rfl, rfl, trivial⟩ Try.underlying35 sz3 zr3 lay3 rfl (by decide) (litOK (z := 1) [(eI64 ((lget p0 x6).f1))] rfl ⟨⟨rfl, rfl⟩, trivial⟩) rfl fun n12 => ?_
    obtain ⟨g14, h⟩ := of_guard h
    refine .appendL (l := x5) (m := ([(lget p0 x6).f1] : List Int)) 1 16 rfl (by decide) rfl rfl rfl rfl rfl (Src.ownL (f := eI64) (l := ([(lget p0 x6).f1] : List Int)) 0 rfl) Try.underlying35 Try.underlying35 sz3 by3 zr3 rfl g14 (by decide) fun n13 => ?_
    refine .ag rfl rfl ?_
    refine .nS [3, 6, 7, 8] [1] ?_
    refine .reg ?_
    refine .c (x := eI64 (w64 (x6 + (1 : Int)))) (.int rfl rfl rfl rfl) ?_
    refine .mv rfl rfl ?_
    refine .nK [3, 6, 7, 8] ?_
    exact ⟨kq8, Nat.lt_succ_self _, n13, (x5 ++ ([(lget p0 x6).f1] : List Int)), (w64 (x6 + (1 : Int))), rfl, rfl, by rw [hrec7]; exact h⟩
   refine .condN _ rfl c9 ?_
   refine .eK [3] ?_
   exact ⟨n4, x5, rfl, rfl, h⟩
  rintro _ _ ⟨n2, x3, rfl, rfl, h⟩
  rw [F41_c0.eq_1] at h
  refine .sr ?_
  refine .mv rfl rfl ?_
  refine .ag rfl rfl ?_
  refine .nK [2] ?_
  refine .freezeS 0 [(2, (.fz 1 (x3.map eI64)))] rfl ⟨fz_all rfl, trivial⟩ ?_
  refine .rK [2] ?_
  have hr := Option.some.inj h
  subst hr
  exact ⟨[(.fz 1 (x3.map eI64))], ⟨rfl, rfl, trivial⟩, rfl⟩
def F42_c0 (k : Nat) : Option Int :=
  some ((-1 : Int))
def F42_l1 (k : Nat) (p0 : (List S82)) (p1 : ByteArray) : Nat → Int → Option Int
  | 0, _ => none
  | j + 1, x3 =>
    if x3 < (p0.length : Int) then if 0 ≤ x3 ∧ x3 < (p0.length : Int) then if ((lget p0 x3).f0) = p1 then some (x3)
    else (F42_l1 k p0 p1 j) (w64 (x3 + (1 : Int)))
    else none
    else F42_c0 k
def F42 (k : Nat) (p0 : (List S82)) (p1 : ByteArray) : Option Int :=
  F42_l1 k p0 p1 k (0 : Int)
theorem F42_spec {k : Nat} {p0 : (List S82)} {p1 : ByteArray} {r : Int} (h : F42 k p0 p1 = some r) : Spec Try.prog 42 [(.fz 3 (p0.map e82)), (eStr p1)] (eI64 r) := by
  rw [F42.eq_1] at h
  refine Spec.intro (res := [.tmp 4]) Try.func42 rfl rfl rfl (Nat.le_of_ble_eq_true rfl) ?_
  refine .sr ?_
  refine .ag rfl rfl ?_
  refine .nK [0, 1] ?_
  refine .seq_mid (fun ρ H => ρ = [] ∧ H = [] ∧ F42_c0 k = some r) ?_ ?_
  ·refine .sr ?_
   refine .mv rfl rfl ?_
   refine .c (.lenL rfl rfl Try.underlying22) ?_
   refine .mv rfl rfl ?_
   refine .nK [1, 7, 8, 9] ?_
   refine .block ?_
   refine .wK [1, 7, 8, 9] ?_
   refine .loop (fun kq ρ H => ∃ (x3 : Int), ρ = [(1, (eStr p1)), (7, (.fz 3 (p0.map e82))), (8, (eI64 (p0.length : Int))), (9, (eI64 x3))] ∧ H = [] ∧ F42_l1 k p0 p1 kq x3 = some r) k ⟨(0 : Int), rfl, rfl, h⟩ ?_
   rintro kq5 _ _ ⟨x3, rfl, rfl, h⟩
   cases kq5 with
   | zero => rw [F42_l1.eq_1] at h; cases h
   | succ kq5 =>
   rw [F42_l1.eq_2] at h
   generalize hrec4 : F42_l1 k p0 p1 kq5 = rec4 at h
   refine .sr ?_
   refine .c (x := eBool (decide (x3 < (p0.length : Int)))) (.int rfl rfl rfl rfl) ?_
   refine .nK [1, 7, 8, 9, 10] ?_
   refine .seq ?_
   rcases oi h with ⟨c6, h⟩ | ⟨c6, h⟩
   ·refine .condP _ rfl c6 ?_
    refine .sK [1, 7, 8, 9] ?_
    refine .seq ?_
    refine .block ?_
    refine .sr ?_
    refine .mv rfl rfl ?_
    obtain ⟨g7, h⟩ := of_guard h
    refine .c (.idxL (f := e82) rfl rfl rfl g7 Try.underlying22 sz82) ?_
    refine .c (.loadRp rfl rfl ag82 sz82) ?_
    refine .alloc rfl 6 rfl (by decide) rfl zr82 lay82 fun n8 => ?_
    refine .ag rfl rfl ?_
    refine .store 0 rfl rfl rfl rfl rfl rfl (.cast .here rfl) rfl rfl sz82 rfl ?_
    refine .nK [1, 5, 6, 7, 8, 9] ?_
    refine .sr ?_
    refine .c (x := .ptr n8 0) (.fldPtr rfl rfl Try.underlying82 rfl sz9 _ rfl) ?_
    refine .c (.load 0 rfl rfl rfl (.cast (.fld0 .here) rfl) ag9 sz9) ?_
    refine .mv rfl rfl ?_
    refine .c (x := eBool (decide (((lget p0 x3).f0) = p1))) (.str rfl rfl rfl rfl) ?_
    refine .nS [1, 5, 7, 8, 9, 17] [] ?_
    rcases oi h with ⟨c9, h⟩ | ⟨c9, h⟩
    ·refine .condP _ rfl c9 ?_
     refine .sr ?_
     refine .mv rfl rfl ?_
     refine .ag rfl rfl ?_
     refine .nK [4] ?_
     refine .rK [4] ?_
     have hr := Option.some.inj h
     subst hr
     exact ⟨[(eI64 x3)], ⟨rfl, rfl, trivial⟩, rfl⟩
    refine .condN _ rfl c9 ?_
    refine .sK [1, 7, 8, 9] ?_
    refine .reg ?_
    refine .c (x := eI64 (w64 (x3 + (1 : Int)))) (.int rfl rfl rfl rfl) ?_
    refine .mv rfl rfl ?_
    refine .nK [1, 7, 8, 9] ?_
    exact ⟨kq5, Nat.lt_succ_self _, (w64 (x3 + (1 : Int))), rfl, rfl, by rw [hrec4]; exact h⟩
   refine .condN _ rfl c6 ?_
   refine .eK [] ?_
   exact ⟨rfl, rfl, h⟩
  rintro _ _ ⟨rfl, rfl, h⟩
  rw [F42_c0.eq_1] at h
  refine .sr ?_
  refine .ag rfl rfl ?_
  refine .nK [4] ?_
  refine .rK [4] ?_
  cases h
  exact ⟨[(eI64 (-1 : Int))], ⟨rfl, rfl, trivial⟩, rfl⟩
def F8_c0 (k : Nat) (p0 : (List S82)) (p1 : ByteArray) (t10 : (Int × Int)) (t11 : (Int × Int)) (x14 : Int) : Option Bool :=
  if t10.2 = (6 : Int) then some (true)
  else Option.bind (α := Bool) (if t10.1 = t11.1 then if t10.2 = t11.2 then (F42 k p0 p1).bind fun t20 =>
  some (decide (t20 = x14))
  else some (false)
  else some (false)) fun b16 =>
  some (b16)
def F8_c1 (k : Nat) (rec23 : (Int → Int → Option Bool)) (x22 : Int) (x26 : Int) : Option Bool :=
  rec23 x26 (w64 (x22 + (1 : Int)))
def F8_l2 (k : Nat) (p0 : (List S82)) (p1 : ByteArray) (t10 : (Int × Int)) (t11 : (Int × Int)) (t12 : (List Int)) : Nat → Int → Int → Option Bool
  | 0, _, _ => none
  | j + 1, x21, x22 =>
    if x22 < (p0.length : Int) then if 0 ≤ x22 ∧ x22 < (t12.length : Int) then if 0 ≤ x22 ∧ x22 < (p0.length : Int) then if (lget t12 x22) ≠ ((lget p0 x22).f1) then some (false)
    else Option.bind (α := Bool) (if x21 < (0 : Int) then if 0 ≤ x22 ∧ x22 < (p0.length : Int) then some (decide (((lget p0 x22).f0) = p1))
    else none
    else some (false)) fun b30 =>
    if b30 = true then F8_c1 k (F8_l2 k p0 p1 t10 t11 t12 j) x22 x22
    else F8_c1 k (F8_l2 k p0 p1 t10 t11 t12 j) x22 x21
    else none
    else none
    else F8_c0 k p0 p1 t10 t11 x21
def F8 (k : Nat) (p0 : (List S82)) (p1 : ByteArray) : Option Bool :=
  (F26 k).bind fun t3 =>
  if (!t3) = true then some (false)
  else Option.bind (α := Bool) ((F38 k p0).bind fun t7 =>
  if (!t7) = true then some (true)
  else some (decide ((100 : Int) < (p1.size : Int)))) fun b5 =>
  if b5 = true then some (true)
  else (F39 k p0).bind fun t10 =>
  (F40 k p0).bind fun t11 =>
  (F41 k p0).bind fun t12 =>
  if (t12.length : Int) ≠ (p0.length : Int) then some (false)
  else F8_l2 k p0 p1 t10 t11 t12 k (-1 : Int) (0 : Int)
theorem F8_spec {k : Nat} {p0 : (List S82)} {p1 : ByteArray} {r : Bool} (h : F8 k p0 p1 = some r) : Spec Try.prog 8 [(.fz 3 (p0.map e82)), (eStr p1)] (eBool r) := by
  rw [F8.eq_1] at h
  refine Spec.intro (res := [.tmp 4]) Try.func8 rfl rfl rfl (Nat.le_of_ble_eq_true rfl) ?_
  refine .sr ?_
  refine .ag rfl rfl ?_
  refine .nK [0, 1] ?_
  refine .seq ?_
  refine .sr ?_
  obtain ⟨t3, et3, h⟩ := ob h
  refine .callS [] (eBool t3) 12 rfl (by decide) ok26 rfl rfl rfl trivial (F26_spec et3) ?_
  refine .c (.not rfl rfl) ?_
  refine .nK [0, 1, 13] ?_
  rcases oi h with ⟨c4, h⟩ | ⟨c4, h⟩
  ·refine .condT' _ rfl c4 ?_
   refine .sr ?_
   refine .ag rfl rfl ?_
   refine .nK [4] ?_
   refine .rK [4] ?_
   have hr := Option.some.inj h
   subst hr
   exact ⟨[(eBool false)], ⟨rfl, rfl, trivial⟩, rfl⟩
  refine .condF' _ rfl c4 ?_
  refine .sK [0, 1] ?_
  refine .seq ?_
  refine .seq ?_
  obtain ⟨b5, q6, h⟩ := ob h
  refine .regM [(0, (.fz 3 (p0.map e82))), (1, (eStr p1)), (21, (eBool b5))] [] ?_ ?_
  ·refine .mv rfl rfl ?_
   obtain ⟨t7, et7, q6⟩ := ob q6
   refine .callS [(.fz 3 (p0.map e82))] (eBool t7) 15 rfl (by decide) ok38 rfl rfl rfl ⟨rfl, rfl, trivial⟩ (F38_spec et7) ?_
   refine .c (.not rfl rfl) ?_
   refine .mv rfl rfl ?_
   rcases oi q6 with ⟨c8, q6⟩ | ⟨c8, q6⟩
   ·refine .sF rfl rfl (bD c8) ?_
    refine .sF rfl rfl (bD c8) ?_
    refine .sF rfl rfl (bD c8) ?_
    refine .c (.pickT rfl (bD c8) rfl) ?_
    cases q6
    refine .nilE ⟨rfl, rfl⟩ ?_ ?_
    ·exact ⟨rfl, rfl, rfl, trivial⟩
    exact (.refl _)
   refine .cG rfl rfl (bD (eq_false_of_ne_true c8)) (.move rfl rfl) ?_
   refine .cG rfl rfl (bD (eq_false_of_ne_true c8)) (.lenStr rfl rfl Try.underlying9) ?_
   refine .cG (x := eBool (decide ((100 : Int) < (p1.size : Int)))) rfl rfl (bD (eq_false_of_ne_true c8)) (.int rfl rfl rfl rfl) ?_
   refine .c (.pickF rfl (bD (eq_false_of_ne_true c8)) rfl) ?_
   cases q6
   refine .nilE ⟨rfl, rfl⟩ ?_ ?_
   ·exact ⟨rfl, rfl, rfl, trivial⟩
   exact (.refl _)
  rcases oi h with ⟨c9, h⟩ | ⟨c9, h⟩
  ·refine .condT' _ rfl c9 ?_
   refine .sr ?_
   refine .ag rfl rfl ?_
   refine .nK [4] ?_
   refine .rK [4] ?_
   have hr := Option.some.inj h
   subst hr
   exact ⟨[(eBool true)], ⟨rfl, rfl, trivial⟩, rfl⟩
  refine .condF' _ rfl c9 ?_
  refine .sK [0, 1] ?_
  refine .sr ?_
  refine .mv rfl rfl ?_
  obtain ⟨t10, et10, h⟩ := ob h
  refine .callS [(.fz 3 (p0.map e82))] (.tup [(eI64 t10.1), (eI64 t10.2)]) 24 rfl (by decide) ok39 rfl rfl rfl ⟨rfl, rfl, trivial⟩ (F39_spec et10) ?_
  refine .mv rfl rfl ?_
  refine .c (.extract rfl rfl rfl) ?_
  refine .c (.extract rfl rfl rfl) ?_
  refine .ag rfl rfl ?_
  refine .ag rfl rfl ?_
  refine .nK [0, 1, 5, 6] ?_
  refine .sr ?_
  refine .mv rfl rfl ?_
  obtain ⟨t11, et11, h⟩ := ob h
  refine .callS [(.fz 3 (p0.map e82))] (.tup [(eI64 t11.1), (eI64 t11.2)]) 29 rfl (by decide) ok40 rfl rfl rfl ⟨rfl, rfl, trivial⟩ (F40_spec et11) ?_
  refine .mv rfl rfl ?_
  refine .c (.extract rfl rfl rfl) ?_
  refine .c (.extract rfl rfl rfl) ?_
  refine .ag rfl rfl ?_
  refine .ag rfl rfl ?_
  refine .nK [0, 1, 5, 6, 7, 8] ?_
  refine .sr ?_
  refine .mv rfl rfl ?_
  obtain ⟨t12, et12, h⟩ := ob h
  refine .callS [(.fz 3 (p0.map e82))] (.fz 1 (t12.map eI64)) 33 rfl (by decide) ok41 rfl rfl rfl ⟨rfl, rfl, trivial⟩ (F41_spec et12) ?_
  refine .ag rfl rfl ?_
  refine .ag rfl rfl ?_
  refine .nK [0, 1, 5, 6, 7, 8, 9, 10] ?_
  refine .seq ?_
  refine .sr ?_
  refine .mv rfl rfl ?_
  refine .c (.lenL rfl rfl Try.underlying35) ?_
  refine .mv rfl rfl ?_
  refine .c (.lenL rfl rfl Try.underlying22) ?_
  refine .c (x := eBool (decide ((t12.length : Int) ≠ (p0.length : Int)))) (.int rfl rfl rfl rfl) ?_
  refine .nK [0, 1, 5, 6, 7, 8, 9, 10, 38] ?_
  rcases oi h with ⟨c13, h⟩ | ⟨c13, h⟩
  ·refine .condP _ rfl c13 ?_
   refine .sr ?_
   refine .ag rfl rfl ?_
   refine .nK [4] ?_
   refine .rK [4] ?_
   have hr := Option.some.inj h
   subst hr
   exact ⟨[(eBool false)], ⟨rfl, rfl, trivial⟩, rfl⟩
  refine .condN _ rfl c13 ?_
  refine .sK [0, 1, 5, 6, 7, 8, 9, 10] ?_
  refine .seq_mid (fun ρ H => ∃ (x14 : Int), ρ = [(0, (.fz 3 (p0.map e82))), (1, (eStr p1)), (5, (eI64 t10.1)), (6, (eI64 t10.2)), (7, (eI64 t11.1)), (8, (eI64 t11.2)), (10, (eI64 x14))] ∧ H = [] ∧ F8_c0 k p0 p1 t10 t11 x14 = some r) ?_ ?_
  ·refine .sr ?_
   refine .ag rfl rfl ?_
   refine .nK [0, 1, 5, 6, 7, 8, 9, 10, 11] ?_
   refine .block ?_
   refine .wK [0, 1, 5, 6, 7, 8, 9, 10, 11] ?_
   refine .loop (fun kq ρ H => ∃ (x21 : Int) (x22 : Int), ρ = [(0, (.fz 3 (p0.map e82))), (1, (eStr p1)), (5, (eI64 t10.1)), (6, (eI64 t10.2)), (7, (eI64 t11.1)), (8, (eI64 t11.2)), (9, (.fz 1 (t12.map eI64))), (10, (eI64 x21)), (11, (eI64 x22))] ∧ H = [] ∧ F8_l2 k p0 p1 t10 t11 t12 kq x21 x22 = some r) k ⟨(-1 : Int), (0 : Int), rfl, rfl, h⟩ ?_
   rintro kq24 _ _ ⟨x21, x22, rfl, rfl, h⟩
   cases kq24 with
   | zero => rw [F8_l2.eq_1] at h; cases h
   | succ kq24 =>
   rw [F8_l2.eq_2] at h
   generalize hrec23 : F8_l2 k p0 p1 t10 t11 t12 kq24 = rec23 at h
   refine .seq ?_
   refine .sr ?_
   refine .mv rfl rfl ?_
   refine .mv rfl rfl ?_
   refine .c (.lenL rfl rfl Try.underlying22) ?_
   refine .c (x := eBool (decide (x22 < (p0.length : Int)))) (.int rfl rfl rfl rfl) ?_
   refine .nK [0, 1, 5, 6, 7, 8, 9, 10, 11, 42] ?_
   rcases oi h with ⟨c25, h⟩ | ⟨c25, h⟩
   ·refine .condP _ rfl c25 ?_
    refine .sK [0, 1, 5, 6, 7, 8, 9, 10, 11] ?_
    refine .seq_mid (fun ρ H => ∃ (x26 : Int), ρ = [(0, (.fz 3 (p0.map e82))), (1, (eStr p1)), (5, (eI64 t10.1)), (6, (eI64 t10.2)), (7, (eI64 t11.1)), (8, (eI64 t11.2)), (9, (.fz 1 (t12.map eI64))), (10, (eI64 x26)), (11, (eI64 x22))] ∧ H = [] ∧ F8_c1 k rec23 x22 x26 = some r) ?_ ?_
    ·refine .block ?_
     refine .seq ?_
     refine .seq ?_
     refine .regQ (by rfl) (by decide +kernel) ?_
     refine .c (.move rfl rfl) ?_
     refine .c (.move rfl rfl) ?_
     obtain ⟨g27, h⟩ := of_guard h
     refine .c (.idxL (f := eI64) rfl rfl rfl g27 Try.underlying35 sz3) ?_
     refine .c (.loadRp rfl rfl ag3 sz3) ?_
     refine .c (.move rfl rfl) ?_
     refine .c (.move rfl rfl) ?_
     obtain ⟨g28, h⟩ := of_guard h
     refine .c (.idxL (f := e82) rfl rfl rfl g28 Try.underlying22 sz82) ?_
     refine .c (.fldRp rfl rfl Try.underlying82 rfl sz3 (.cast (.fldS (.fld0 .here)) rfl)) ?_
     refine .c (.loadRp rfl rfl ag3 sz3) ?_
     refine .c (x := eBool (decide ((lget t12 x22) ≠ ((lget p0 x22).f1)))) (.int rfl rfl rfl rfl) ?_
     refine .nK [0, 1, 5, 6, 7, 8, 9, 10, 11, 54] ?_
     rcases oi h with ⟨c29, h⟩ | ⟨c29, h⟩
     ·refine .condP _ rfl c29 ?_
      refine .sr ?_
      refine .ag rfl rfl ?_
      refine .nK [4] ?_
      refine .rK [4] ?_
      have hr := Option.some.inj h
      subst hr
      exact ⟨[(eBool false)], ⟨rfl, rfl, trivial⟩, rfl⟩
     refine .condN _ rfl c29 ?_
     refine .sK [0, 1, 5, 6, 7, 8, 9, 10, 11] ?_
     refine .seq ?_
     obtain ⟨b30, q31, h⟩ := ob h
     refine .regM [(0, (.fz 3 (p0.map e82))), (1, (eStr p1)), (5, (eI64 t10.1)), (6, (eI64 t10.2)), (7, (eI64 t11.1)), (8, (eI64 t11.2)), (9, (.fz 1 (t12.map eI64))), (10, (eI64 x21)), (11, (eI64 x22)), (65, (eBool b30))] [] ?_ ?_
     ·refine .mv rfl rfl ?_
      refine .c (x := eBool (decide (x21 < (0 : Int)))) (.int rfl rfl rfl rfl) ?_
      refine .mv rfl rfl ?_
      rcases oi q31 with ⟨c32, q31⟩ | ⟨c32, q31⟩
      ·refine .cG rfl rfl (bD (decide_eq_true c32)) (.move rfl rfl) ?_
       refine .cG rfl rfl (bD (decide_eq_true c32)) (.move rfl rfl) ?_
       obtain ⟨g33, q31⟩ := of_guard q31
       refine .cG rfl rfl (bD (decide_eq_true c32)) (.idxL (f := e82) rfl rfl rfl g33 Try.underlying22 sz82) ?_
       refine .cG rfl rfl (bD (decide_eq_true c32)) (.fldRp rfl rfl Try.underlying82 rfl sz9 (.cast (.fld0 .here) rfl)) ?_
       refine .cG rfl rfl (bD (decide_eq_true c32)) (.loadRp rfl rfl ag9 sz9) ?_
       refine .cG rfl rfl (bD (decide_eq_true c32)) (.move rfl rfl) ?_
       refine .cG (x := eBool (decide (((lget p0 x22).f0) = p1))) rfl rfl (bD (decide_eq_true c32)) (.str rfl rfl rfl rfl) ?_
       refine .c (.pickT rfl (bD (decide_eq_true c32)) rfl) ?_
       cases q31
       refine .nilE ⟨rfl, rfl⟩ ?_ ?_
       ·exact ⟨rfl, rfl, rfl, rfl, rfl, rfl, rfl, rfl, rfl, rfl, trivial⟩
       exact (.refl _)
      refine .sT rfl rfl (bD (decide_eq_false c32)) ?_
      refine .sT rfl rfl (bD (decide_eq_false c32)) ?_
      refine .sT rfl rfl (bD (decide_eq_false c32)) ?_
      refine .sT rfl rfl (bD (decide_eq_false c32)) ?_
      refine .sT rfl rfl (bD (decide_eq_false c32)) ?_
      refine .sT rfl rfl (bD (decide_eq_false c32)) ?_
      refine .sT rfl rfl (bD (decide_eq_false c32)) ?_
      refine .c (.pickF rfl (bD (decide_eq_false c32)) rfl) ?_
      cases q31
      refine .nilE ⟨rfl, rfl⟩ ?_ ?_
      ·exact ⟨rfl, rfl, rfl, rfl, rfl, rfl, rfl, rfl, rfl, rfl, trivial⟩
      exact (.refl _)
     rcases oi h with ⟨c34, h⟩ | ⟨c34, h⟩
     ·refine .condT' _ rfl c34 ?_
      refine .reg ?_
      refine .mv rfl rfl ?_
      refine .ag rfl rfl ?_
      refine .nK [0, 1, 5, 6, 7, 8, 9, 10, 11] ?_
      exact ⟨x22, rfl, rfl, h⟩
     refine .condF' _ rfl c34 ?_
     refine .sK [0, 1, 5, 6, 7, 8, 9, 10, 11] ?_
     exact ⟨x21, rfl, rfl, h⟩
    rintro _ _ ⟨x26, rfl, rfl, h⟩
    rw [F8_c1.eq_1] at h
    refine .reg ?_
    refine .mv rfl rfl ?_
    refine .c (x := eI64 (w64 (x22 + (1 : Int)))) (.int rfl rfl rfl rfl) ?_
    refine .ag rfl rfl ?_
    refine .nK [0, 1, 5, 6, 7, 8, 9, 10, 11] ?_
    exact ⟨kq24, Nat.lt_succ_self _, x26, (w64 (x22 + (1 : Int))), rfl, rfl, by rw [hrec23]; exact h⟩
   refine .condN _ rfl c25 ?_
   refine .eK [0, 1, 5, 6, 7, 8, 10] ?_
   exact ⟨x21, rfl, rfl, h⟩
  rintro _ _ ⟨x14, rfl, rfl, h⟩
  rw [F8_c0.eq_1] at h
  refine .seq ?_
  refine .sr ?_
  refine .mv rfl rfl ?_
  refine .c (x := eBool (decide (t10.2 = (6 : Int)))) (.int rfl rfl rfl rfl) ?_
  refine .nK [0, 1, 5, 6, 7, 8, 10, 68] ?_
  rcases oi h with ⟨c15, h⟩ | ⟨c15, h⟩
  ·refine .condP _ rfl c15 ?_
   refine .sr ?_
   refine .ag rfl rfl ?_
   refine .nK [4] ?_
   refine .rK [4] ?_
   have hr := Option.some.inj h
   subst hr
   exact ⟨[(eBool true)], ⟨rfl, rfl, trivial⟩, rfl⟩
  refine .condN _ rfl c15 ?_
  refine .sK [0, 1, 5, 6, 7, 8, 10] ?_
  refine .seq ?_
  obtain ⟨b16, q17, h⟩ := ob h
  refine .regM [(4, (eBool b16))] [] ?_ ?_
  ·refine .mv rfl rfl ?_
   refine .mv rfl rfl ?_
   refine .c (x := eBool (decide (t10.1 = t11.1))) (.int rfl rfl rfl rfl) ?_
   refine .mv rfl rfl ?_
   rcases oi q17 with ⟨c18, q17⟩ | ⟨c18, q17⟩
   ·refine .cG rfl rfl (bD (decide_eq_true c18)) (.move rfl rfl) ?_
    refine .cG rfl rfl (bD (decide_eq_true c18)) (.move rfl rfl) ?_
    refine .cG (x := eBool (decide (t10.2 = t11.2))) rfl rfl (bD (decide_eq_true c18)) (.int rfl rfl rfl rfl) ?_
    refine .c (.pickT rfl (bD (decide_eq_true c18)) rfl) ?_
    refine .mv rfl rfl ?_
    rcases oi q17 with ⟨c19, q17⟩ | ⟨c19, q17⟩
    ·refine .cG rfl rfl (bD (decide_eq_true c19)) (.move rfl rfl) ?_
     refine .cG rfl rfl (bD (decide_eq_true c19)) (.move rfl rfl) ?_
     obtain ⟨t20, et20, q17⟩ := ob q17
     refine .callG 8 true 77 [(.fz 3 (p0.map e82)), (eStr p1)] (eI64 t20) 80 rfl (by decide) ok42 rfl rfl (bD (decide_eq_true c19)) rfl rfl ⟨rfl, rfl, rfl, rfl, trivial⟩ (F42_spec et20) ?_
     refine .cG rfl rfl (bD (decide_eq_true c19)) (.move rfl rfl) ?_
     refine .cG (x := eBool (decide (t20 = x14))) rfl rfl (bD (decide_eq_true c19)) (.int rfl rfl rfl rfl) ?_
     refine .c (.pickT rfl (bD (decide_eq_true c19)) rfl) ?_
     refine .ag rfl rfl ?_
     cases q17
     refine .nilE ⟨rfl, rfl⟩ ?_ ?_
     ·exact ⟨rfl, trivial⟩
     exact (.refl _)
    refine .sT rfl rfl (bD (decide_eq_false c19)) ?_
    refine .sT rfl rfl (bD (decide_eq_false c19)) ?_
    refine .sT rfl rfl (bD (decide_eq_false c19)) ?_
    refine .sT rfl rfl (bD (decide_eq_false c19)) ?_
    refine .sT rfl rfl (bD (decide_eq_false c19)) ?_
    refine .c (.pickF rfl (bD (decide_eq_false c19)) rfl) ?_
    refine .ag rfl rfl ?_
    cases q17
    refine .nilE ⟨rfl, rfl⟩ ?_ ?_
    ·exact ⟨rfl, trivial⟩
    exact (.refl _)
   refine .sT rfl rfl (bD (decide_eq_false c18)) ?_
   refine .sT rfl rfl (bD (decide_eq_false c18)) ?_
   refine .sT rfl rfl (bD (decide_eq_false c18)) ?_
   refine .c (.pickF rfl (bD (decide_eq_false c18)) rfl) ?_
   refine .mv rfl rfl ?_
   refine .sT rfl rfl rfl ?_
   refine .sT rfl rfl rfl ?_
   refine .sT rfl rfl rfl ?_
   refine .sT rfl rfl rfl ?_
   refine .sT rfl rfl rfl ?_
   refine .c (.pickF rfl rfl rfl) ?_
   refine .ag rfl rfl ?_
   cases q17
   refine .nilE ⟨rfl, rfl⟩ ?_ ?_
   ·exact ⟨rfl, trivial⟩
   exact (.refl _)
  refine .rK [4] ?_
  have hr := Option.some.inj h
  subst hr
  exact ⟨[(eBool b16)], ⟨rfl, rfl, trivial⟩, rfl⟩
end Go.Avl.T7
