/- Parts: T7f92, T7f73, T7f93, T7f134, T7f120, T7f121. -/
import Derived.Test.YtpkgpmmcbpfenaaAF1
import Derived.Test.YtpkgpmmcbpfenaaAF2
/- (*bosket/rex.reader).alt, (*bosket/rex.reader).cat, (*bosket/rex.reader).repeat, (*bosket/rex.reader).one; printed by avmain.py. -/
namespace Go.Avl.T7
open Go Go.RowKit Go.Proofs Go.Avl
set_option linter.unusedVariables false
set_option maxRecDepth 100000
set_option maxHeartbeats 4000000
attribute [local irreducible] AW AO AQ Spec SpecH Calm

def F92a_c0 (k : Nat) (x4 : (List S131)) (b5 : Bool) (x6 : ByteArray) (x7 : Int) (x8 : Int) : Option ((List S131) × Bool × S140) :=
  some (x4, b5, (S140.mk x6 x7 x8))
def F92a_l1 (k : Nat) (self115 : (S140 → Option ((List S131) × Bool × S140))) : Nat → ByteArray → Int → Int → (List S131) → Bool → Option ((List S131) × Bool × S140)
  | 0, _, _, _, _, _ => none
  | j + 1, x9, x10, x11, x12, b13 =>
    Option.bind (α := ByteArray × Int × Int × Bool) (if b13 = true then (F116 k (S140.mk x9 x10 x11) (124 : Int)).bind fun t22 =>
    some (t22.2.f0, t22.2.f1, t22.2.f2, t22.1)
    else some (x9, x10, x11, false)) fun (x16, x17, x18, b19) =>
    if b19 = true then (self115 (S140.mk x16 x17 x18)).bind fun t25 =>
    (F117 k (3 : Int) [x12, t25.1]).bind fun t28 =>
    (F92a_l1 k self115 j) t25.2.2.f0 t25.2.2.f1 t25.2.2.f2 t28 t25.2.1
    else F92a_c0 k x12 b13 x16 x17 x18
def F92b_c0 (k : Nat) (x4 : (List S131)) (b5 : Bool) (x6 : ByteArray) (x7 : Int) (x8 : Int) : Option ((List S131) × Bool × S140) :=
  some (x4, b5, (S140.mk x6 x7 x8))
def F92b_l1 (k : Nat) (self132 : (S140 → Option ((List S131) × Bool × S140))) : Nat → ByteArray → Int → Int → (List S131) → Bool → Option ((List S131) × Bool × S140)
  | 0, _, _, _, _, _ => none
  | j + 1, x9, x10, x11, x12, b13 =>
    Option.bind (α := Bool) (if b13 = true then (F133 k (S140.mk x9 x10 x11) (ByteArray.mk #[124, 41])).bind fun t19 =>
    some (!t19)
    else some (false)) fun b16 =>
    if b16 = true then (self132 (S140.mk x9 x10 x11)).bind fun t22 =>
    (F117 k (2 : Int) [x12, t22.1]).bind fun t25 =>
    (F92b_l1 k self132 j) t22.2.2.f0 t22.2.2.f1 t22.2.2.f2 t25 t22.2.1
    else F92b_c0 k x12 b13 x9 x10 x11
def F92c_c0 (k : Nat) (x4 : ByteArray) (x5 : Int) (x6 : Int) : Option ((List S131) × Bool × S140) :=
  some ([], false, (S140.mk x4 x5 x6))
def F92c_l1 (k : Nat) (t2 : ((List S131) × Bool × S140)) : Nat → ByteArray → Int → Int → (List S131) → Option ((List S131) × Bool × S140)
  | 0, _, _, _, _ => none
  | j + 1, x7, x8, x9, x10 =>
    if t2.2.1 = true then (F116 k (S140.mk x7 x8 x9) (42 : Int)).bind fun t14 =>
    if t14.1 = true then (F117 k (4 : Int) [x10]).bind fun t18 =>
    (F92c_l1 k t2 j) t14.2.f0 t14.2.f1 t14.2.f2 t18
    else (F116 k t14.2 (43 : Int)).bind fun t19 =>
    if t19.1 = true then (F117 k (5 : Int) [x10]).bind fun t23 =>
    (F92c_l1 k t2 j) t19.2.f0 t19.2.f1 t19.2.f2 t23
    else (F116 k t19.2 (63 : Int)).bind fun t24 =>
    if t24.1 = true then (F117 k (6 : Int) [x10]).bind fun t28 =>
    (F92c_l1 k t2 j) t24.2.f0 t24.2.f1 t24.2.f2 t28
    else some (x10, true, t24.2)
    else F92c_c0 k x7 x8 x9
mutual
def F92a_r (k : Nat) : Nat → S140 → Option ((List S131) × Bool × S140)
  | 0, _ => none
  | j + 1, p0 =>
    ((F92b_r k j) p0).bind fun t2 =>
    F92a_l1 k (F92b_r k j) k t2.2.2.f0 t2.2.2.f1 t2.2.2.f2 t2.1 t2.2.1
def F92b_r (k : Nat) : Nat → S140 → Option ((List S131) × Bool × S140)
  | 0, _ => none
  | j + 1, p0 =>
    ((F92c_r k j) p0).bind fun t2 =>
    F92b_l1 k (F92c_r k j) k t2.2.2.f0 t2.2.2.f1 t2.2.2.f2 t2.1 t2.2.1
def F92c_r (k : Nat) : Nat → S140 → Option ((List S131) × Bool × S140)
  | 0, _ => none
  | j + 1, p0 =>
    ((F92d_r k j) p0).bind fun t2 =>
    F92c_l1 k t2 k t2.2.2.f0 t2.2.2.f1 t2.2.2.f2 t2.1
def F92d_r (k : Nat) : Nat → S140 → Option ((List S131) × Bool × S140)
  | 0, _ => none
  | j + 1, p0 =>
    (F133 k p0 (ByteArray.mk #[124, 41, 42, 43, 63, 93, 47, 34])).bind fun t2 =>
    if t2 = true then some ([], false, p0)
    else (F116 k p0 (46 : Int)).bind fun t5 =>
    if t5.1 = true then (F142 k).bind fun t8 =>
    some ([(S131.mk (1 : Int) t8)], true, t5.2)
    else (F116 k t5.2 (126 : Int)).bind fun t10 =>
    if t10.1 = true then some ([(S131.mk (0 : Int) (Vector.replicate 4 (0 : Int)))], true, t10.2)
    else (F116 k t10.2 (40 : Int)).bind fun t14 =>
    if t14.1 = true then ((F92a_r k j) (S140.mk t14.2.f0 t14.2.f1 (w64 (t14.2.f2 + (1 : Int))))).bind fun t17 =>
    Option.bind (α := Bool × ByteArray × Int × Int) (if t17.2.1 = true then if (w64 (t17.2.2.f2 - (1 : Int))) < (99 : Int) then (F116 k (S140.mk t17.2.2.f0 t17.2.2.f1 (w64 (t17.2.2.f2 - (1 : Int)))) (41 : Int)).bind fun t26 =>
    some (t26.1, t26.2.f0, t26.2.f1, t26.2.f2)
    else some (false, t17.2.2.f0, t17.2.2.f1, (w64 (t17.2.2.f2 - (1 : Int))))
    else some (false, t17.2.2.f0, t17.2.2.f1, (w64 (t17.2.2.f2 - (1 : Int))))) fun (b19, x20, x21, x22) =>
    some (t17.1, b19, (S140.mk x20 x21 x22))
    else (F116 k t14.2 (91 : Int)).bind fun t28 =>
    if t28.1 = true then (F143 k t28.2).bind fun t31 =>
    some (t31.1, t31.2.1, t31.2.2)
    else (F144 k t28.2).bind fun t33 =>
    (F61 k [t33.1]).bind fun t36 =>
    some ([(S131.mk (1 : Int) t36)], t33.2.1, t33.2.2)
end
def F92a (k : Nat) (p0 : S140) : Option ((List S131) × Bool × S140) := F92a_r k k p0
theorem F92a_all (k : Nat) : ∀ j : Nat, (∀ (p0 : S140) (r : ((List S131) × Bool × S140)), F92a_r k j p0 = some r → ∀ (q0 : Nat) (T0 : Heap), SpecH Try.prog 92 [(.ptr q0 0)] ((q0, (.mem (e140 p0))) :: T0) (fun x H' => x = .tup [(.fz 5 (r.1.map e131)), (eBool r.2.1)] ∧ Sub ((q0, (.mem (e140 r.2.2))) :: T0) H')) ∧ (∀ (p0 : S140) (r : ((List S131) × Bool × S140)), F92b_r k j p0 = some r → ∀ (q0 : Nat) (T0 : Heap), SpecH Try.prog 115 [(.ptr q0 0)] ((q0, (.mem (e140 p0))) :: T0) (fun x H' => x = .tup [(.fz 5 (r.1.map e131)), (eBool r.2.1)] ∧ Sub ((q0, (.mem (e140 r.2.2))) :: T0) H')) ∧ (∀ (p0 : S140) (r : ((List S131) × Bool × S140)), F92c_r k j p0 = some r → ∀ (q0 : Nat) (T0 : Heap), SpecH Try.prog 132 [(.ptr q0 0)] ((q0, (.mem (e140 p0))) :: T0) (fun x H' => x = .tup [(.fz 5 (r.1.map e131)), (eBool r.2.1)] ∧ Sub ((q0, (.mem (e140 r.2.2))) :: T0) H')) ∧ (∀ (p0 : S140) (r : ((List S131) × Bool × S140)), F92d_r k j p0 = some r → ∀ (q0 : Nat) (T0 : Heap), SpecH Try.prog 140 [(.ptr q0 0)] ((q0, (.mem (e140 p0))) :: T0) (fun x H' => x = .tup [(.fz 5 (r.1.map e131)), (eBool r.2.1)] ∧ Sub ((q0, (.mem (e140 r.2.2))) :: T0) H')) := by
  intro j
  induction j with
  | zero => exact ⟨(by intro p0 r h; rw [F92a_r.eq_1] at h; cases h), (by intro p0 r h; rw [F92b_r.eq_1] at h; cases h), (by intro p0 r h; rw [F92c_r.eq_1] at h; cases h), (by intro p0 r h; rw [F92d_r.eq_1] at h; cases h)⟩
  | succ j hself =>
  obtain ⟨hself92, hself115, hself132, hself140⟩ := hself
  refine ⟨?_, ?_, ?_, ?_⟩
  ·intro p0 r h q0 T0
   rw [F92a_r.eq_2] at h
   generalize hsself92 : F92a_r k j = self92 at h hself92
   generalize hsself115 : F92b_r k j = self115 at h hself115
   generalize hsself132 : F92c_r k j = self132 at h hself132
   generalize hsself140 : F92d_r k j = self140 at h hself140
   refine SpecH.intro (res := [.tmp 2, .tmp 3]) Try.func92 rfl rfl rfl (Nat.le_of_ble_eq_true rfl) ?_
   refine AW.sr ?_
   refine AO.ag rfl rfl ?_
   refine AO.ag rfl rfl ?_
   refine AO.nK [0] ?_
   refine AW.sr ?_
   refine AO.mv rfl rfl ?_
   obtain ⟨t2, et2, h⟩ := of_bind h
   refine AO.callH [(.ptr q0 0)] ((q0, (.mem (e140 p0))) :: T0) _ rfl rfl rfl 9 rfl (by decide) ok115 ⟨rfl, rfl, trivial⟩ (Sub.cons 0 rfl (Sub.refl _)) (hself115 _ _ et2 _ _) ?_
   rintro _ _ ⟨rfl, hs3⟩
   refine AO.wH [0, 8, 9] hs3 ?_
   refine AO.mv rfl rfl ?_
   refine AO.c (Calm.extract rfl rfl rfl) ?_
   refine AO.c (Calm.extract rfl rfl rfl) ?_
   refine AO.ag rfl rfl ?_
   refine AO.ag rfl rfl ?_
   refine AO.nK [0, 4, 5] ?_
   refine AW.seq_mid (fun ρ H => ∃ (x4 : (List S131)) (b5 : Bool) (x6 : ByteArray) (x7 : Int) (x8 : Int), ρ = [(4, (.fz 5 (x4.map e131))), (5, (eBool b5))] ∧ H = ((q0, (.mem (.st [(1, (eStr x6)), (1, (eI64 x7)), (1, (eI64 x8))]))) :: T0) ∧ F92a_c0 k x4 b5 x6 x7 x8 = some r) ?_ ?_
   ·refine AW.block ?_
    refine AW.wK [0, 4, 5] ?_
    refine AW.loop (fun kq ρ H => ∃ (x9 : ByteArray) (x10 : Int) (x11 : Int) (x12 : (List S131)) (b13 : Bool), ρ = [(0, (.ptr q0 0)), (4, (.fz 5 (x12.map e131))), (5, (eBool b13))] ∧ H = ((q0, (.mem (.st [(1, (eStr x9)), (1, (eI64 x10)), (1, (eI64 x11))]))) :: T0) ∧ F92a_l1 k self115 kq x9 x10 x11 x12 b13 = some r) k ⟨t2.2.2.f0, t2.2.2.f1, t2.2.2.f2, t2.1, t2.2.1, rfl, rfl, h⟩ ?_
    rintro kq15 _ _ ⟨x9, x10, x11, x12, b13, rfl, rfl, h⟩
    cases kq15 with
    | zero => rw [F92a_l1.eq_1] at h; cases h
    | succ kq15 =>
    rw [F92a_l1.eq_2] at h
    generalize hrec14 : F92a_l1 k self115 kq15 = rec14 at h
    refine AW.seq ?_
    refine AW.seq ?_
    obtain ⟨⟨x16, x17, x18, b19⟩, hq20, h⟩ := of_bind h
    refine AW.regM [(0, (.ptr q0 0)), (4, (.fz 5 (x12.map e131))), (5, (eBool b13)), (16, (eBool b19))] ((q0, (.mem (.st [(1, (eStr x16)), (1, (eI64 x17)), (1, (eI64 x18))]))) :: T0) ?_ ?_
    ·refine AO.mv rfl rfl ?_
     refine AO.mv rfl rfl ?_
     rcases of_ite hq20 with ⟨hc21, hq20⟩ | ⟨hc21, hq20⟩
     ·refine AO.cG rfl rfl (bD hc21) (Calm.move rfl rfl) ?_
      obtain ⟨t22, et22, hq20⟩ := of_bind hq20
      refine AO.unguard 1 true 13 rfl rfl (bD hc21) ?_
      refine AO.callH [(.ptr q0 0), (eU8 (124 : Int))] ((q0, (.mem (e140 (S140.mk x9 x10 x11)))) :: T0) _ rfl rfl rfl 15 rfl (by decide) ok116 ⟨rfl, rfl, rfl, rfl, trivial⟩ (Sub.cons 0 rfl (Sub.refl _)) (F116_spec et22) ?_
      rintro _ _ ⟨rfl, hs23⟩
      refine AO.wH [0, 4, 5, 12, 13, 14, 15] hs23 ?_
      refine AO.c (Calm.pickT rfl (bD hc21) rfl) ?_
      cases hq20
      refine AO.nilE ⟨rfl, rfl⟩ ?_ ?_
      · exact ⟨rfl, rfl, rfl, rfl, trivial⟩
      · exact (Sub.refl _)
     ·refine AO.sT rfl rfl (bD (eq_false_of_ne_true hc21)) ?_
      refine AO.sT rfl rfl (bD (eq_false_of_ne_true hc21)) ?_
      refine AO.c (Calm.pickF rfl (bD (eq_false_of_ne_true hc21)) rfl) ?_
      cases hq20
      refine AO.nilE ⟨rfl, rfl⟩ ?_ ?_
      · exact ⟨rfl, rfl, rfl, rfl, trivial⟩
      · exact (Sub.refl _)
    ·rcases of_ite h with ⟨hc24, h⟩ | ⟨hc24, h⟩
     ·refine AW.condT' _ rfl hc24 ?_
      refine AW.sK [0, 4] ?_
      refine AW.block ?_
      refine AW.sr ?_
      refine AO.ag rfl rfl ?_
      refine AO.nK [0, 4] ?_
      refine AW.sr ?_
      refine AO.mv rfl rfl ?_
      obtain ⟨t25, et25, h⟩ := of_bind h
      refine AO.callH [(.ptr q0 0)] ((q0, (.mem (e140 (S140.mk x16 x17 x18)))) :: T0) _ rfl rfl rfl 19 rfl (by decide) ok115 ⟨rfl, rfl, trivial⟩ (Sub.cons 0 rfl (Sub.refl _)) (hself115 _ _ et25 _ _) ?_
      rintro _ _ ⟨rfl, hs26⟩
      refine AO.wH [0, 4, 18, 19] hs26 ?_
      refine AO.mv rfl rfl ?_
      refine AO.c (Calm.extract rfl rfl rfl) ?_
      refine AO.c (Calm.extract rfl rfl rfl) ?_
      refine AO.ag rfl rfl ?_
      refine AO.ag rfl rfl ?_
      refine AO.nK [0, 4, 5, 6] ?_
      refine AW.reg ?_
      refine AO.mv rfl rfl ?_
      refine AO.mv rfl rfl ?_
      refine AO.lit (Z := (.fl (.slice none 0 0))) (xs := (([x12, t25.1] : List (List S131)).map e68)) (qs := [(0, (.fz 5 (x12.map e131))), (1, (.fz 5 (t25.1.map e131)))]) rfl 24 rfl (by decide) rfl ⟨rfl, rfl, rfl, rfl, rfl, rfl, trivial⟩ Try.underlying132 sz68 zr68 lay68 rfl (by decide) (litOK (z := 1) [(.fz 5 (x12.map e131)), (.fz 5 (t25.1.map e131))] rfl ⟨⟨rfl, rfl⟩, ⟨rfl, rfl⟩, trivial⟩) rfl fun n27 => ?_
      obtain ⟨t28, et28, h⟩ := of_bind h
      refine AO.freezeS 0 [(24, (.fz 1 (([x12, t25.1] : List (List S131)).map e68)))] rfl ⟨fz_all rfl, trivial⟩ ?_
      refine AO.callS [(eI64 (3 : Int)), (.fz 1 (([x12, t25.1] : List (List S131)).map e68))] (.fz 5 (t28.map e131)) 25 rfl (by decide) ok117 rfl rfl rfl ⟨rfl, rfl, rfl, rfl, trivial⟩ (F117_spec et28) ?_
      refine AO.ag rfl rfl ?_
      refine AO.nK [0, 4, 5] ?_
      exact ⟨kq15, Nat.lt_succ_self _, t25.2.2.f0, t25.2.2.f1, t25.2.2.f2, t28, t25.2.1, rfl, rfl, by rw [hrec14]; exact h⟩
     ·refine AW.condF' _ rfl hc24 ?_
      refine AW.eK [4, 5] ?_
      exact ⟨x12, b13, x16, x17, x18, rfl, rfl, h⟩
   ·rintro _ _ ⟨x4, b5, x6, x7, x8, rfl, rfl, h⟩
    rw [F92a_c0.eq_1] at h
    refine AW.sr ?_
    refine AO.mv rfl rfl ?_
    refine AO.mv rfl rfl ?_
    refine AO.ag rfl rfl ?_
    refine AO.ag rfl rfl ?_
    refine AO.nK [2, 3] ?_
    refine AW.rK [2, 3] ?_
    have hr := Option.some.inj h
    subst hr
    exact ⟨[(.fz 5 (x4.map e131)), (eBool b5)], ⟨rfl, rfl, rfl, rfl, trivial⟩, rfl, (Sub.cons 0 rfl (Sub.refl _))⟩
  ·intro p0 r h q0 T0
   rw [F92b_r.eq_2] at h
   generalize hsself92 : F92a_r k j = self92 at h hself92
   generalize hsself115 : F92b_r k j = self115 at h hself115
   generalize hsself132 : F92c_r k j = self132 at h hself132
   generalize hsself140 : F92d_r k j = self140 at h hself140
   refine SpecH.intro (res := [.tmp 2, .tmp 3]) Try.func115 rfl rfl rfl (Nat.le_of_ble_eq_true rfl) ?_
   refine AW.sr ?_
   refine AO.ag rfl rfl ?_
   refine AO.ag rfl rfl ?_
   refine AO.nK [0] ?_
   refine AW.sr ?_
   refine AO.mv rfl rfl ?_
   obtain ⟨t2, et2, h⟩ := of_bind h
   refine AO.callH [(.ptr q0 0)] ((q0, (.mem (e140 p0))) :: T0) _ rfl rfl rfl 9 rfl (by decide) ok132 ⟨rfl, rfl, trivial⟩ (Sub.cons 0 rfl (Sub.refl _)) (hself132 _ _ et2 _ _) ?_
   rintro _ _ ⟨rfl, hs3⟩
   refine AO.wH [0, 8, 9] hs3 ?_
   refine AO.mv rfl rfl ?_
   refine AO.c (Calm.extract rfl rfl rfl) ?_
   refine AO.c (Calm.extract rfl rfl rfl) ?_
   refine AO.ag rfl rfl ?_
   refine AO.ag rfl rfl ?_
   refine AO.nK [0, 4, 5] ?_
   refine AW.seq_mid (fun ρ H => ∃ (x4 : (List S131)) (b5 : Bool) (x6 : ByteArray) (x7 : Int) (x8 : Int), ρ = [(4, (.fz 5 (x4.map e131))), (5, (eBool b5))] ∧ H = ((q0, (.mem (.st [(1, (eStr x6)), (1, (eI64 x7)), (1, (eI64 x8))]))) :: T0) ∧ F92b_c0 k x4 b5 x6 x7 x8 = some r) ?_ ?_
   ·refine AW.block ?_
    refine AW.wK [0, 4, 5] ?_
    refine AW.loop (fun kq ρ H => ∃ (x9 : ByteArray) (x10 : Int) (x11 : Int) (x12 : (List S131)) (b13 : Bool), ρ = [(0, (.ptr q0 0)), (4, (.fz 5 (x12.map e131))), (5, (eBool b13))] ∧ H = ((q0, (.mem (.st [(1, (eStr x9)), (1, (eI64 x10)), (1, (eI64 x11))]))) :: T0) ∧ F92b_l1 k self132 kq x9 x10 x11 x12 b13 = some r) k ⟨t2.2.2.f0, t2.2.2.f1, t2.2.2.f2, t2.1, t2.2.1, rfl, rfl, h⟩ ?_
    rintro kq15 _ _ ⟨x9, x10, x11, x12, b13, rfl, rfl, h⟩
    cases kq15 with
    | zero => rw [F92b_l1.eq_1] at h; cases h
    | succ kq15 =>
    rw [F92b_l1.eq_2] at h
    generalize hrec14 : F92b_l1 k self132 kq15 = rec14 at h
    refine AW.seq ?_
    refine AW.seq ?_
    obtain ⟨b16, hq17, h⟩ := of_bind h
    refine AW.regM [(0, (.ptr q0 0)), (4, (.fz 5 (x12.map e131))), (5, (eBool b13)), (17, (eBool b16))] ((q0, (.mem (.st [(1, (eStr x9)), (1, (eI64 x10)), (1, (eI64 x11))]))) :: T0) ?_ ?_
    ·refine AO.mv rfl rfl ?_
     refine AO.mv rfl rfl ?_
     rcases of_ite hq17 with ⟨hc18, hq17⟩ | ⟨hc18, hq17⟩
     ·refine AO.cG rfl rfl (bD hc18) (Calm.move rfl rfl) ?_
      obtain ⟨t19, et19, hq17⟩ := of_bind hq17
      refine AO.unguard 1 true 13 rfl rfl (bD hc18) ?_
      refine AO.callH [(.ptr q0 0), (eStr (ByteArray.mk #[124, 41]))] ((q0, (.mem (e140 (S140.mk x9 x10 x11)))) :: T0) _ rfl rfl rfl 15 rfl (by decide) ok133 ⟨rfl, rfl, rfl, rfl, trivial⟩ (Sub.cons 0 rfl (Sub.refl _)) (F133_spec et19) ?_
      rintro _ _ ⟨rfl, hs20⟩
      refine AO.wH [0, 4, 5, 12, 13, 14, 15] hs20 ?_
      refine AO.cG rfl rfl (bD hc18) (Calm.not rfl rfl) ?_
      refine AO.c (Calm.pickT rfl (bD hc18) rfl) ?_
      cases hq17
      refine AO.nilE ⟨rfl, rfl⟩ ?_ ?_
      · exact ⟨rfl, rfl, rfl, rfl, trivial⟩
      · exact (Sub.refl _)
     ·refine AO.sT rfl rfl (bD (eq_false_of_ne_true hc18)) ?_
      refine AO.sT rfl rfl (bD (eq_false_of_ne_true hc18)) ?_
      refine AO.sT rfl rfl (bD (eq_false_of_ne_true hc18)) ?_
      refine AO.c (Calm.pickF rfl (bD (eq_false_of_ne_true hc18)) rfl) ?_
      cases hq17
      refine AO.nilE ⟨rfl, rfl⟩ ?_ ?_
      · exact ⟨rfl, rfl, rfl, rfl, trivial⟩
      · exact (Sub.refl _)
    ·rcases of_ite h with ⟨hc21, h⟩ | ⟨hc21, h⟩
     ·refine AW.condT' _ rfl hc21 ?_
      refine AW.sK [0, 4] ?_
      refine AW.block ?_
      refine AW.sr ?_
      refine AO.ag rfl rfl ?_
      refine AO.nK [0, 4] ?_
      refine AW.sr ?_
      refine AO.mv rfl rfl ?_
      obtain ⟨t22, et22, h⟩ := of_bind h
      refine AO.callH [(.ptr q0 0)] ((q0, (.mem (e140 (S140.mk x9 x10 x11)))) :: T0) _ rfl rfl rfl 20 rfl (by decide) ok132 ⟨rfl, rfl, trivial⟩ (Sub.cons 0 rfl (Sub.refl _)) (hself132 _ _ et22 _ _) ?_
      rintro _ _ ⟨rfl, hs23⟩
      refine AO.wH [0, 4, 19, 20] hs23 ?_
      refine AO.mv rfl rfl ?_
      refine AO.c (Calm.extract rfl rfl rfl) ?_
      refine AO.c (Calm.extract rfl rfl rfl) ?_
      refine AO.ag rfl rfl ?_
      refine AO.ag rfl rfl ?_
      refine AO.nK [0, 4, 5, 6] ?_
      refine AW.reg ?_
      refine AO.mv rfl rfl ?_
      refine AO.mv rfl rfl ?_
      refine AO.lit (Z := (.fl (.slice none 0 0))) (xs := (([x12, t22.1] : List (List S131)).map e68)) (qs := [(0, (.fz 5 (x12.map e131))), (1, (.fz 5 (t22.1.map e131)))]) rfl 25 rfl (by decide) rfl ⟨rfl, rfl, rfl, rfl, rfl, rfl, trivial⟩ Try.underlying132 sz68 zr68 lay68 rfl (by decide) (litOK (z := 1) [(.fz 5 (x12.map e131)), (.fz 5 (t22.1.map e131))] rfl ⟨⟨rfl, rfl⟩, ⟨rfl, rfl⟩, trivial⟩) rfl fun n24 => ?_
      obtain ⟨t25, et25, h⟩ := of_bind h
      refine AO.freezeS 0 [(25, (.fz 1 (([x12, t22.1] : List (List S131)).map e68)))] rfl ⟨fz_all rfl, trivial⟩ ?_
      refine AO.callS [(eI64 (2 : Int)), (.fz 1 (([x12, t22.1] : List (List S131)).map e68))] (.fz 5 (t25.map e131)) 26 rfl (by decide) ok117 rfl rfl rfl ⟨rfl, rfl, rfl, rfl, trivial⟩ (F117_spec et25) ?_
      refine AO.ag rfl rfl ?_
      refine AO.nK [0, 4, 5] ?_
      exact ⟨kq15, Nat.lt_succ_self _, t22.2.2.f0, t22.2.2.f1, t22.2.2.f2, t25, t22.2.1, rfl, rfl, by rw [hrec14]; exact h⟩
     ·refine AW.condF' _ rfl hc21 ?_
      refine AW.eK [4, 5] ?_
      exact ⟨x12, b13, x9, x10, x11, rfl, rfl, h⟩
   ·rintro _ _ ⟨x4, b5, x6, x7, x8, rfl, rfl, h⟩
    rw [F92b_c0.eq_1] at h
    refine AW.sr ?_
    refine AO.mv rfl rfl ?_
    refine AO.mv rfl rfl ?_
    refine AO.ag rfl rfl ?_
    refine AO.ag rfl rfl ?_
    refine AO.nK [2, 3] ?_
    refine AW.rK [2, 3] ?_
    have hr := Option.some.inj h
    subst hr
    exact ⟨[(.fz 5 (x4.map e131)), (eBool b5)], ⟨rfl, rfl, rfl, rfl, trivial⟩, rfl, (Sub.cons 0 rfl (Sub.refl _))⟩
  ·intro p0 r h q0 T0
   rw [F92c_r.eq_2] at h
   generalize hsself92 : F92a_r k j = self92 at h hself92
   generalize hsself115 : F92b_r k j = self115 at h hself115
   generalize hsself132 : F92c_r k j = self132 at h hself132
   generalize hsself140 : F92d_r k j = self140 at h hself140
   refine SpecH.intro (res := [.tmp 2, .tmp 3]) Try.func132 rfl rfl rfl (Nat.le_of_ble_eq_true rfl) ?_
   refine AW.sr ?_
   refine AO.ag rfl rfl ?_
   refine AO.ag rfl rfl ?_
   refine AO.nK [0] ?_
   refine AW.sr ?_
   refine AO.mv rfl rfl ?_
   obtain ⟨t2, et2, h⟩ := of_bind h
   refine AO.callH [(.ptr q0 0)] ((q0, (.mem (e140 p0))) :: T0) _ rfl rfl rfl 8 rfl (by decide) ok140 ⟨rfl, rfl, trivial⟩ (Sub.cons 0 rfl (Sub.refl _)) (hself140 _ _ et2 _ _) ?_
   rintro _ _ ⟨rfl, hs3⟩
   refine AO.wH [0, 7, 8] hs3 ?_
   refine AO.mv rfl rfl ?_
   refine AO.c (Calm.extract rfl rfl rfl) ?_
   refine AO.c (Calm.extract rfl rfl rfl) ?_
   refine AO.ag rfl rfl ?_
   refine AO.ag rfl rfl ?_
   refine AO.nK [0, 4, 5] ?_
   refine AW.seq_mid (fun ρ H => ∃ (x4 : ByteArray) (x5 : Int) (x6 : Int), ρ = [] ∧ H = ((q0, (.mem (.st [(1, (eStr x4)), (1, (eI64 x5)), (1, (eI64 x6))]))) :: T0) ∧ F92c_c0 k x4 x5 x6 = some r) ?_ ?_
   ·refine AW.block ?_
    refine AW.wK [0, 4, 5] ?_
    refine AW.loop (fun kq ρ H => ∃ (x7 : ByteArray) (x8 : Int) (x9 : Int) (x10 : (List S131)), ρ = [(0, (.ptr q0 0)), (4, (.fz 5 (x10.map e131))), (5, (eBool t2.2.1))] ∧ H = ((q0, (.mem (.st [(1, (eStr x7)), (1, (eI64 x8)), (1, (eI64 x9))]))) :: T0) ∧ F92c_l1 k t2 kq x7 x8 x9 x10 = some r) k ⟨t2.2.2.f0, t2.2.2.f1, t2.2.2.f2, t2.1, rfl, rfl, h⟩ ?_
    rintro kq12 _ _ ⟨x7, x8, x9, x10, rfl, rfl, h⟩
    cases kq12 with
    | zero => rw [F92c_l1.eq_1] at h; cases h
    | succ kq12 =>
    rw [F92c_l1.eq_2] at h
    generalize hrec11 : F92c_l1 k t2 kq12 = rec11 at h
    refine AW.seq ?_
    refine AW.sr ?_
    refine AO.mv rfl rfl ?_
    refine AO.nK [0, 4, 5, 11] ?_
    rcases of_ite h with ⟨hc13, h⟩ | ⟨hc13, h⟩
    ·refine AW.condT' _ rfl hc13 ?_
     refine AW.sK [0, 4, 5] ?_
     refine AW.block ?_
     refine AW.block ?_
     refine AW.sr ?_
     refine AO.mv rfl rfl ?_
     obtain ⟨t14, et14, h⟩ := of_bind h
     refine AO.callH [(.ptr q0 0), (eU8 (42 : Int))] ((q0, (.mem (e140 (S140.mk x7 x8 x9)))) :: T0) _ rfl rfl rfl 15 rfl (by decide) ok116 ⟨rfl, rfl, rfl, rfl, trivial⟩ (Sub.cons 0 rfl (Sub.refl _)) (F116_spec et14) ?_
     rintro _ _ ⟨rfl, hs15⟩
     refine AO.wH [0, 4, 5, 14, 15] hs15 ?_
     refine AO.ag rfl rfl ?_
     refine AO.nK [0, 4, 5, 13] ?_
     rcases of_ite h with ⟨hc16, h⟩ | ⟨hc16, h⟩
     ·refine AW.condT' _ rfl hc16 ?_
      refine AW.reg ?_
      refine AO.mv rfl rfl ?_
      refine AO.lit (Z := (.fl (.slice none 0 0))) (xs := (([x10] : List (List S131)).map e68)) (qs := [(0, (.fz 5 (x10.map e131)))]) rfl 17 rfl (by decide) rfl ⟨rfl, rfl, rfl, trivial⟩ Try.underlying132 sz68 zr68 lay68 rfl (by decide) (litOK (z := 1) [(.fz 5 (x10.map e131))] rfl ⟨⟨rfl, rfl⟩, trivial⟩) rfl fun n17 => ?_
      obtain ⟨t18, et18, h⟩ := of_bind h
      refine AO.freezeS 0 [(17, (.fz 1 (([x10] : List (List S131)).map e68)))] rfl ⟨fz_all rfl, trivial⟩ ?_
      refine AO.callS [(eI64 (4 : Int)), (.fz 1 (([x10] : List (List S131)).map e68))] (.fz 5 (t18.map e131)) 18 rfl (by decide) ok117 rfl rfl rfl ⟨rfl, rfl, rfl, rfl, trivial⟩ (F117_spec et18) ?_
      refine AO.ag rfl rfl ?_
      refine AO.nK [0, 4, 5] ?_
      exact ⟨kq12, Nat.lt_succ_self _, t14.2.f0, t14.2.f1, t14.2.f2, t18, rfl, rfl, by rw [hrec11]; exact h⟩
     ·refine AW.condF' _ rfl hc16 ?_
      refine AW.sr ?_
      refine AO.mv rfl rfl ?_
      obtain ⟨t19, et19, h⟩ := of_bind h
      refine AO.callH [(.ptr q0 0), (eU8 (43 : Int))] ((q0, (.mem (e140 t14.2))) :: T0) _ rfl rfl rfl 21 rfl (by decide) ok116 ⟨rfl, rfl, rfl, rfl, trivial⟩ (Sub.cons 0 rfl (Sub.refl _)) (F116_spec et19) ?_
      rintro _ _ ⟨rfl, hs20⟩
      refine AO.wH [0, 4, 5, 13, 20, 21] hs20 ?_
      refine AO.ag rfl rfl ?_
      refine AO.nK [0, 4, 5, 19] ?_
      rcases of_ite h with ⟨hc21, h⟩ | ⟨hc21, h⟩
      ·refine AW.condT' _ rfl hc21 ?_
       refine AW.reg ?_
       refine AO.mv rfl rfl ?_
       refine AO.lit (Z := (.fl (.slice none 0 0))) (xs := (([x10] : List (List S131)).map e68)) (qs := [(0, (.fz 5 (x10.map e131)))]) rfl 23 rfl (by decide) rfl ⟨rfl, rfl, rfl, trivial⟩ Try.underlying132 sz68 zr68 lay68 rfl (by decide) (litOK (z := 1) [(.fz 5 (x10.map e131))] rfl ⟨⟨rfl, rfl⟩, trivial⟩) rfl fun n22 => ?_
       obtain ⟨t23, et23, h⟩ := of_bind h
       refine AO.freezeS 0 [(23, (.fz 1 (([x10] : List (List S131)).map e68)))] rfl ⟨fz_all rfl, trivial⟩ ?_
       refine AO.callS [(eI64 (5 : Int)), (.fz 1 (([x10] : List (List S131)).map e68))] (.fz 5 (t23.map e131)) 24 rfl (by decide) ok117 rfl rfl rfl ⟨rfl, rfl, rfl, rfl, trivial⟩ (F117_spec et23) ?_
       refine AO.ag rfl rfl ?_
       refine AO.nK [0, 4, 5] ?_
       exact ⟨kq12, Nat.lt_succ_self _, t19.2.f0, t19.2.f1, t19.2.f2, t23, rfl, rfl, by rw [hrec11]; exact h⟩
      ·refine AW.condF' _ rfl hc21 ?_
       refine AW.sr ?_
       refine AO.mv rfl rfl ?_
       obtain ⟨t24, et24, h⟩ := of_bind h
       refine AO.callH [(.ptr q0 0), (eU8 (63 : Int))] ((q0, (.mem (e140 t19.2))) :: T0) _ rfl rfl rfl 27 rfl (by decide) ok116 ⟨rfl, rfl, rfl, rfl, trivial⟩ (Sub.cons 0 rfl (Sub.refl _)) (F116_spec et24) ?_
       rintro _ _ ⟨rfl, hs25⟩
       refine AO.wH [0, 4, 5, 19, 26, 27] hs25 ?_
       refine AO.ag rfl rfl ?_
       refine AO.nK [0, 4, 5, 25] ?_
       rcases of_ite h with ⟨hc26, h⟩ | ⟨hc26, h⟩
       ·refine AW.condT' _ rfl hc26 ?_
        refine AW.reg ?_
        refine AO.mv rfl rfl ?_
        refine AO.lit (Z := (.fl (.slice none 0 0))) (xs := (([x10] : List (List S131)).map e68)) (qs := [(0, (.fz 5 (x10.map e131)))]) rfl 29 rfl (by decide) rfl ⟨rfl, rfl, rfl, trivial⟩ Try.underlying132 sz68 zr68 lay68 rfl (by decide) (litOK (z := 1) [(.fz 5 (x10.map e131))] rfl ⟨⟨rfl, rfl⟩, trivial⟩) rfl fun n27 => ?_
        obtain ⟨t28, et28, h⟩ := of_bind h
        refine AO.freezeS 0 [(29, (.fz 1 (([x10] : List (List S131)).map e68)))] rfl ⟨fz_all rfl, trivial⟩ ?_
        refine AO.callS [(eI64 (6 : Int)), (.fz 1 (([x10] : List (List S131)).map e68))] (.fz 5 (t28.map e131)) 30 rfl (by decide) ok117 rfl rfl rfl ⟨rfl, rfl, rfl, rfl, trivial⟩ (F117_spec et28) ?_
        refine AO.ag rfl rfl ?_
        refine AO.nK [0, 4, 5] ?_
        exact ⟨kq12, Nat.lt_succ_self _, t24.2.f0, t24.2.f1, t24.2.f2, t28, rfl, rfl, by rw [hrec11]; exact h⟩
       ·refine AW.condF' _ rfl hc26 ?_
        refine AW.sr ?_
        refine AO.mv rfl rfl ?_
        refine AO.ag rfl rfl ?_
        refine AO.ag rfl rfl ?_
        refine AO.nK [2, 3] ?_
        refine AW.rK [2, 3] ?_
        have hr := Option.some.inj h
        subst hr
        exact ⟨[(.fz 5 (x10.map e131)), (eBool true)], ⟨rfl, rfl, rfl, rfl, trivial⟩, rfl, (Sub.cons 0 rfl (Sub.refl _))⟩
    ·refine AW.condF' _ rfl hc13 ?_
     refine AW.eK [] ?_
     exact ⟨x7, x8, x9, rfl, rfl, h⟩
   ·rintro _ _ ⟨x4, x5, x6, rfl, rfl, h⟩
    rw [F92c_c0.eq_1] at h
    refine AW.sr ?_
    refine AO.ag rfl rfl ?_
    refine AO.ag rfl rfl ?_
    refine AO.nK [2, 3] ?_
    refine AW.coeC 2 (y' := (.fz 5 (([] : List S131).map e131))) rfl Coe.nil ?_
    refine AW.rK [2, 3] ?_
    have hr := Option.some.inj h
    subst hr
    exact ⟨[(.fz 5 (([] : List S131).map e131)), (eBool false)], ⟨rfl, rfl, rfl, rfl, trivial⟩, rfl, (Sub.cons 0 rfl (Sub.refl _))⟩
  ·intro p0 r h q0 T0
   rw [F92d_r.eq_2] at h
   generalize hsself92 : F92a_r k j = self92 at h hself92
   generalize hsself115 : F92b_r k j = self115 at h hself115
   generalize hsself132 : F92c_r k j = self132 at h hself132
   generalize hsself140 : F92d_r k j = self140 at h hself140
   refine SpecH.intro (res := [.tmp 2, .tmp 3]) Try.func140 rfl rfl rfl (Nat.le_of_ble_eq_true rfl) ?_
   refine AW.sr ?_
   refine AO.ag rfl rfl ?_
   refine AO.ag rfl rfl ?_
   refine AO.nK [0] ?_
   refine AW.seq ?_
   refine AW.block ?_
   refine AW.sr ?_
   refine AO.mv rfl rfl ?_
   obtain ⟨t2, et2, h⟩ := of_bind h
   refine AO.callH [(.ptr q0 0), (eStr (ByteArray.mk #[124, 41, 42, 43, 63, 93, 47, 34]))] ((q0, (.mem (e140 p0))) :: T0) _ rfl rfl rfl 10 rfl (by decide) ok133 ⟨rfl, rfl, rfl, rfl, trivial⟩ (Sub.cons 0 rfl (Sub.refl _)) (F133_spec et2) ?_
   rintro _ _ ⟨rfl, hs3⟩
   refine AO.wH [0, 9, 10] hs3 ?_
   refine AO.ag rfl rfl ?_
   refine AO.nK [0, 8] ?_
   rcases of_ite h with ⟨hc4, h⟩ | ⟨hc4, h⟩
   ·refine AW.condT' _ rfl hc4 ?_
    refine AW.sr ?_
    refine AO.ag rfl rfl ?_
    refine AO.ag rfl rfl ?_
    refine AO.nK [2, 3] ?_
    refine AW.coeC 2 (y' := (.fz 5 (([] : List S131).map e131))) rfl Coe.nil ?_
    refine AW.rK [2, 3] ?_
    have hr := Option.some.inj h
    subst hr
    exact ⟨[(.fz 5 (([] : List S131).map e131)), (eBool false)], ⟨rfl, rfl, rfl, rfl, trivial⟩, rfl, (Sub.cons 0 rfl (Sub.refl _))⟩
   ·refine AW.condF' _ rfl hc4 ?_
    refine AW.sr ?_
    refine AO.mv rfl rfl ?_
    obtain ⟨t5, et5, h⟩ := of_bind h
    refine AO.callH [(.ptr q0 0), (eU8 (46 : Int))] ((q0, (.mem (e140 p0))) :: T0) _ rfl rfl rfl 13 rfl (by decide) ok116 ⟨rfl, rfl, rfl, rfl, trivial⟩ (Sub.cons 0 rfl (Sub.refl _)) (F116_spec et5) ?_
    rintro _ _ ⟨rfl, hs6⟩
    refine AO.wH [0, 8, 12, 13] hs6 ?_
    refine AO.ag rfl rfl ?_
    refine AO.nK [0, 11] ?_
    rcases of_ite h with ⟨hc7, h⟩ | ⟨hc7, h⟩
    ·refine AW.condT' _ rfl hc7 ?_
     refine AW.sr ?_
     obtain ⟨t8, et8, h⟩ := of_bind h
     refine AO.callS [] (.ar 1 (t8.toList.map eU64)) 14 rfl (by decide) ok142 rfl rfl rfl trivial (F142_spec et8) ?_
     refine AO.c (x := .st [(1, (eI64 (1 : Int))), (4, (.ar 1 (t8.toList.map eU64)))]) (Calm.build (qs := [(0, (eI64 (1 : Int))), (1, (.ar 1 (t8.toList.map eU64)))]) rfl ⟨rfl, rfl, rfl, rfl, rfl, rfl, trivial⟩ Try.underlying131 rfl zr131 lay131 (.cons rfl rfl rfl rfl (Put.cast (Put.fld0 Put.here) rfl) (.cons rfl rfl (vec_size _ _) (vec_size _ _) (Put.cast (Put.fldS (Put.fld0 Put.here)) rfl) .nil)) rfl) ?_
     refine AO.lit (Z := (.st [(1, (eI64 (0 : Int))), (4, (.ar 1 ((Vector.replicate 4 (0 : Int)).toList.map eU64)))])) (xs := (([(S131.mk (1 : Int) t8)] : List S131).map e131)) (qs := [(0, (e131 (S131.mk (1 : Int) t8)))]) rfl 16 rfl (by decide) rfl ⟨rfl, rfl, rfl, trivial⟩ Try.underlying68 sz131 zr131 lay131 rfl (by decide) (litOK (z := 5) [(e131 (S131.mk (1 : Int) t8))] rfl ⟨⟨rfl, rfl⟩, trivial⟩) rfl fun n9 => ?_
     refine AO.ag rfl rfl ?_
     refine AO.ag rfl rfl ?_
     refine AO.nH [2, 3] (H' := ((q0, (.mem (e140 t5.2))) :: (n9, (.mem (.ar 5 (([(S131.mk (1 : Int) t8)] : List S131).map e131)))) :: T0)) (Sub.cons 1 rfl (Sub.cons 0 rfl (Sub.refl _))) ?_
     refine AW.freezeS 1 [(2, (.fz 5 (([(S131.mk (1 : Int) t8)] : List S131).map e131)))] rfl ⟨fz_all rfl, trivial⟩ ?_
     refine AW.rK [2, 3] ?_
     have hr := Option.some.inj h
     subst hr
     exact ⟨[(.fz 5 (([(S131.mk (1 : Int) t8)] : List S131).map e131)), (eBool true)], ⟨rfl, rfl, rfl, rfl, trivial⟩, rfl, (Sub.cons 0 rfl (Sub.refl _))⟩
    ·refine AW.condF' _ rfl hc7 ?_
     refine AW.sr ?_
     refine AO.mv rfl rfl ?_
     obtain ⟨t10, et10, h⟩ := of_bind h
     refine AO.callH [(.ptr q0 0), (eU8 (126 : Int))] ((q0, (.mem (e140 t5.2))) :: T0) _ rfl rfl rfl 19 rfl (by decide) ok116 ⟨rfl, rfl, rfl, rfl, trivial⟩ (Sub.cons 0 rfl (Sub.refl _)) (F116_spec et10) ?_
     rintro _ _ ⟨rfl, hs11⟩
     refine AO.wH [0, 11, 18, 19] hs11 ?_
     refine AO.ag rfl rfl ?_
     refine AO.nK [0, 17] ?_
     rcases of_ite h with ⟨hc12, h⟩ | ⟨hc12, h⟩
     ·refine AW.condT' _ rfl hc12 ?_
      refine AW.sr ?_
      refine AO.c (x := .st [(1, (eI64 (0 : Int))), (4, (.ar 1 ((Vector.replicate 4 (0 : Int)).toList.map eU64)))]) (Calm.build (qs := [(0, (eI64 (0 : Int)))]) rfl ⟨rfl, rfl, rfl, trivial⟩ Try.underlying131 rfl zr131 lay131 (.cons rfl rfl rfl rfl (Put.cast (Put.fld0 Put.here) rfl) .nil) rfl) ?_
      refine AO.lit (Z := (.st [(1, (eI64 (0 : Int))), (4, (.ar 1 ((Vector.replicate 4 (0 : Int)).toList.map eU64)))])) (xs := (([(S131.mk (0 : Int) (Vector.replicate 4 (0 : Int)))] : List S131).map e131)) (qs := [(0, (e131 (S131.mk (0 : Int) (Vector.replicate 4 (0 : Int)))))]) rfl 21 rfl (by decide) rfl ⟨rfl, rfl, rfl, trivial⟩ Try.underlying68 sz131 zr131 lay131 rfl (by decide) (litOK (z := 5) [(e131 (S131.mk (0 : Int) (Vector.replicate 4 (0 : Int))))] rfl ⟨⟨rfl, rfl⟩, trivial⟩) rfl fun n13 => ?_
      refine AO.ag rfl rfl ?_
      refine AO.ag rfl rfl ?_
      refine AO.nH [2, 3] (H' := ((q0, (.mem (e140 t10.2))) :: (n13, (.mem (.ar 5 (([(S131.mk (0 : Int) (Vector.replicate 4 (0 : Int)))] : List S131).map e131)))) :: T0)) (Sub.cons 1 rfl (Sub.cons 0 rfl (Sub.refl _))) ?_
      refine AW.freezeS 1 [(2, (.fz 5 (([(S131.mk (0 : Int) (Vector.replicate 4 (0 : Int)))] : List S131).map e131)))] rfl ⟨fz_all rfl, trivial⟩ ?_
      refine AW.rK [2, 3] ?_
      have hr := Option.some.inj h
      subst hr
      exact ⟨[(.fz 5 (([(S131.mk (0 : Int) (Vector.replicate 4 (0 : Int)))] : List S131).map e131)), (eBool true)], ⟨rfl, rfl, rfl, rfl, trivial⟩, rfl, (Sub.cons 0 rfl (Sub.refl _))⟩
     ·refine AW.condF' _ rfl hc12 ?_
      refine AW.sr ?_
      refine AO.mv rfl rfl ?_
      obtain ⟨t14, et14, h⟩ := of_bind h
      refine AO.callH [(.ptr q0 0), (eU8 (40 : Int))] ((q0, (.mem (e140 t10.2))) :: T0) _ rfl rfl rfl 24 rfl (by decide) ok116 ⟨rfl, rfl, rfl, rfl, trivial⟩ (Sub.cons 0 rfl (Sub.refl _)) (F116_spec et14) ?_
      rintro _ _ ⟨rfl, hs15⟩
      refine AO.wH [0, 17, 23, 24] hs15 ?_
      refine AO.ag rfl rfl ?_
      refine AO.nK [0, 22] ?_
      rcases of_ite h with ⟨hc16, h⟩ | ⟨hc16, h⟩
      ·refine AW.condT' _ rfl hc16 ?_
       refine AW.sr ?_
       refine AO.mv rfl rfl ?_
       refine AO.c (Calm.nilCheck rfl rfl) ?_
       refine AO.c (x := .ptr q0 2) (Calm.fldPtr rfl rfl Try.underlying140 rfl sz3 _ rfl) ?_
       refine AO.c (Calm.load 0 rfl rfl rfl (At.cast (At.fldS (At.fldS (At.fld0 At.here))) rfl) ag3 sz3) ?_
       refine AO.c (x := eI64 (w64 (t14.2.f2 + (1 : Int)))) (Calm.int rfl rfl rfl rfl) ?_
       refine AO.c (Calm.nilCheck rfl rfl) ?_
       refine AO.c (x := .ptr q0 2) (Calm.fldPtr rfl rfl Try.underlying140 rfl sz3 _ rfl) ?_
       refine AO.store (X' := (.st [(1, (eStr t14.2.f0)), (1, (eI64 t14.2.f1)), (1, (eI64 (w64 (t14.2.f2 + (1 : Int)))))])) 0 rfl rfl rfl rfl rfl rfl (Put.cast (Put.fldS (Put.fldS (Put.fld0 Put.here))) rfl) rfl rfl sz3 rfl ?_
       refine AO.nK [0] ?_
       refine AW.sr ?_
       refine AO.mv rfl rfl ?_
       obtain ⟨t17, et17, h⟩ := of_bind h
       refine AO.callH [(.ptr q0 0)] ((q0, (.mem (e140 (S140.mk t14.2.f0 t14.2.f1 (w64 (t14.2.f2 + (1 : Int))))))) :: T0) _ rfl rfl rfl 34 rfl (by decide) ok92 ⟨rfl, rfl, trivial⟩ (Sub.cons 0 rfl (Sub.refl _)) (hself92 _ _ et17 _ _) ?_
       rintro _ _ ⟨rfl, hs18⟩
       refine AO.wH [0, 33, 34] hs18 ?_
       refine AO.mv rfl rfl ?_
       refine AO.c (Calm.extract rfl rfl rfl) ?_
       refine AO.c (Calm.extract rfl rfl rfl) ?_
       refine AO.ag rfl rfl ?_
       refine AO.ag rfl rfl ?_
       refine AO.nK [0, 4, 5] ?_
       refine AW.sr ?_
       refine AO.mv rfl rfl ?_
       refine AO.c (Calm.nilCheck rfl rfl) ?_
       refine AO.c (x := .ptr q0 2) (Calm.fldPtr rfl rfl Try.underlying140 rfl sz3 _ rfl) ?_
       refine AO.c (Calm.load 0 rfl rfl rfl (At.cast (At.fldS (At.fldS (At.fld0 At.here))) rfl) ag3 sz3) ?_
       refine AO.c (x := eI64 (w64 (t17.2.2.f2 - (1 : Int)))) (Calm.int rfl rfl rfl rfl) ?_
       refine AO.c (Calm.nilCheck rfl rfl) ?_
       refine AO.c (x := .ptr q0 2) (Calm.fldPtr rfl rfl Try.underlying140 rfl sz3 _ rfl) ?_
       refine AO.store (X' := (.st [(1, (eStr t17.2.2.f0)), (1, (eI64 t17.2.2.f1)), (1, (eI64 (w64 (t17.2.2.f2 - (1 : Int)))))])) 0 rfl rfl rfl rfl rfl rfl (Put.cast (Put.fldS (Put.fldS (Put.fld0 Put.here))) rfl) rfl rfl sz3 rfl ?_
       refine AO.nK [0, 4, 5] ?_
       refine AW.seq ?_
       obtain ⟨⟨b19, x20, x21, x22⟩, hq23, h⟩ := of_bind h
       refine AW.regM [(2, (.fz 5 (t17.1.map e131))), (3, (eBool b19))] ((q0, (.mem (.st [(1, (eStr x20)), (1, (eI64 x21)), (1, (eI64 x22))]))) :: T0) ?_ ?_
       ·refine AO.mv rfl rfl ?_
        refine AO.mv rfl rfl ?_
        refine AO.mv rfl rfl ?_
        rcases of_ite hq23 with ⟨hc24, hq23⟩ | ⟨hc24, hq23⟩
        ·refine AO.cG rfl rfl (bD hc24) (Calm.move rfl rfl) ?_
         refine AO.cG rfl rfl (bD hc24) (Calm.nilCheck rfl rfl) ?_
         refine AO.cG (x := .ptr q0 2) rfl rfl (bD hc24) (Calm.fldPtr rfl rfl Try.underlying140 rfl sz3 _ rfl) ?_
         refine AO.cG rfl rfl (bD hc24) (Calm.load 0 rfl rfl rfl (At.cast (At.fldS (At.fldS (At.fld0 At.here))) rfl) ag3 sz3) ?_
         refine AO.cG (x := eBool (decide ((w64 (t17.2.2.f2 - (1 : Int))) < (99 : Int)))) rfl rfl (bD hc24) (Calm.int rfl rfl rfl rfl) ?_
         refine AO.c (Calm.pickT rfl (bD hc24) rfl) ?_
         refine AO.mv rfl rfl ?_
         rcases of_ite hq23 with ⟨hc25, hq23⟩ | ⟨hc25, hq23⟩
         ·refine AO.cG rfl rfl (bD (decide_eq_true hc25)) (Calm.move rfl rfl) ?_
          obtain ⟨t26, et26, hq23⟩ := of_bind hq23
          refine AO.unguard 9 true 53 rfl rfl (bD (decide_eq_true hc25)) ?_
          refine AO.callH [(.ptr q0 0), (eU8 (41 : Int))] ((q0, (.mem (e140 (S140.mk t17.2.2.f0 t17.2.2.f1 (w64 (t17.2.2.f2 - (1 : Int))))))) :: T0) _ rfl rfl rfl 55 rfl (by decide) ok116 ⟨rfl, rfl, rfl, rfl, trivial⟩ (Sub.cons 0 rfl (Sub.refl _)) (F116_spec et26) ?_
          rintro _ _ ⟨rfl, hs27⟩
          refine AO.wH [0, 4, 5, 44, 45, 46, 47, 48, 49, 50, 51, 52, 53, 54, 55] hs27 ?_
          refine AO.c (Calm.pickT rfl (bD (decide_eq_true hc25)) rfl) ?_
          refine AO.ag rfl rfl ?_
          refine AO.ag rfl rfl ?_
          cases hq23
          refine AO.nilE ⟨rfl, rfl⟩ ?_ ?_
          · exact ⟨rfl, rfl, trivial⟩
          · exact (Sub.refl _)
         ·refine AO.sT rfl rfl (bD (decide_eq_false hc25)) ?_
          refine AO.sT rfl rfl (bD (decide_eq_false hc25)) ?_
          refine AO.c (Calm.pickF rfl (bD (decide_eq_false hc25)) rfl) ?_
          refine AO.ag rfl rfl ?_
          refine AO.ag rfl rfl ?_
          cases hq23
          refine AO.nilE ⟨rfl, rfl⟩ ?_ ?_
          · exact ⟨rfl, rfl, trivial⟩
          · exact (Sub.refl _)
        ·refine AO.sT rfl rfl (bD (eq_false_of_ne_true hc24)) ?_
         refine AO.sT rfl rfl (bD (eq_false_of_ne_true hc24)) ?_
         refine AO.sT rfl rfl (bD (eq_false_of_ne_true hc24)) ?_
         refine AO.sT rfl rfl (bD (eq_false_of_ne_true hc24)) ?_
         refine AO.sT rfl rfl (bD (eq_false_of_ne_true hc24)) ?_
         refine AO.c (Calm.pickF rfl (bD (eq_false_of_ne_true hc24)) rfl) ?_
         refine AO.mv rfl rfl ?_
         refine AO.sT rfl rfl rfl ?_
         refine AO.sT rfl rfl rfl ?_
         refine AO.c (Calm.pickF rfl rfl rfl) ?_
         refine AO.ag rfl rfl ?_
         refine AO.ag rfl rfl ?_
         cases hq23
         refine AO.nilE ⟨rfl, rfl⟩ ?_ ?_
         · exact ⟨rfl, rfl, trivial⟩
         · exact (Sub.refl _)
       ·refine AW.rK [2, 3] ?_
        have hr := Option.some.inj h
        subst hr
        exact ⟨[(.fz 5 (t17.1.map e131)), (eBool b19)], ⟨rfl, rfl, rfl, rfl, trivial⟩, rfl, (Sub.cons 0 rfl (Sub.refl _))⟩
      ·refine AW.condF' _ rfl hc16 ?_
       refine AW.sr ?_
       refine AO.mv rfl rfl ?_
       obtain ⟨t28, et28, h⟩ := of_bind h
       refine AO.callH [(.ptr q0 0), (eU8 (91 : Int))] ((q0, (.mem (e140 t14.2))) :: T0) _ rfl rfl rfl 59 rfl (by decide) ok116 ⟨rfl, rfl, rfl, rfl, trivial⟩ (Sub.cons 0 rfl (Sub.refl _)) (F116_spec et28) ?_
       rintro _ _ ⟨rfl, hs29⟩
       refine AO.wH [0, 22, 58, 59] hs29 ?_
       refine AO.ag rfl rfl ?_
       refine AO.nK [0, 57] ?_
       rcases of_ite h with ⟨hc30, h⟩ | ⟨hc30, h⟩
       ·refine AW.condT' _ rfl hc30 ?_
        refine AW.sr ?_
        refine AO.mv rfl rfl ?_
        obtain ⟨t31, et31, h⟩ := of_bind h
        refine AO.callH [(.ptr q0 0)] ((q0, (.mem (e140 t28.2))) :: T0) _ rfl rfl rfl 61 rfl (by decide) ok143 ⟨rfl, rfl, trivial⟩ (Sub.cons 0 rfl (Sub.refl _)) (F143_spec et31) ?_
        rintro _ _ ⟨rfl, hs32⟩
        refine AO.wH [0, 57, 60, 61] hs32 ?_
        refine AO.c (Calm.extract rfl rfl rfl) ?_
        refine AO.c (Calm.extract rfl rfl rfl) ?_
        refine AO.ag rfl rfl ?_
        refine AO.ag rfl rfl ?_
        refine AO.nK [2, 3] ?_
        refine AW.rK [2, 3] ?_
        have hr := Option.some.inj h
        subst hr
        exact ⟨[(.fz 5 (t31.1.map e131)), (eBool t31.2.1)], ⟨rfl, rfl, rfl, rfl, trivial⟩, rfl, (Sub.cons 0 rfl (Sub.refl _))⟩
       ·refine AW.condF' _ rfl hc30 ?_
        refine AW.sK [0] ?_
        refine AW.sr ?_
        refine AO.mv rfl rfl ?_
        obtain ⟨t33, et33, h⟩ := of_bind h
        refine AO.callH [(.ptr q0 0)] ((q0, (.mem (e140 t28.2))) :: T0) _ rfl rfl rfl 66 rfl (by decide) ok144 ⟨rfl, rfl, trivial⟩ (Sub.cons 0 rfl (Sub.refl _)) (F144_spec et33) ?_
        rintro _ _ ⟨rfl, hs34⟩
        refine AO.wH [0, 65, 66] hs34 ?_
        refine AO.mv rfl rfl ?_
        refine AO.c (Calm.extract rfl rfl rfl) ?_
        refine AO.c (Calm.extract rfl rfl rfl) ?_
        refine AO.ag rfl rfl ?_
        refine AO.ag rfl rfl ?_
        refine AO.nK [6, 7] ?_
        refine AW.sr ?_
        refine AO.mv rfl rfl ?_
        refine AO.lit (Z := (eU8 (0 : Int))) (xs := (([t33.1] : List Int).map eU8)) (qs := [(0, (eU8 t33.1))]) rfl 70 rfl (by decide) rfl ⟨rfl, rfl, rfl, trivial⟩ Try.underlying102 sz5 zr5 lay5 rfl (by decide) (litOK (z := 1) [(eU8 t33.1)] rfl ⟨⟨rfl, rfl⟩, trivial⟩) rfl fun n35 => ?_
        obtain ⟨t36, et36, h⟩ := of_bind h
        refine AO.freezeS 0 [(70, (.fz 1 (([t33.1] : List Int).map eU8)))] rfl ⟨fz_all rfl, trivial⟩ ?_
        refine AO.callS [(.fz 1 (([t33.1] : List Int).map eU8))] (.ar 1 (t36.toList.map eU64)) 71 rfl (by decide) ok61 rfl rfl rfl ⟨rfl, rfl, trivial⟩ (F61_spec et36) ?_
        refine AO.c (x := .st [(1, (eI64 (1 : Int))), (4, (.ar 1 (t36.toList.map eU64)))]) (Calm.build (qs := [(0, (eI64 (1 : Int))), (1, (.ar 1 (t36.toList.map eU64)))]) rfl ⟨rfl, rfl, rfl, rfl, rfl, rfl, trivial⟩ Try.underlying131 rfl zr131 lay131 (.cons rfl rfl rfl rfl (Put.cast (Put.fld0 Put.here) rfl) (.cons rfl rfl (vec_size _ _) (vec_size _ _) (Put.cast (Put.fldS (Put.fld0 Put.here)) rfl) .nil)) rfl) ?_
        refine AO.lit (Z := (.st [(1, (eI64 (0 : Int))), (4, (.ar 1 ((Vector.replicate 4 (0 : Int)).toList.map eU64)))])) (xs := (([(S131.mk (1 : Int) t36)] : List S131).map e131)) (qs := [(0, (e131 (S131.mk (1 : Int) t36)))]) rfl 73 rfl (by decide) rfl ⟨rfl, rfl, rfl, trivial⟩ Try.underlying68 sz131 zr131 lay131 rfl (by decide) (litOK (z := 5) [(e131 (S131.mk (1 : Int) t36))] rfl ⟨⟨rfl, rfl⟩, trivial⟩) rfl fun n37 => ?_
        refine AO.mv rfl rfl ?_
        refine AO.ag rfl rfl ?_
        refine AO.ag rfl rfl ?_
        refine AO.nH [2, 3] (H' := ((q0, (.mem (e140 t33.2.2))) :: (n37, (.mem (.ar 5 (([(S131.mk (1 : Int) t36)] : List S131).map e131)))) :: T0)) (Sub.cons 1 rfl (Sub.cons 0 rfl (Sub.refl _))) ?_
        refine AW.freezeS 1 [(2, (.fz 5 (([(S131.mk (1 : Int) t36)] : List S131).map e131)))] rfl ⟨fz_all rfl, trivial⟩ ?_
        refine AW.rK [2, 3] ?_
        have hr := Option.some.inj h
        subst hr
        exact ⟨[(.fz 5 (([(S131.mk (1 : Int) t36)] : List S131).map e131)), (eBool t33.2.1)], ⟨rfl, rfl, rfl, rfl, trivial⟩, rfl, (Sub.cons 0 rfl (Sub.refl _))⟩
theorem F92a_spec {k : Nat} {p0 : S140} {r : ((List S131) × Bool × S140)} (h : F92a k p0 = some r) {q0 : Nat} {T0 : Heap} : SpecH Try.prog 92 [(.ptr q0 0)] ((q0, (.mem (e140 p0))) :: T0) (fun x H' => x = .tup [(.fz 5 (r.1.map e131)), (eBool r.2.1)] ∧ Sub ((q0, (.mem (e140 r.2.2))) :: T0) H') := (F92a_all k k).1 p0 r h q0 T0
end Go.Avl.T7
/- bosket/rex.Parse; printed by avmain.py. -/
namespace Go.Avl.T7
open Go Go.RowKit Go.Proofs Go.Avl
set_option linter.unusedVariables false
set_option maxRecDepth 100000
set_option maxHeartbeats 4000000
attribute [local irreducible] AW AO AQ Spec SpecH Calm

def F73 (k : Nat) (p0 : ByteArray) : Option ((List S131) × Int) :=
  if (1600 : Int) < (p0.size : Int) then some ([], (6 : Int))
  else (F92a k (S140.mk p0 (0 : Int) (0 : Int))).bind fun t4 =>
  Option.bind (α := Bool) (if (!t4.2.1) = true then some (true)
  else some (decide (t4.2.2.f1 < (p0.size : Int)))) fun b6 =>
  if b6 = true then some ([], (5 : Int))
  else if (400 : Int) < (t4.1.length : Int) then some ([], (6 : Int))
  else some (t4.1, (0 : Int))
theorem F73_spec {k : Nat} {p0 : ByteArray} {r : ((List S131) × Int)} (h : F73 k p0 = some r) : Spec Try.prog 73 [(eStr p0)] (.tup [(.fz 5 (r.1.map e131)), (eI64 r.2)]) := by
  rw [F73.eq_1] at h
  refine Spec.intro (res := [.tmp 2, .tmp 3]) Try.func73 rfl rfl rfl (Nat.le_of_ble_eq_true rfl) ?_
  refine AW.sr ?_
  refine AO.ag rfl rfl ?_
  refine AO.ag rfl rfl ?_
  refine AO.nK [0] ?_
  refine AW.seq ?_
  refine AW.sr ?_
  refine AO.mv rfl rfl ?_
  refine AO.c (Calm.lenStr rfl rfl Try.underlying9) ?_
  refine AO.c (x := eBool (decide ((1600 : Int) < (p0.size : Int)))) (Calm.int rfl rfl rfl rfl) ?_
  refine AO.nK [0, 9] ?_
  rcases of_ite h with ⟨hc2, h⟩ | ⟨hc2, h⟩
  ·refine AW.condP _ rfl hc2 ?_
   refine AW.sr ?_
   refine AO.ag rfl rfl ?_
   refine AO.ag rfl rfl ?_
   refine AO.nK [2, 3] ?_
   refine AW.coeC 2 (y' := (.fz 5 (([] : List S131).map e131))) rfl Coe.nil ?_
   refine AW.rK [2, 3] ?_
   have hr := Option.some.inj h
   subst hr
   exact ⟨[(.fz 5 (([] : List S131).map e131)), (eI64 (6 : Int))], ⟨rfl, rfl, rfl, rfl, trivial⟩, rfl⟩
  ·refine AW.condN _ rfl hc2 ?_
   refine AW.sK [0] ?_
   refine AW.sr ?_
   refine AO.mv rfl rfl ?_
   refine AO.c (x := .st [(1, (eStr p0)), (1, (eI64 (0 : Int))), (1, (eI64 (0 : Int)))]) (Calm.build (qs := [(0, (eStr p0))]) rfl ⟨rfl, rfl, rfl, trivial⟩ Try.underlying140 rfl zr140 lay140 (.cons rfl rfl rfl rfl (Put.cast (Put.fld0 Put.here) rfl) .nil) rfl) ?_
   refine AO.box rfl 12 rfl (by decide) rfl rfl rfl fun n3 => ?_
   refine AO.ag rfl rfl ?_
   refine AO.nK [0, 4] ?_
   refine AW.sr ?_
   refine AO.mv rfl rfl ?_
   obtain ⟨t4, et4, h⟩ := of_bind h
   refine AO.callH [(.ptr n3 0)] [(n3, (.mem (e140 (S140.mk p0 (0 : Int) (0 : Int)))))] _ rfl rfl rfl 15 rfl (by decide) ok92 ⟨rfl, rfl, trivial⟩ (Sub.cons 0 rfl (Sub.refl _)) (F92a_spec et4) ?_
   rintro _ _ ⟨rfl, hs5⟩
   refine AO.wH [0, 4, 14, 15] hs5 ?_
   refine AO.mv rfl rfl ?_
   refine AO.c (Calm.extract rfl rfl rfl) ?_
   refine AO.c (Calm.extract rfl rfl rfl) ?_
   refine AO.ag rfl rfl ?_
   refine AO.ag rfl rfl ?_
   refine AO.nK [0, 4, 5, 6] ?_
   refine AW.seq ?_
   refine AW.block ?_
   refine AW.seq ?_
   obtain ⟨b6, hq7, h⟩ := of_bind h
   refine AW.regM [(5, (.fz 5 (t4.1.map e131))), (18, (eBool b6))] [] ?_ ?_
   ·refine AO.mv rfl rfl ?_
    refine AO.c (Calm.not rfl rfl) ?_
    refine AO.mv rfl rfl ?_
    rcases of_ite hq7 with ⟨hc8, hq7⟩ | ⟨hc8, hq7⟩
    ·refine AO.sF rfl rfl (bD hc8) ?_
     refine AO.sF rfl rfl (bD hc8) ?_
     refine AO.sF rfl rfl (bD hc8) ?_
     refine AO.sF rfl rfl (bD hc8) ?_
     refine AO.sF rfl rfl (bD hc8) ?_
     refine AO.sF rfl rfl (bD hc8) ?_
     refine AO.sF rfl rfl (bD hc8) ?_
     refine AO.c (Calm.pickT rfl (bD hc8) rfl) ?_
     refine AO.ag rfl rfl ?_
     cases hq7
     refine AO.nilE ⟨rfl, rfl⟩ ?_ ?_
     · exact ⟨rfl, rfl, trivial⟩
     · exact (Sub.nil _)
    ·refine AO.cG rfl rfl (bD (eq_false_of_ne_true hc8)) (Calm.move rfl rfl) ?_
     refine AO.cG rfl rfl (bD (eq_false_of_ne_true hc8)) (Calm.nilCheck rfl rfl) ?_
     refine AO.cG (x := .ptr n3 1) rfl rfl (bD (eq_false_of_ne_true hc8)) (Calm.fldPtr rfl rfl Try.underlying140 rfl sz3 _ rfl) ?_
     refine AO.cG rfl rfl (bD (eq_false_of_ne_true hc8)) (Calm.load 0 rfl rfl rfl (At.cast (At.fldS (At.fld0 At.here)) rfl) ag3 sz3) ?_
     refine AO.cG rfl rfl (bD (eq_false_of_ne_true hc8)) (Calm.move rfl rfl) ?_
     refine AO.cG rfl rfl (bD (eq_false_of_ne_true hc8)) (Calm.lenStr rfl rfl Try.underlying9) ?_
     refine AO.cG (x := eBool (decide (t4.2.2.f1 < (p0.size : Int)))) rfl rfl (bD (eq_false_of_ne_true hc8)) (Calm.int rfl rfl rfl rfl) ?_
     refine AO.c (Calm.pickF rfl (bD (eq_false_of_ne_true hc8)) rfl) ?_
     refine AO.ag rfl rfl ?_
     cases hq7
     refine AO.nilE ⟨rfl, rfl⟩ ?_ ?_
     · exact ⟨rfl, rfl, trivial⟩
     · exact (Sub.nil _)
   ·rcases of_ite h with ⟨hc9, h⟩ | ⟨hc9, h⟩
    ·refine AW.condT' _ rfl hc9 ?_
     refine AW.sr ?_
     refine AO.ag rfl rfl ?_
     refine AO.ag rfl rfl ?_
     refine AO.nK [2, 3] ?_
     refine AW.coeC 2 (y' := (.fz 5 (([] : List S131).map e131))) rfl Coe.nil ?_
     refine AW.rK [2, 3] ?_
     have hr := Option.some.inj h
     subst hr
     exact ⟨[(.fz 5 (([] : List S131).map e131)), (eI64 (5 : Int))], ⟨rfl, rfl, rfl, rfl, trivial⟩, rfl⟩
    ·refine AW.condF' _ rfl hc9 ?_
     refine AW.sr ?_
     refine AO.mv rfl rfl ?_
     refine AO.c (Calm.lenL rfl rfl Try.underlying68) ?_
     refine AO.c (x := eBool (decide ((400 : Int) < (t4.1.length : Int)))) (Calm.int rfl rfl rfl rfl) ?_
     refine AO.ag rfl rfl ?_
     refine AO.nK [5, 30] ?_
     rcases of_ite h with ⟨hc10, h⟩ | ⟨hc10, h⟩
     ·refine AW.condP _ rfl hc10 ?_
      refine AW.sr ?_
      refine AO.ag rfl rfl ?_
      refine AO.ag rfl rfl ?_
      refine AO.nK [2, 3] ?_
      refine AW.coeC 2 (y' := (.fz 5 (([] : List S131).map e131))) rfl Coe.nil ?_
      refine AW.rK [2, 3] ?_
      have hr := Option.some.inj h
      subst hr
      exact ⟨[(.fz 5 (([] : List S131).map e131)), (eI64 (6 : Int))], ⟨rfl, rfl, rfl, rfl, trivial⟩, rfl⟩
     ·refine AW.condN _ rfl hc10 ?_
      refine AW.sK [5] ?_
      refine AW.sr ?_
      refine AO.mv rfl rfl ?_
      refine AO.ag rfl rfl ?_
      refine AO.ag rfl rfl ?_
      refine AO.nK [2, 3] ?_
      refine AW.rK [2, 3] ?_
      have hr := Option.some.inj h
      subst hr
      exact ⟨[(.fz 5 (t4.1.map e131)), (eI64 (0 : Int))], ⟨rfl, rfl, rfl, rfl, trivial⟩, rfl⟩
end Go.Avl.T7
/- bosket/rex.Check; printed by avmain.py. -/
namespace Go.Avl.T7
open Go Go.RowKit Go.Proofs Go.Avl
set_option linter.unusedVariables false
set_option maxRecDepth 100000
set_option maxHeartbeats 4000000
attribute [local irreducible] AW AO AQ Spec SpecH Calm

def F93_c0 (k : Nat) (x3 : Int) : Option Int :=
  if x3 ≠ (1 : Int) then some ((5 : Int))
  else some ((0 : Int))
def F93_l1 (k : Nat) (p0 : (List S131)) : Nat → Int → Int → Option Int
  | 0, _, _ => none
  | j + 1, x5, x6 =>
    if x6 < (p0.length : Int) then if 0 ≤ x6 ∧ x6 < (p0.length : Int) then (F118 k ((lget p0 x6).f0)).bind fun t12 =>
    Option.bind (α := Bool) (if t12 < (0 : Int) then some (true)
    else if x5 < t12 then some (true)
    else (F119 k ((lget p0 x6).f1)).bind fun t17 =>
    some (((decide (((lget p0 x6).f0) = (1 : Int))) == t17))) fun b13 =>
    if b13 = true then some ((5 : Int))
    else (F93_l1 k p0 j) (w64 (x5 + (w64 ((1 : Int) - t12)))) (w64 (x6 + (1 : Int)))
    else none
    else F93_c0 k x5
def F93 (k : Nat) (p0 : (List S131)) : Option Int :=
  if (400 : Int) < (p0.length : Int) then some ((6 : Int))
  else F93_l1 k p0 k (0 : Int) (0 : Int)
theorem F93_spec {k : Nat} {p0 : (List S131)} {r : Int} (h : F93 k p0 = some r) : Spec Try.prog 93 [(.fz 5 (p0.map e131))] (eI64 r) := by
  rw [F93.eq_1] at h
  refine Spec.intro (res := [.tmp 2]) Try.func93 rfl rfl rfl (Nat.le_of_ble_eq_true rfl) ?_
  refine AW.sr ?_
  refine AO.ag rfl rfl ?_
  refine AO.nK [0] ?_
  refine AW.seq ?_
  refine AW.sr ?_
  refine AO.mv rfl rfl ?_
  refine AO.c (Calm.lenL rfl rfl Try.underlying68) ?_
  refine AO.c (x := eBool (decide ((400 : Int) < (p0.length : Int)))) (Calm.int rfl rfl rfl rfl) ?_
  refine AO.nK [0, 9] ?_
  rcases of_ite h with ⟨hc2, h⟩ | ⟨hc2, h⟩
  ·refine AW.condP _ rfl hc2 ?_
   refine AW.sr ?_
   refine AO.ag rfl rfl ?_
   refine AO.nK [2] ?_
   refine AW.rK [2] ?_
   have hr := Option.some.inj h
   subst hr
   exact ⟨[(eI64 (6 : Int))], ⟨rfl, rfl, trivial⟩, rfl⟩
  ·refine AW.condN _ rfl hc2 ?_
   refine AW.sK [0] ?_
   refine AW.sr ?_
   refine AO.ag rfl rfl ?_
   refine AO.nK [0, 3] ?_
   refine AW.seq_mid (fun ρ H => ∃ (x3 : Int), ρ = [(3, (eI64 x3))] ∧ H = [] ∧ F93_c0 k x3 = some r) ?_ ?_
   ·refine AW.sr ?_
    refine AO.mv rfl rfl ?_
    refine AO.c (Calm.lenL rfl rfl Try.underlying68) ?_
    refine AO.mv rfl rfl ?_
    refine AO.nK [3, 10, 11, 12] ?_
    refine AW.block ?_
    refine AW.wK [3, 10, 11, 12] ?_
    refine AW.loop (fun kq ρ H => ∃ (x5 : Int) (x6 : Int), ρ = [(3, (eI64 x5)), (10, (.fz 5 (p0.map e131))), (11, (eI64 (p0.length : Int))), (12, (eI64 x6))] ∧ H = [] ∧ F93_l1 k p0 kq x5 x6 = some r) k ⟨(0 : Int), (0 : Int), rfl, rfl, h⟩ ?_
    rintro kq8 _ _ ⟨x5, x6, rfl, rfl, h⟩
    cases kq8 with
    | zero => rw [F93_l1.eq_1] at h; cases h
    | succ kq8 =>
    rw [F93_l1.eq_2] at h
    generalize hrec7 : F93_l1 k p0 kq8 = rec7 at h
    refine AW.sr ?_
    refine AO.c (x := eBool (decide (x6 < (p0.length : Int)))) (Calm.int rfl rfl rfl rfl) ?_
    refine AO.nK [3, 10, 11, 12, 13] ?_
    refine AW.seq ?_
    rcases of_ite h with ⟨hc9, h⟩ | ⟨hc9, h⟩
    ·refine AW.condP _ rfl hc9 ?_
     refine AW.sK [3, 10, 11, 12] ?_
     refine AW.seq ?_
     refine AW.block ?_
     refine AW.sr ?_
     obtain ⟨hg10, h⟩ := of_guard h
     refine AO.c (Calm.idxL (f := e131) rfl rfl rfl hg10 Try.underlying68 sz131) ?_
     refine AO.c (Calm.loadRp rfl rfl ag131 sz131) ?_
     refine AO.alloc rfl 5 rfl (by decide) rfl zr131 lay131 fun n11 => ?_
     refine AO.store (X' := (e131 (lget p0 x6))) 0 rfl rfl rfl rfl rfl rfl (Put.cast Put.here rfl) rfl rfl sz131 rfl ?_
     refine AO.nK [3, 5, 10, 11, 12] ?_
     refine AW.sr ?_
     refine AO.c (x := .ptr n11 0) (Calm.fldPtr rfl rfl Try.underlying131 rfl sz3 _ rfl) ?_
     refine AO.c (Calm.load 0 rfl rfl rfl (At.cast (At.fld0 At.here) rfl) ag3 sz3) ?_
     obtain ⟨t12, et12, h⟩ := of_bind h
     refine AO.callS [(eI64 ((lget p0 x6).f0))] (eI64 t12) 18 rfl (by decide) ok118 rfl rfl rfl ⟨rfl, rfl, trivial⟩ (F118_spec et12) ?_
     refine AO.ag rfl rfl ?_
     refine AO.nK [3, 5, 6, 10, 11, 12] ?_
     refine AW.seq ?_
     refine AW.seq ?_
     obtain ⟨b13, hq14, h⟩ := of_bind h
     refine AW.regQM (by rfl) (by decide +kernel) [(3, (eI64 x5)), (6, (eI64 t12)), (10, (.fz 5 (p0.map e131))), (11, (eI64 (p0.length : Int))), (12, (eI64 x6)), (34, (eBool b13))] ?_ ?_
     ·refine AQ.c (Calm.move rfl rfl) ?_
      refine AQ.c (x := eBool (decide (t12 < (0 : Int)))) (Calm.int rfl rfl rfl rfl) ?_
      refine AQ.c (Calm.move rfl rfl) ?_
      rcases of_ite hq14 with ⟨hc15, hq14⟩ | ⟨hc15, hq14⟩
      ·refine AQ.sF rfl rfl (bD (decide_eq_true hc15)) ?_
       refine AQ.sF rfl rfl (bD (decide_eq_true hc15)) ?_
       refine AQ.sF rfl rfl (bD (decide_eq_true hc15)) ?_
       refine AQ.c (Calm.pickT rfl (bD (decide_eq_true hc15)) rfl) ?_
       refine AQ.c (Calm.move rfl rfl) ?_
       refine AQ.sF rfl rfl rfl ?_
       refine AQ.sF rfl rfl rfl ?_
       refine AQ.sF rfl rfl rfl ?_
       refine AQ.sF rfl rfl rfl ?_
       refine AQ.sF rfl rfl rfl ?_
       refine AQ.sF rfl rfl rfl ?_
       refine AQ.sF rfl rfl rfl ?_
       refine AQ.c (Calm.pickT rfl rfl rfl) ?_
       cases hq14
       refine AQ.nilE rfl ?_
       exact ⟨rfl, rfl, rfl, rfl, rfl, rfl, trivial⟩
      ·refine AQ.cG rfl rfl (bD (decide_eq_false hc15)) (Calm.move rfl rfl) ?_
       refine AQ.cG rfl rfl (bD (decide_eq_false hc15)) (Calm.move rfl rfl) ?_
       refine AQ.cG (x := eBool (decide (x5 < t12))) rfl rfl (bD (decide_eq_false hc15)) (Calm.int rfl rfl rfl rfl) ?_
       refine AQ.c (Calm.pickF rfl (bD (decide_eq_false hc15)) rfl) ?_
       refine AQ.c (Calm.move rfl rfl) ?_
       rcases of_ite hq14 with ⟨hc16, hq14⟩ | ⟨hc16, hq14⟩
       ·refine AQ.sF rfl rfl (bD (decide_eq_true hc16)) ?_
        refine AQ.sF rfl rfl (bD (decide_eq_true hc16)) ?_
        refine AQ.sF rfl rfl (bD (decide_eq_true hc16)) ?_
        refine AQ.sF rfl rfl (bD (decide_eq_true hc16)) ?_
        refine AQ.sF rfl rfl (bD (decide_eq_true hc16)) ?_
        refine AQ.sF rfl rfl (bD (decide_eq_true hc16)) ?_
        refine AQ.sF rfl rfl (bD (decide_eq_true hc16)) ?_
        refine AQ.c (Calm.pickT rfl (bD (decide_eq_true hc16)) rfl) ?_
        cases hq14
        refine AQ.nilE rfl ?_
        exact ⟨rfl, rfl, rfl, rfl, rfl, rfl, trivial⟩
       ·refine AQ.cG (x := .ptr n11 0) rfl rfl (bD (decide_eq_false hc16)) (Calm.fldPtr rfl rfl Try.underlying131 rfl sz3 _ rfl) ?_
        refine AQ.cG rfl rfl (bD (decide_eq_false hc16)) (Calm.load 0 rfl rfl rfl (At.cast (At.fld0 At.here) rfl) ag3 sz3) ?_
        refine AQ.cG (x := eBool (decide (((lget p0 x6).f0) = (1 : Int)))) rfl rfl (bD (decide_eq_false hc16)) (Calm.int rfl rfl rfl rfl) ?_
        refine AQ.cG (x := .ptr n11 1) rfl rfl (bD (decide_eq_false hc16)) (Calm.fldPtr rfl rfl Try.underlying131 rfl sz62 _ rfl) ?_
        refine AQ.cG rfl rfl (bD (decide_eq_false hc16)) (Calm.load 0 rfl rfl rfl (At.cast (At.fldS (At.fld0 At.here)) rfl) ag62 (by rw [sz62]; simp [AV.size])) ?_
        obtain ⟨t17, et17, hq14⟩ := of_bind hq14
        refine AQ.cG rfl rfl (bD (decide_eq_false hc16)) (Calm.call (args := [(.ar 1 (((lget p0 x6).f1).toList.map eU64))]) rfl rfl ok119 ⟨rfl, rfl, trivial⟩ rfl (F119_spec et17)) ?_
        refine AQ.cG (x := eBool ((decide (((lget p0 x6).f0) = (1 : Int))) == t17)) rfl rfl (bD (decide_eq_false hc16)) (Calm.boolEq rfl rfl rfl Try.underlying4) ?_
        refine AQ.c (Calm.pickF rfl (bD (decide_eq_false hc16)) rfl) ?_
        cases hq14
        refine AQ.nilE rfl ?_
        exact ⟨rfl, rfl, rfl, rfl, rfl, rfl, trivial⟩
     ·rcases of_ite h with ⟨hc18, h⟩ | ⟨hc18, h⟩
      ·refine AW.condT' _ rfl hc18 ?_
       refine AW.sr ?_
       refine AO.ag rfl rfl ?_
       refine AO.nH [2] (H' := []) (Sub.nil _) ?_
       refine AW.rK [2] ?_
       have hr := Option.some.inj h
       subst hr
       exact ⟨[(eI64 (5 : Int))], ⟨rfl, rfl, trivial⟩, rfl⟩
      ·refine AW.condF' _ rfl hc18 ?_
       refine AW.sH [3, 6, 10, 11, 12] (H' := []) (Sub.nil _) ?_
       refine AW.reg ?_
       refine AO.mv rfl rfl ?_
       refine AO.mv rfl rfl ?_
       refine AO.c (x := eI64 (w64 ((1 : Int) - t12))) (Calm.int rfl rfl rfl rfl) ?_
       refine AO.c (x := eI64 (w64 (x5 + (w64 ((1 : Int) - t12))))) (Calm.int rfl rfl rfl rfl) ?_
       refine AO.ag rfl rfl ?_
       refine AO.nK [3, 10, 11, 12] ?_
       refine AW.reg ?_
       refine AO.c (x := eI64 (w64 (x6 + (1 : Int)))) (Calm.int rfl rfl rfl rfl) ?_
       refine AO.mv rfl rfl ?_
       refine AO.nK [3, 10, 11, 12] ?_
       exact ⟨kq8, Nat.lt_succ_self _, (w64 (x5 + (w64 ((1 : Int) - t12)))), (w64 (x6 + (1 : Int))), rfl, rfl, by rw [hrec7]; exact h⟩
    ·refine AW.condN _ rfl hc9 ?_
     refine AW.eK [3] ?_
     exact ⟨x5, rfl, rfl, h⟩
   ·rintro _ _ ⟨x3, rfl, rfl, h⟩
    rw [F93_c0.eq_1] at h
    refine AW.seq ?_
    refine AW.sr ?_
    refine AO.mv rfl rfl ?_
    refine AO.c (x := eBool (decide (x3 ≠ (1 : Int)))) (Calm.int rfl rfl rfl rfl) ?_
    refine AO.nK [41] ?_
    rcases of_ite h with ⟨hc4, h⟩ | ⟨hc4, h⟩
    ·refine AW.condP _ rfl hc4 ?_
     refine AW.sr ?_
     refine AO.ag rfl rfl ?_
     refine AO.nK [2] ?_
     refine AW.rK [2] ?_
     have hr := Option.some.inj h
     subst hr
     exact ⟨[(eI64 (5 : Int))], ⟨rfl, rfl, trivial⟩, rfl⟩
    ·refine AW.condN _ rfl hc4 ?_
     refine AW.sK [] ?_
     refine AW.sr ?_
     refine AO.ag rfl rfl ?_
     refine AO.nK [2] ?_
     refine AW.rK [2] ?_
     have hr := Option.some.inj h
     subst hr
     exact ⟨[(eI64 (0 : Int))], ⟨rfl, rfl, trivial⟩, rfl⟩
end Go.Avl.T7
/- (*bosket/nfa.maker).state; printed by avmain.py. -/
namespace Go.Avl.T7
open Go Go.RowKit Go.Proofs Go.Avl
set_option linter.unusedVariables false
set_option maxRecDepth 100000
set_option maxHeartbeats 4000000
attribute [local irreducible] AW AO AQ Spec SpecH Calm

def F134 (k : Nat) (p0 : S146) : Option (Int × S146) :=
  some ((w64 ((w64 (p0.f0.f0 + (1 : Int))) - (1 : Int))), (S146.mk (S121.mk (w64 (p0.f0.f0 + (1 : Int))) p0.f0.f1 p0.f0.f2 p0.f0.f3)))
theorem F134_spec {k : Nat} {p0 : S146} {r : (Int × S146)} (h : F134 k p0 = some r) {q0 : Nat} {q0_0 : Nat} {T0 : Heap} : SpecH Try.prog 134 [(.ptr q0 0)] ((q0, (.mem (.st [(4, (.st [(1, (eI64 p0.f0.f0)), (1, (.own q0_0 0 p0.f0.f1.length)), (1, (eI64 p0.f0.f2)), (1, (eI64 p0.f0.f3))]))]))) :: (q0_0, (.mem (.ar 7 (p0.f0.f1.map e152)))) :: T0) (fun x H' => ∃ m0_0, x = (eI64 r.1) ∧ Sub ((q0, (.mem (.st [(4, (.st [(1, (eI64 r.2.f0.f0)), (1, (.own m0_0 0 r.2.f0.f1.length)), (1, (eI64 r.2.f0.f2)), (1, (eI64 r.2.f0.f3))]))]))) :: (m0_0, (.mem (.ar 7 (r.2.f0.f1.map e152)))) :: T0) H') := by
  rw [F134.eq_1] at h
  refine SpecH.intro (res := [.tmp 2]) Try.func134 rfl rfl rfl (Nat.le_of_ble_eq_true rfl) ?_
  refine AW.sr ?_
  refine AO.ag rfl rfl ?_
  refine AO.nK [0] ?_
  refine AW.sr ?_
  refine AO.mv rfl rfl ?_
  refine AO.c (Calm.nilCheck rfl rfl) ?_
  refine AO.c (x := .ptr q0 0) (Calm.fldPtr rfl rfl Try.underlying146 rfl sz121 _ rfl) ?_
  refine AO.c (x := .ptr q0 0) (Calm.fldPtr rfl rfl Try.underlying121 rfl sz3 _ rfl) ?_
  refine AO.c (Calm.load 0 rfl rfl rfl (At.cast (At.fld0 (At.fld0 At.here)) rfl) ag3 sz3) ?_
  refine AO.c (x := eI64 (w64 (p0.f0.f0 + (1 : Int)))) (Calm.int rfl rfl rfl rfl) ?_
  refine AO.c (Calm.nilCheck rfl rfl) ?_
  refine AO.c (x := .ptr q0 0) (Calm.fldPtr rfl rfl Try.underlying146 rfl sz121 _ rfl) ?_
  refine AO.c (x := .ptr q0 0) (Calm.fldPtr rfl rfl Try.underlying121 rfl sz3 _ rfl) ?_
  refine AO.store (X' := (.st [(4, (.st [(1, (eI64 (w64 (p0.f0.f0 + (1 : Int))))), (1, (.own q0_0 0 p0.f0.f1.length)), (1, (eI64 p0.f0.f2)), (1, (eI64 p0.f0.f3))]))])) 0 rfl rfl rfl rfl rfl rfl (Put.cast (Put.fld0 (Put.fld0 Put.here)) rfl) rfl rfl sz3 rfl ?_
  refine AO.nK [0] ?_
  refine AW.sr ?_
  refine AO.mv rfl rfl ?_
  refine AO.c (Calm.nilCheck rfl rfl) ?_
  refine AO.c (x := .ptr q0 0) (Calm.fldPtr rfl rfl Try.underlying146 rfl sz121 _ rfl) ?_
  refine AO.c (x := .ptr q0 0) (Calm.fldPtr rfl rfl Try.underlying121 rfl sz3 _ rfl) ?_
  refine AO.c (Calm.load 0 rfl rfl rfl (At.cast (At.fld0 (At.fld0 At.here)) rfl) ag3 sz3) ?_
  refine AO.c (x := eI64 (w64 ((w64 (p0.f0.f0 + (1 : Int))) - (1 : Int)))) (Calm.int rfl rfl rfl rfl) ?_
  refine AO.ag rfl rfl ?_
  refine AO.nK [2] ?_
  refine AW.rK [2] ?_
  have hr := Option.some.inj h
  subst hr
  exact ⟨[(eI64 (w64 ((w64 (p0.f0.f0 + (1 : Int))) - (1 : Int))))], ⟨rfl, rfl, trivial⟩, q0_0, rfl, (Sub.cons 0 rfl (Sub.cons 0 rfl (Sub.refl _)))⟩
end Go.Avl.T7
/- (*bosket/nfa.maker).fresh; printed by avmain.py. -/
namespace Go.Avl.T7
open Go Go.RowKit Go.Proofs Go.Avl
set_option linter.unusedVariables false
set_option maxRecDepth 100000
set_option maxHeartbeats 4000000
attribute [local irreducible] AW AO AQ Spec SpecH Calm

def F120 (k : Nat) (p0 : S146) : Option (S150 × S146) :=
  (F134 k (S146.mk (S121.mk p0.f0.f0 p0.f0.f1 p0.f0.f2 p0.f0.f3))).bind fun t3 =>
  (F134 k (S146.mk (S121.mk t3.2.f0.f0 t3.2.f0.f1 t3.2.f0.f2 t3.2.f0.f3))).bind fun t6 =>
  some ((S150.mk t3.1 t6.1), (S146.mk (S121.mk t6.2.f0.f0 t6.2.f0.f1 t6.2.f0.f2 t6.2.f0.f3)))
theorem F120_spec {k : Nat} {p0 : S146} {r : (S150 × S146)} (h : F120 k p0 = some r) {q0 : Nat} {q0_0 : Nat} {T0 : Heap} : SpecH Try.prog 120 [(.ptr q0 0)] ((q0, (.mem (.st [(4, (.st [(1, (eI64 p0.f0.f0)), (1, (.own q0_0 0 p0.f0.f1.length)), (1, (eI64 p0.f0.f2)), (1, (eI64 p0.f0.f3))]))]))) :: (q0_0, (.mem (.ar 7 (p0.f0.f1.map e152)))) :: T0) (fun x H' => ∃ m0_0, x = (e150 r.1) ∧ Sub ((q0, (.mem (.st [(4, (.st [(1, (eI64 r.2.f0.f0)), (1, (.own m0_0 0 r.2.f0.f1.length)), (1, (eI64 r.2.f0.f2)), (1, (eI64 r.2.f0.f3))]))]))) :: (m0_0, (.mem (.ar 7 (r.2.f0.f1.map e152)))) :: T0) H') := by
  rw [F120.eq_1] at h
  refine SpecH.intro (res := [.cell 2 150]) Try.func120 rfl rfl rfl (Nat.le_of_ble_eq_true rfl) ?_
  refine AW.sr ?_
  refine AO.alloc rfl 2 rfl (by decide) rfl zr150 lay150 fun n2 => ?_
  refine AO.nH [0, 2] (H' := ((q0, (.mem (.st [(4, (.st [(1, (eI64 p0.f0.f0)), (1, (.own q0_0 0 p0.f0.f1.length)), (1, (eI64 p0.f0.f2)), (1, (eI64 p0.f0.f3))]))]))) :: (q0_0, (.mem (.ar 7 (p0.f0.f1.map e152)))) :: (n2, (.mem (.st [(1, (eI64 (0 : Int))), (1, (eI64 (0 : Int)))]))) :: T0)) (Sub.cons 1 rfl (Sub.cons 1 rfl (Sub.cons 0 rfl (Sub.refl _)))) ?_
  refine AW.sr ?_
  refine AO.mv rfl rfl ?_
  obtain ⟨t3, et3, h⟩ := of_bind h
  refine AO.callH [(.ptr q0 0)] ((q0, (.mem (.st [(4, (.st [(1, (eI64 p0.f0.f0)), (1, (.own q0_0 0 p0.f0.f1.length)), (1, (eI64 p0.f0.f2)), (1, (eI64 p0.f0.f3))]))]))) :: (q0_0, (.mem (.ar 7 (p0.f0.f1.map e152)))) :: (n2, (.mem (.st [(1, (eI64 (0 : Int))), (1, (eI64 (0 : Int)))]))) :: T0) _ rfl rfl rfl 5 rfl (by decide) ok134 ⟨rfl, rfl, trivial⟩ (Sub.cons 0 rfl (Sub.cons 0 rfl (Sub.refl _))) (F134_spec et3) ?_
  rintro _ _ ⟨n5, rfl, hs4⟩
  refine AO.wH [0, 2, 4, 5] hs4 ?_
  refine AO.ag rfl rfl ?_
  refine AO.nK [0, 2, 3] ?_
  refine AW.sr ?_
  refine AO.mv rfl rfl ?_
  refine AO.mv rfl rfl ?_
  obtain ⟨t6, et6, h⟩ := of_bind h
  refine AO.callH [(.ptr q0 0)] ((q0, (.mem (.st [(4, (.st [(1, (eI64 t3.2.f0.f0)), (1, (.own n5 0 t3.2.f0.f1.length)), (1, (eI64 t3.2.f0.f2)), (1, (eI64 t3.2.f0.f3))]))]))) :: (n5, (.mem (.ar 7 (t3.2.f0.f1.map e152)))) :: (n2, (.mem (.st [(1, (eI64 (0 : Int))), (1, (eI64 (0 : Int)))]))) :: T0) _ rfl rfl rfl 8 rfl (by decide) ok134 ⟨rfl, rfl, trivial⟩ (Sub.cons 0 rfl (Sub.cons 0 rfl (Sub.refl _))) (F134_spec et6) ?_
  rintro _ _ ⟨n8, rfl, hs7⟩
  refine AO.wH [0, 2, 3, 6, 7, 8] hs7 ?_
  refine AO.c (x := .st [(1, (eI64 t3.1)), (1, (eI64 t6.1))]) (Calm.build (qs := [(0, (eI64 t3.1)), (1, (eI64 t6.1))]) rfl ⟨rfl, rfl, rfl, rfl, rfl, rfl, trivial⟩ Try.underlying150 rfl zr150 lay150 (.cons rfl rfl rfl rfl (Put.cast (Put.fld0 Put.here) rfl) (.cons rfl rfl rfl rfl (Put.cast (Put.fldS (Put.fld0 Put.here)) rfl) .nil)) rfl) ?_
  refine AO.store (X' := (e150 (S150.mk t3.1 t6.1))) 2 rfl rfl rfl rfl rfl rfl (Put.cast Put.here rfl) rfl rfl sz150 rfl ?_
  refine AO.nK [2] ?_
  refine AW.rK [2] ?_
  have hr := Option.some.inj h
  subst hr
  exact ⟨[(e150 (S150.mk t3.1 t6.1))], ⟨⟨_, 2, rfl, rfl, ag150, sz150⟩, trivial⟩, n8, rfl, (Sub.cons 0 rfl (Sub.cons 0 rfl (Sub.drop (Sub.refl _))))⟩
end Go.Avl.T7
/- (*bosket/nfa.maker).free; printed by avmain.py. -/
namespace Go.Avl.T7
open Go Go.RowKit Go.Proofs Go.Avl
set_option linter.unusedVariables false
set_option maxRecDepth 100000
set_option maxHeartbeats 4000000
attribute [local irreducible] AW AO AQ Spec SpecH Calm

def F121 (k : Nat) (p0 : S146) (p1 : Int) (p2 : Int) : Option S146 :=
  if (p0.f0.f1 ++ ([(S152.mk p1 p2 (Vector.replicate 4 (0 : Int)) true)] : List S152)).length * 56 ≤ 140737488355328 then some ((S146.mk (S121.mk p0.f0.f0 (p0.f0.f1 ++ ([(S152.mk p1 p2 (Vector.replicate 4 (0 : Int)) true)] : List S152)) p0.f0.f2 p0.f0.f3)))
  else none
theorem F121_spec {k : Nat} {p0 : S146} {p1 : Int} {p2 : Int} {r : S146} (h : F121 k p0 p1 p2 = some r) {q0 : Nat} {q0_0 : Nat} {T0 : Heap} : SpecH Try.prog 121 [(.ptr q0 0), (eI64 p1), (eI64 p2)] ((q0, (.mem (.st [(4, (.st [(1, (eI64 p0.f0.f0)), (1, (.own q0_0 0 p0.f0.f1.length)), (1, (eI64 p0.f0.f2)), (1, (eI64 p0.f0.f3))]))]))) :: (q0_0, (.mem (.ar 7 (p0.f0.f1.map e152)))) :: T0) (fun x H' => ∃ m0_0, x = .tup [] ∧ Sub ((q0, (.mem (.st [(4, (.st [(1, (eI64 r.f0.f0)), (1, (.own m0_0 0 r.f0.f1.length)), (1, (eI64 r.f0.f2)), (1, (eI64 r.f0.f3))]))]))) :: (m0_0, (.mem (.ar 7 (r.f0.f1.map e152)))) :: T0) H') := by
  rw [F121.eq_1] at h
  refine SpecH.intro (res := []) Try.func121 rfl rfl rfl (Nat.le_of_ble_eq_true rfl) ?_
  refine AW.reg ?_
  refine AO.mv rfl rfl ?_
  refine AO.mv rfl rfl ?_
  refine AO.c (Calm.nilCheck rfl rfl) ?_
  refine AO.c (x := .ptr q0 0) (Calm.fldPtr rfl rfl Try.underlying146 rfl sz121 _ rfl) ?_
  refine AO.c (x := .ptr q0 1) (Calm.fldPtr rfl rfl Try.underlying121 rfl sz119 _ rfl) ?_
  refine AO.c (Calm.load 0 rfl rfl rfl (At.cast (At.fld0 (At.fldS (At.fld0 At.here))) rfl) ag119 sz119) ?_
  refine AO.mv rfl rfl ?_
  refine AO.mv rfl rfl ?_
  refine AO.c (x := .st [(1, (eI64 p1)), (1, (eI64 p2)), (4, (.ar 1 ((Vector.replicate 4 (0 : Int)).toList.map eU64))), (1, (eBool true))]) (Calm.build (qs := [(0, (eI64 p1)), (1, (eI64 p2)), (3, (eBool true))]) rfl ⟨rfl, rfl, rfl, rfl, rfl, rfl, rfl, rfl, rfl, trivial⟩ Try.underlying152 rfl zr152 lay152 (.cons rfl rfl rfl rfl (Put.cast (Put.fld0 Put.here) rfl) (.cons rfl rfl rfl rfl (Put.cast (Put.fldS (Put.fld0 Put.here)) rfl) (.cons rfl rfl rfl rfl (Put.cast (Put.fldS (Put.fldS (Put.fldS (Put.fld0 Put.here)))) rfl) .nil))) rfl) ?_
  refine AO.lit (Z := (.st [(1, (eI64 (0 : Int))), (1, (eI64 (0 : Int))), (4, (.ar 1 ((Vector.replicate 4 (0 : Int)).toList.map eU64))), (1, (eBool false))])) (xs := (([(S152.mk p1 p2 (Vector.replicate 4 (0 : Int)) true)] : List S152).map e152)) (qs := [(0, (e152 (S152.mk p1 p2 (Vector.replicate 4 (0 : Int)) true)))]) rfl 15 rfl (by decide) rfl ⟨rfl, rfl, rfl, trivial⟩ Try.underlying119 sz152 zr152 lay152 rfl (by decide) (litOK (z := 7) [(e152 (S152.mk p1 p2 (Vector.replicate 4 (0 : Int)) true))] rfl ⟨⟨rfl, rfl⟩, trivial⟩) rfl fun n4 => ?_
  obtain ⟨hg6, h⟩ := of_guard h
  refine AO.appendL (l := p0.f0.f1) (m := ([(S152.mk p1 p2 (Vector.replicate 4 (0 : Int)) true)] : List S152)) 2 16 rfl (by decide) rfl rfl rfl rfl rfl (Src.ownL (f := e152) (l := ([(S152.mk p1 p2 (Vector.replicate 4 (0 : Int)) true)] : List S152)) 0 rfl) Try.underlying119 Try.underlying119 sz152 by152 zr152 rfl hg6 (by decide) fun n5 => ?_
  refine AO.c (Calm.nilCheck rfl rfl) ?_
  refine AO.c (x := .ptr q0 0) (Calm.fldPtr rfl rfl Try.underlying146 rfl sz121 _ rfl) ?_
  refine AO.c (x := .ptr q0 1) (Calm.fldPtr rfl rfl Try.underlying121 rfl sz119 _ rfl) ?_
  refine AO.store (X' := (.st [(4, (.st [(1, (eI64 p0.f0.f0)), (1, (.own n5 0 (p0.f0.f1 ++ ([(S152.mk p1 p2 (Vector.replicate 4 (0 : Int)) true)] : List S152)).length)), (1, (eI64 p0.f0.f2)), (1, (eI64 p0.f0.f3))]))])) 1 rfl rfl rfl rfl rfl rfl (Put.cast (Put.fld0 (Put.fldS (Put.fld0 Put.here))) rfl) rfl rfl sz119 rfl ?_
  refine AO.nH [] (H' := ((q0, (.mem (.st [(4, (.st [(1, (eI64 p0.f0.f0)), (1, (.own n5 0 (p0.f0.f1 ++ ([(S152.mk p1 p2 (Vector.replicate 4 (0 : Int)) true)] : List S152)).length)), (1, (eI64 p0.f0.f2)), (1, (eI64 p0.f0.f3))]))]))) :: (n5, (.mem (.ar 7 ((p0.f0.f1 ++ ([(S152.mk p1 p2 (Vector.replicate 4 (0 : Int)) true)] : List S152)).map e152)))) :: T0)) (Sub.cons 1 rfl (Sub.cons 1 rfl (Sub.drop (Sub.refl _)))) ?_
  have hr := Option.some.inj h
  subst hr
  exact ⟨[], trivial, n5, rfl, (Sub.cons 0 rfl (Sub.cons 0 rfl (Sub.refl _)))⟩
end Go.Avl.T7
