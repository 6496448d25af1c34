/- Parts: TEf21, TEf8, TEf5, TEf4. -/
import Derived.Test.YtcdennkoccjacaaDoorAF1
import Derived.Test.YtcdennkoccjacaaDoorAF2
import Derived.Test.YtcdennkoccjacaaDoorAF3
/- (*bosket/rex.reader).alt, (*bosket/rex.reader).cat, (*bosket/rex.reader).repeat, (*bosket/rex.reader).one; printed by avmain.py. -/
namespace Go.Avl.TE
open Go Go.RowKit Go.Proofs Go.Avl
set_option linter.unusedVariables false
set_option maxRecDepth 100000
set_option maxHeartbeats 4000000
attribute [local irreducible] AW AO AQ Spec SpecH Calm

def rex_reader_alt_c0 (k : Nat) (x4 : (List S40)) (b5 : Bool) (x6 : ByteArray) (x7 : Int) (x8 : Int) : Option ((List S40) × Bool × S49) :=
  some (x4, b5, (S49.mk x6 x7 x8))
def rex_reader_alt_l1 (k : Nat) (self30 : (S49 → Option ((List S40) × Bool × S49))) : Nat → ByteArray → Int → Int → (List S40) → Bool → Option ((List S40) × Bool × S49)
  | 0, _, _, _, _, _ => none
  | j + 1, x9, x10, x11, x12, b13 =>
    Option.bind (α := ByteArray × Int × Int × Bool) (if b13 = true then (rex_reader_eat k (S49.mk x9 x10 x11) (124 : Int)).bind fun t22 =>
    some (t22.2.f0, t22.2.f1, t22.2.f2, t22.1)
    else some (x9, x10, x11, false)) fun (x16, x17, x18, b19) =>
    if b19 = true then (self30 (S49.mk x16 x17 x18)).bind fun t25 =>
    (rex_Join k (3 : Int) [x12, t25.1]).bind fun t28 =>
    (rex_reader_alt_l1 k self30 j) t25.2.2.f0 t25.2.2.f1 t25.2.2.f2 t28 t25.2.1
    else rex_reader_alt_c0 k x12 b13 x16 x17 x18
def rex_reader_cat_c0 (k : Nat) (x4 : (List S40)) (b5 : Bool) (x6 : ByteArray) (x7 : Int) (x8 : Int) : Option ((List S40) × Bool × S49) :=
  some (x4, b5, (S49.mk x6 x7 x8))
def rex_reader_cat_l1 (k : Nat) (self43 : (S49 → Option ((List S40) × Bool × S49))) : Nat → ByteArray → Int → Int → (List S40) → Bool → Option ((List S40) × Bool × S49)
  | 0, _, _, _, _, _ => none
  | j + 1, x9, x10, x11, x12, b13 =>
    Option.bind (α := Bool) (if b13 = true then (rex_reader_end k (S49.mk x9 x10 x11) (ByteArray.mk #[124, 41])).bind fun t19 =>
    some (!t19)
    else some (false)) fun b16 =>
    if b16 = true then (self43 (S49.mk x9 x10 x11)).bind fun t22 =>
    (rex_Join k (2 : Int) [x12, t22.1]).bind fun t25 =>
    (rex_reader_cat_l1 k self43 j) t22.2.2.f0 t22.2.2.f1 t22.2.2.f2 t25 t22.2.1
    else rex_reader_cat_c0 k x12 b13 x9 x10 x11
def rex_reader_repeat_c0 (k : Nat) (x4 : ByteArray) (x5 : Int) (x6 : Int) : Option ((List S40) × Bool × S49) :=
  some ([], false, (S49.mk x4 x5 x6))
def rex_reader_repeat_l1 (k : Nat) (t2 : ((List S40) × Bool × S49)) : Nat → ByteArray → Int → Int → (List S40) → Option ((List S40) × Bool × S49)
  | 0, _, _, _, _ => none
  | j + 1, x7, x8, x9, x10 =>
    if t2.2.1 = true then (rex_reader_eat k (S49.mk x7 x8 x9) (42 : Int)).bind fun t14 =>
    if t14.1 = true then (rex_Join k (4 : Int) [x10]).bind fun t18 =>
    (rex_reader_repeat_l1 k t2 j) t14.2.f0 t14.2.f1 t14.2.f2 t18
    else (rex_reader_eat k t14.2 (43 : Int)).bind fun t19 =>
    if t19.1 = true then (rex_Join k (5 : Int) [x10]).bind fun t23 =>
    (rex_reader_repeat_l1 k t2 j) t19.2.f0 t19.2.f1 t19.2.f2 t23
    else (rex_reader_eat k t19.2 (63 : Int)).bind fun t24 =>
    if t24.1 = true then (rex_Join k (6 : Int) [x10]).bind fun t28 =>
    (rex_reader_repeat_l1 k t2 j) t24.2.f0 t24.2.f1 t24.2.f2 t28
    else some (x10, true, t24.2)
    else rex_reader_repeat_c0 k x7 x8 x9
mutual
def rex_reader_alt_r (k : Nat) : Nat → S49 → Option ((List S40) × Bool × S49)
  | 0, _ => none
  | j + 1, p0 =>
    ((rex_reader_cat_r k j) p0).bind fun t2 =>
    rex_reader_alt_l1 k (rex_reader_cat_r k j) k t2.2.2.f0 t2.2.2.f1 t2.2.2.f2 t2.1 t2.2.1
def rex_reader_cat_r (k : Nat) : Nat → S49 → Option ((List S40) × Bool × S49)
  | 0, _ => none
  | j + 1, p0 =>
    ((rex_reader_repeat_r k j) p0).bind fun t2 =>
    rex_reader_cat_l1 k (rex_reader_repeat_r k j) k t2.2.2.f0 t2.2.2.f1 t2.2.2.f2 t2.1 t2.2.1
def rex_reader_repeat_r (k : Nat) : Nat → S49 → Option ((List S40) × Bool × S49)
  | 0, _ => none
  | j + 1, p0 =>
    ((rex_reader_one_r k j) p0).bind fun t2 =>
    rex_reader_repeat_l1 k t2 k t2.2.2.f0 t2.2.2.f1 t2.2.2.f2 t2.1
def rex_reader_one_r (k : Nat) : Nat → S49 → Option ((List S40) × Bool × S49)
  | 0, _ => none
  | j + 1, p0 =>
    (rex_reader_end k p0 (ByteArray.mk #[124, 41, 42, 43, 63, 93, 47, 34])).bind fun t2 =>
    if t2 = true then some ([], false, p0)
    else (rex_reader_eat k p0 (46 : Int)).bind fun t5 =>
    if t5.1 = true then (byteset_Full k).bind fun t8 =>
    some ([(S40.mk (1 : Int) t8)], true, t5.2)
    else (rex_reader_eat k t5.2 (126 : Int)).bind fun t10 =>
    if t10.1 = true then some ([(S40.mk (0 : Int) (Vector.replicate 4 (0 : Int)))], true, t10.2)
    else (rex_reader_eat k t10.2 (40 : Int)).bind fun t14 =>
    if t14.1 = true then ((rex_reader_alt_r k j) (S49.mk t14.2.f0 t14.2.f1 (w64 (t14.2.f2 + (1 : Int))))).bind fun t17 =>
    Option.bind (α := Bool × ByteArray × Int × Int) (if t17.2.1 = true then if (w64 (t17.2.2.f2 - (1 : Int))) < (99 : Int) then (rex_reader_eat k (S49.mk t17.2.2.f0 t17.2.2.f1 (w64 (t17.2.2.f2 - (1 : Int)))) (41 : Int)).bind fun t26 =>
    some (t26.1, t26.2.f0, t26.2.f1, t26.2.f2)
    else some (false, t17.2.2.f0, t17.2.2.f1, (w64 (t17.2.2.f2 - (1 : Int))))
    else some (false, t17.2.2.f0, t17.2.2.f1, (w64 (t17.2.2.f2 - (1 : Int))))) fun (b19, x20, x21, x22) =>
    some (t17.1, b19, (S49.mk x20 x21 x22))
    else (rex_reader_eat k t14.2 (91 : Int)).bind fun t28 =>
    if t28.1 = true then (rex_reader_brackets k t28.2).bind fun t31 =>
    some (t31.1, t31.2.1, t31.2.2)
    else (rex_reader_byte k t28.2).bind fun t33 =>
    (byteset_Of k [t33.1]).bind fun t36 =>
    some ([(S40.mk (1 : Int) t36)], t33.2.1, t33.2.2)
end
def rex_reader_alt (k : Nat) (p0 : S49) : Option ((List S40) × Bool × S49) := rex_reader_alt_r k k p0
theorem rex_reader_alt_all (k : Nat) : ∀ j : Nat, (∀ (p0 : S49) (r : ((List S40) × Bool × S49)), rex_reader_alt_r k j p0 = some r → ∀ (q0 : Nat) (T0 : Heap), SpecH Tryd.prog 21 [(.ptr q0 0)] ((q0, (.mem (e49 p0))) :: T0) (fun x H' => x = .tup [(.fz 5 (r.1.map e40)), (eBool r.2.1)] ∧ Sub ((q0, (.mem (e49 r.2.2))) :: T0) H')) ∧ (∀ (p0 : S49) (r : ((List S40) × Bool × S49)), rex_reader_cat_r k j p0 = some r → ∀ (q0 : Nat) (T0 : Heap), SpecH Tryd.prog 30 [(.ptr q0 0)] ((q0, (.mem (e49 p0))) :: T0) (fun x H' => x = .tup [(.fz 5 (r.1.map e40)), (eBool r.2.1)] ∧ Sub ((q0, (.mem (e49 r.2.2))) :: T0) H')) ∧ (∀ (p0 : S49) (r : ((List S40) × Bool × S49)), rex_reader_repeat_r k j p0 = some r → ∀ (q0 : Nat) (T0 : Heap), SpecH Tryd.prog 43 [(.ptr q0 0)] ((q0, (.mem (e49 p0))) :: T0) (fun x H' => x = .tup [(.fz 5 (r.1.map e40)), (eBool r.2.1)] ∧ Sub ((q0, (.mem (e49 r.2.2))) :: T0) H')) ∧ (∀ (p0 : S49) (r : ((List S40) × Bool × S49)), rex_reader_one_r k j p0 = some r → ∀ (q0 : Nat) (T0 : Heap), SpecH Tryd.prog 53 [(.ptr q0 0)] ((q0, (.mem (e49 p0))) :: T0) (fun x H' => x = .tup [(.fz 5 (r.1.map e40)), (eBool r.2.1)] ∧ Sub ((q0, (.mem (e49 r.2.2))) :: T0) H')) := by
  intro j
  induction j with
  | zero => exact ⟨(by intro p0 r h; rw [rex_reader_alt_r.eq_1] at h; cases h), (by intro p0 r h; rw [rex_reader_cat_r.eq_1] at h; cases h), (by intro p0 r h; rw [rex_reader_repeat_r.eq_1] at h; cases h), (by intro p0 r h; rw [rex_reader_one_r.eq_1] at h; cases h)⟩
  | succ j hself =>
  obtain ⟨hself21, hself30, hself43, hself53⟩ := hself
  refine ⟨?_, ?_, ?_, ?_⟩
  ·intro p0 r h q0 T0
   rw [rex_reader_alt_r.eq_2] at h
   generalize hsself21 : rex_reader_alt_r k j = self21 at h hself21
   generalize hsself30 : rex_reader_cat_r k j = self30 at h hself30
   generalize hsself43 : rex_reader_repeat_r k j = self43 at h hself43
   generalize hsself53 : rex_reader_one_r k j = self53 at h hself53
   refine SpecH.intro (res := [.tmp 2, .tmp 3]) Tryd.func21 rfl rfl rfl (Nat.le_of_ble_eq_true rfl) ?_
   refine AW.sr ?_
   refine AO.c (Calm.assign rfl rfl) ?_
   refine AO.c (Calm.assign rfl rfl) ?_
   refine AO.nK [0] ?_
   refine AW.sr ?_
   refine AO.c (Calm.move rfl rfl) ?_
   obtain ⟨t2, et2, h⟩ := of_bind h
   refine AO.callH [(.ptr q0 0)] ((q0, (.mem (e49 p0))) :: T0) _ rfl rfl rfl 9 rfl (by decide) ok30 ⟨rfl, rfl, trivial⟩ (Sub.cons 0 rfl (Sub.refl _)) (hself30 _ _ et2 _ _) ?_
   rintro _ _ ⟨rfl, hs3⟩
   refine AO.wH [0, 8, 9] hs3 ?_
   refine AO.c (Calm.move rfl rfl) ?_
   refine AO.c (Calm.extract rfl rfl rfl) ?_
   refine AO.c (Calm.extract rfl rfl rfl) ?_
   refine AO.c (Calm.assign rfl rfl) ?_
   refine AO.c (Calm.assign rfl rfl) ?_
   refine AO.nK [0, 4, 5] ?_
   refine AW.seq_mid (fun ρ H => ∃ (x4 : (List S40)) (b5 : Bool) (x6 : ByteArray) (x7 : Int) (x8 : Int), ρ = [(4, (.fz 5 (x4.map e40))), (5, (eBool b5))] ∧ H = ((q0, (.mem (.st [(1, (eStr x6)), (1, (eI64 x7)), (1, (eI64 x8))]))) :: T0) ∧ rex_reader_alt_c0 k x4 b5 x6 x7 x8 = some r) ?_ ?_
   ·refine AW.block ?_
    refine AW.wK [0, 4, 5] ?_
    refine AW.loop (fun kq ρ H => ∃ (x9 : ByteArray) (x10 : Int) (x11 : Int) (x12 : (List S40)) (b13 : Bool), ρ = [(0, (.ptr q0 0)), (4, (.fz 5 (x12.map e40))), (5, (eBool b13))] ∧ H = ((q0, (.mem (.st [(1, (eStr x9)), (1, (eI64 x10)), (1, (eI64 x11))]))) :: T0) ∧ rex_reader_alt_l1 k self30 kq x9 x10 x11 x12 b13 = some r) k ⟨t2.2.2.f0, t2.2.2.f1, t2.2.2.f2, t2.1, t2.2.1, rfl, rfl, h⟩ ?_
    rintro kq15 _ _ ⟨x9, x10, x11, x12, b13, rfl, rfl, h⟩
    cases kq15 with
    | zero => rw [rex_reader_alt_l1.eq_1] at h; cases h
    | succ kq15 =>
    rw [rex_reader_alt_l1.eq_2] at h
    generalize hrec14 : rex_reader_alt_l1 k self30 kq15 = rec14 at h
    refine AW.seq ?_
    refine AW.seq ?_
    obtain ⟨⟨x16, x17, x18, b19⟩, hq20, h⟩ := of_bind h
    refine AW.regM [(0, (.ptr q0 0)), (4, (.fz 5 (x12.map e40))), (5, (eBool b13)), (16, (eBool b19))] ((q0, (.mem (.st [(1, (eStr x16)), (1, (eI64 x17)), (1, (eI64 x18))]))) :: T0) ?_ ?_
    ·refine AO.c (Calm.move rfl rfl) ?_
     refine AO.c (Calm.move rfl rfl) ?_
     rcases of_ite hq20 with ⟨hc21, hq20⟩ | ⟨hc21, hq20⟩
     ·refine AO.cG rfl rfl (bD hc21) (Calm.move rfl rfl) ?_
      obtain ⟨t22, et22, hq20⟩ := of_bind hq20
      refine AO.unguard 1 true 13 rfl rfl (bD hc21) ?_
      refine AO.callH [(.ptr q0 0), (eU8 (124 : Int))] ((q0, (.mem (e49 (S49.mk x9 x10 x11)))) :: T0) _ rfl rfl rfl 15 rfl (by decide) ok31 ⟨rfl, rfl, rfl, rfl, trivial⟩ (Sub.cons 0 rfl (Sub.refl _)) (rex_reader_eat_spec et22) ?_
      rintro _ _ ⟨rfl, hs23⟩
      refine AO.wH [0, 4, 5, 12, 13, 14, 15] hs23 ?_
      refine AO.c (Calm.pickT rfl (bD hc21) rfl) ?_
      cases hq20
      refine AO.nilE ⟨rfl, rfl⟩ ?_ ?_
      · exact ⟨rfl, rfl, rfl, rfl, trivial⟩
      · exact (Sub.refl _)
     ·refine AO.sT rfl rfl (bD (eq_false_of_ne_true hc21)) ?_
      refine AO.sT rfl rfl (bD (eq_false_of_ne_true hc21)) ?_
      refine AO.c (Calm.pickF rfl (bD (eq_false_of_ne_true hc21)) rfl) ?_
      cases hq20
      refine AO.nilE ⟨rfl, rfl⟩ ?_ ?_
      · exact ⟨rfl, rfl, rfl, rfl, trivial⟩
      · exact (Sub.refl _)
    ·rcases of_ite h with ⟨hc24, h⟩ | ⟨hc24, h⟩
     ·refine AW.condT' _ rfl hc24 ?_
      refine AW.sK [0, 4] ?_
      refine AW.block ?_
      refine AW.sr ?_
      refine AO.c (Calm.assign rfl rfl) ?_
      refine AO.nK [0, 4] ?_
      refine AW.sr ?_
      refine AO.c (Calm.move rfl rfl) ?_
      obtain ⟨t25, et25, h⟩ := of_bind h
      refine AO.callH [(.ptr q0 0)] ((q0, (.mem (e49 (S49.mk x16 x17 x18)))) :: T0) _ rfl rfl rfl 19 rfl (by decide) ok30 ⟨rfl, rfl, trivial⟩ (Sub.cons 0 rfl (Sub.refl _)) (hself30 _ _ et25 _ _) ?_
      rintro _ _ ⟨rfl, hs26⟩
      refine AO.wH [0, 4, 18, 19] hs26 ?_
      refine AO.c (Calm.move rfl rfl) ?_
      refine AO.c (Calm.extract rfl rfl rfl) ?_
      refine AO.c (Calm.extract rfl rfl rfl) ?_
      refine AO.c (Calm.assign rfl rfl) ?_
      refine AO.c (Calm.assign rfl rfl) ?_
      refine AO.nK [0, 4, 5, 6] ?_
      refine AW.reg ?_
      refine AO.c (Calm.move rfl rfl) ?_
      refine AO.c (Calm.move rfl rfl) ?_
      refine AO.lit (Z := (.fl (.slice none 0 0))) (xs := (([x12, t25.1] : List (List S40)).map e23)) (qs := [(0, (.fz 5 (x12.map e40))), (1, (.fz 5 (t25.1.map e40)))]) rfl 24 rfl (by decide) rfl ⟨rfl, rfl, rfl, rfl, rfl, rfl, trivial⟩ Tryd.underlying41 sz23 zr23 lay23 rfl (by decide) (litOK (z := 1) [(.fz 5 (x12.map e40)), (.fz 5 (t25.1.map e40))] rfl ⟨⟨rfl, rfl⟩, ⟨rfl, rfl⟩, trivial⟩) rfl fun n27 => ?_
      obtain ⟨t28, et28, h⟩ := of_bind h
      refine AO.freezeS 0 [(24, (.fz 1 (([x12, t25.1] : List (List S40)).map e23)))] rfl ⟨fz_all rfl, trivial⟩ ?_
      refine AO.callS [(eI64 (3 : Int)), (.fz 1 (([x12, t25.1] : List (List S40)).map e23))] (.fz 5 (t28.map e40)) 25 rfl (by decide) ok18 rfl rfl rfl ⟨rfl, rfl, rfl, rfl, trivial⟩ (rex_Join_spec et28) ?_
      refine AO.c (Calm.assign rfl rfl) ?_
      refine AO.nK [0, 4, 5] ?_
      exact ⟨kq15, Nat.lt_succ_self _, t25.2.2.f0, t25.2.2.f1, t25.2.2.f2, t28, t25.2.1, rfl, rfl, by rw [hrec14]; exact h⟩
     ·refine AW.condF' _ rfl hc24 ?_
      refine AW.eK [4, 5] ?_
      exact ⟨x12, b13, x16, x17, x18, rfl, rfl, h⟩
   ·rintro _ _ ⟨x4, b5, x6, x7, x8, rfl, rfl, h⟩
    rw [rex_reader_alt_c0.eq_1] at h
    refine AW.sr ?_
    refine AO.c (Calm.move rfl rfl) ?_
    refine AO.c (Calm.move rfl rfl) ?_
    refine AO.c (Calm.assign rfl rfl) ?_
    refine AO.c (Calm.assign rfl rfl) ?_
    refine AO.nK [2, 3] ?_
    refine AW.rK [2, 3] ?_
    have hr := Option.some.inj h
    subst hr
    exact ⟨[(.fz 5 (x4.map e40)), (eBool b5)], ⟨rfl, rfl, rfl, rfl, trivial⟩, rfl, (Sub.cons 0 rfl (Sub.refl _))⟩
  ·intro p0 r h q0 T0
   rw [rex_reader_cat_r.eq_2] at h
   generalize hsself21 : rex_reader_alt_r k j = self21 at h hself21
   generalize hsself30 : rex_reader_cat_r k j = self30 at h hself30
   generalize hsself43 : rex_reader_repeat_r k j = self43 at h hself43
   generalize hsself53 : rex_reader_one_r k j = self53 at h hself53
   refine SpecH.intro (res := [.tmp 2, .tmp 3]) Tryd.func30 rfl rfl rfl (Nat.le_of_ble_eq_true rfl) ?_
   refine AW.sr ?_
   refine AO.c (Calm.assign rfl rfl) ?_
   refine AO.c (Calm.assign rfl rfl) ?_
   refine AO.nK [0] ?_
   refine AW.sr ?_
   refine AO.c (Calm.move rfl rfl) ?_
   obtain ⟨t2, et2, h⟩ := of_bind h
   refine AO.callH [(.ptr q0 0)] ((q0, (.mem (e49 p0))) :: T0) _ rfl rfl rfl 9 rfl (by decide) ok43 ⟨rfl, rfl, trivial⟩ (Sub.cons 0 rfl (Sub.refl _)) (hself43 _ _ et2 _ _) ?_
   rintro _ _ ⟨rfl, hs3⟩
   refine AO.wH [0, 8, 9] hs3 ?_
   refine AO.c (Calm.move rfl rfl) ?_
   refine AO.c (Calm.extract rfl rfl rfl) ?_
   refine AO.c (Calm.extract rfl rfl rfl) ?_
   refine AO.c (Calm.assign rfl rfl) ?_
   refine AO.c (Calm.assign rfl rfl) ?_
   refine AO.nK [0, 4, 5] ?_
   refine AW.seq_mid (fun ρ H => ∃ (x4 : (List S40)) (b5 : Bool) (x6 : ByteArray) (x7 : Int) (x8 : Int), ρ = [(4, (.fz 5 (x4.map e40))), (5, (eBool b5))] ∧ H = ((q0, (.mem (.st [(1, (eStr x6)), (1, (eI64 x7)), (1, (eI64 x8))]))) :: T0) ∧ rex_reader_cat_c0 k x4 b5 x6 x7 x8 = some r) ?_ ?_
   ·refine AW.block ?_
    refine AW.wK [0, 4, 5] ?_
    refine AW.loop (fun kq ρ H => ∃ (x9 : ByteArray) (x10 : Int) (x11 : Int) (x12 : (List S40)) (b13 : Bool), ρ = [(0, (.ptr q0 0)), (4, (.fz 5 (x12.map e40))), (5, (eBool b13))] ∧ H = ((q0, (.mem (.st [(1, (eStr x9)), (1, (eI64 x10)), (1, (eI64 x11))]))) :: T0) ∧ rex_reader_cat_l1 k self43 kq x9 x10 x11 x12 b13 = some r) k ⟨t2.2.2.f0, t2.2.2.f1, t2.2.2.f2, t2.1, t2.2.1, rfl, rfl, h⟩ ?_
    rintro kq15 _ _ ⟨x9, x10, x11, x12, b13, rfl, rfl, h⟩
    cases kq15 with
    | zero => rw [rex_reader_cat_l1.eq_1] at h; cases h
    | succ kq15 =>
    rw [rex_reader_cat_l1.eq_2] at h
    generalize hrec14 : rex_reader_cat_l1 k self43 kq15 = rec14 at h
    refine AW.seq ?_
    refine AW.seq ?_
    obtain ⟨b16, hq17, h⟩ := of_bind h
    refine AW.regM [(0, (.ptr q0 0)), (4, (.fz 5 (x12.map e40))), (5, (eBool b13)), (17, (eBool b16))] ((q0, (.mem (.st [(1, (eStr x9)), (1, (eI64 x10)), (1, (eI64 x11))]))) :: T0) ?_ ?_
    ·refine AO.c (Calm.move rfl rfl) ?_
     refine AO.c (Calm.move rfl rfl) ?_
     rcases of_ite hq17 with ⟨hc18, hq17⟩ | ⟨hc18, hq17⟩
     ·refine AO.cG rfl rfl (bD hc18) (Calm.move rfl rfl) ?_
      obtain ⟨t19, et19, hq17⟩ := of_bind hq17
      refine AO.unguard 1 true 13 rfl rfl (bD hc18) ?_
      refine AO.callH [(.ptr q0 0), (eStr (ByteArray.mk #[124, 41]))] ((q0, (.mem (e49 (S49.mk x9 x10 x11)))) :: T0) _ rfl rfl rfl 15 rfl (by decide) ok44 ⟨rfl, rfl, rfl, rfl, trivial⟩ (Sub.cons 0 rfl (Sub.refl _)) (rex_reader_end_spec et19) ?_
      rintro _ _ ⟨rfl, hs20⟩
      refine AO.wH [0, 4, 5, 12, 13, 14, 15] hs20 ?_
      refine AO.cG rfl rfl (bD hc18) (Calm.not rfl rfl) ?_
      refine AO.c (Calm.pickT rfl (bD hc18) rfl) ?_
      cases hq17
      refine AO.nilE ⟨rfl, rfl⟩ ?_ ?_
      · exact ⟨rfl, rfl, rfl, rfl, trivial⟩
      · exact (Sub.refl _)
     ·refine AO.sT rfl rfl (bD (eq_false_of_ne_true hc18)) ?_
      refine AO.sT rfl rfl (bD (eq_false_of_ne_true hc18)) ?_
      refine AO.sT rfl rfl (bD (eq_false_of_ne_true hc18)) ?_
      refine AO.c (Calm.pickF rfl (bD (eq_false_of_ne_true hc18)) rfl) ?_
      cases hq17
      refine AO.nilE ⟨rfl, rfl⟩ ?_ ?_
      · exact ⟨rfl, rfl, rfl, rfl, trivial⟩
      · exact (Sub.refl _)
    ·rcases of_ite h with ⟨hc21, h⟩ | ⟨hc21, h⟩
     ·refine AW.condT' _ rfl hc21 ?_
      refine AW.sK [0, 4] ?_
      refine AW.block ?_
      refine AW.sr ?_
      refine AO.c (Calm.assign rfl rfl) ?_
      refine AO.nK [0, 4] ?_
      refine AW.sr ?_
      refine AO.c (Calm.move rfl rfl) ?_
      obtain ⟨t22, et22, h⟩ := of_bind h
      refine AO.callH [(.ptr q0 0)] ((q0, (.mem (e49 (S49.mk x9 x10 x11)))) :: T0) _ rfl rfl rfl 20 rfl (by decide) ok43 ⟨rfl, rfl, trivial⟩ (Sub.cons 0 rfl (Sub.refl _)) (hself43 _ _ et22 _ _) ?_
      rintro _ _ ⟨rfl, hs23⟩
      refine AO.wH [0, 4, 19, 20] hs23 ?_
      refine AO.c (Calm.move rfl rfl) ?_
      refine AO.c (Calm.extract rfl rfl rfl) ?_
      refine AO.c (Calm.extract rfl rfl rfl) ?_
      refine AO.c (Calm.assign rfl rfl) ?_
      refine AO.c (Calm.assign rfl rfl) ?_
      refine AO.nK [0, 4, 5, 6] ?_
      refine AW.reg ?_
      refine AO.c (Calm.move rfl rfl) ?_
      refine AO.c (Calm.move rfl rfl) ?_
      refine AO.lit (Z := (.fl (.slice none 0 0))) (xs := (([x12, t22.1] : List (List S40)).map e23)) (qs := [(0, (.fz 5 (x12.map e40))), (1, (.fz 5 (t22.1.map e40)))]) rfl 25 rfl (by decide) rfl ⟨rfl, rfl, rfl, rfl, rfl, rfl, trivial⟩ Tryd.underlying41 sz23 zr23 lay23 rfl (by decide) (litOK (z := 1) [(.fz 5 (x12.map e40)), (.fz 5 (t22.1.map e40))] rfl ⟨⟨rfl, rfl⟩, ⟨rfl, rfl⟩, trivial⟩) rfl fun n24 => ?_
      obtain ⟨t25, et25, h⟩ := of_bind h
      refine AO.freezeS 0 [(25, (.fz 1 (([x12, t22.1] : List (List S40)).map e23)))] rfl ⟨fz_all rfl, trivial⟩ ?_
      refine AO.callS [(eI64 (2 : Int)), (.fz 1 (([x12, t22.1] : List (List S40)).map e23))] (.fz 5 (t25.map e40)) 26 rfl (by decide) ok18 rfl rfl rfl ⟨rfl, rfl, rfl, rfl, trivial⟩ (rex_Join_spec et25) ?_
      refine AO.c (Calm.assign rfl rfl) ?_
      refine AO.nK [0, 4, 5] ?_
      exact ⟨kq15, Nat.lt_succ_self _, t22.2.2.f0, t22.2.2.f1, t22.2.2.f2, t25, t22.2.1, rfl, rfl, by rw [hrec14]; exact h⟩
     ·refine AW.condF' _ rfl hc21 ?_
      refine AW.eK [4, 5] ?_
      exact ⟨x12, b13, x9, x10, x11, rfl, rfl, h⟩
   ·rintro _ _ ⟨x4, b5, x6, x7, x8, rfl, rfl, h⟩
    rw [rex_reader_cat_c0.eq_1] at h
    refine AW.sr ?_
    refine AO.c (Calm.move rfl rfl) ?_
    refine AO.c (Calm.move rfl rfl) ?_
    refine AO.c (Calm.assign rfl rfl) ?_
    refine AO.c (Calm.assign rfl rfl) ?_
    refine AO.nK [2, 3] ?_
    refine AW.rK [2, 3] ?_
    have hr := Option.some.inj h
    subst hr
    exact ⟨[(.fz 5 (x4.map e40)), (eBool b5)], ⟨rfl, rfl, rfl, rfl, trivial⟩, rfl, (Sub.cons 0 rfl (Sub.refl _))⟩
  ·intro p0 r h q0 T0
   rw [rex_reader_repeat_r.eq_2] at h
   generalize hsself21 : rex_reader_alt_r k j = self21 at h hself21
   generalize hsself30 : rex_reader_cat_r k j = self30 at h hself30
   generalize hsself43 : rex_reader_repeat_r k j = self43 at h hself43
   generalize hsself53 : rex_reader_one_r k j = self53 at h hself53
   refine SpecH.intro (res := [.tmp 2, .tmp 3]) Tryd.func43 rfl rfl rfl (Nat.le_of_ble_eq_true rfl) ?_
   refine AW.sr ?_
   refine AO.c (Calm.assign rfl rfl) ?_
   refine AO.c (Calm.assign rfl rfl) ?_
   refine AO.nK [0] ?_
   refine AW.sr ?_
   refine AO.c (Calm.move rfl rfl) ?_
   obtain ⟨t2, et2, h⟩ := of_bind h
   refine AO.callH [(.ptr q0 0)] ((q0, (.mem (e49 p0))) :: T0) _ rfl rfl rfl 8 rfl (by decide) ok53 ⟨rfl, rfl, trivial⟩ (Sub.cons 0 rfl (Sub.refl _)) (hself53 _ _ et2 _ _) ?_
   rintro _ _ ⟨rfl, hs3⟩
   refine AO.wH [0, 7, 8] hs3 ?_
   refine AO.c (Calm.move rfl rfl) ?_
   refine AO.c (Calm.extract rfl rfl rfl) ?_
   refine AO.c (Calm.extract rfl rfl rfl) ?_
   refine AO.c (Calm.assign rfl rfl) ?_
   refine AO.c (Calm.assign rfl rfl) ?_
   refine AO.nK [0, 4, 5] ?_
   refine AW.seq_mid (fun ρ H => ∃ (x4 : ByteArray) (x5 : Int) (x6 : Int), ρ = [] ∧ H = ((q0, (.mem (.st [(1, (eStr x4)), (1, (eI64 x5)), (1, (eI64 x6))]))) :: T0) ∧ rex_reader_repeat_c0 k x4 x5 x6 = some r) ?_ ?_
   ·refine AW.block ?_
    refine AW.wK [0, 4, 5] ?_
    refine AW.loop (fun kq ρ H => ∃ (x7 : ByteArray) (x8 : Int) (x9 : Int) (x10 : (List S40)), ρ = [(0, (.ptr q0 0)), (4, (.fz 5 (x10.map e40))), (5, (eBool t2.2.1))] ∧ H = ((q0, (.mem (.st [(1, (eStr x7)), (1, (eI64 x8)), (1, (eI64 x9))]))) :: T0) ∧ rex_reader_repeat_l1 k t2 kq x7 x8 x9 x10 = some r) k ⟨t2.2.2.f0, t2.2.2.f1, t2.2.2.f2, t2.1, rfl, rfl, h⟩ ?_
    rintro kq12 _ _ ⟨x7, x8, x9, x10, rfl, rfl, h⟩
    cases kq12 with
    | zero => rw [rex_reader_repeat_l1.eq_1] at h; cases h
    | succ kq12 =>
    rw [rex_reader_repeat_l1.eq_2] at h
    generalize hrec11 : rex_reader_repeat_l1 k t2 kq12 = rec11 at h
    refine AW.seq ?_
    refine AW.sr ?_
    refine AO.c (Calm.move rfl rfl) ?_
    refine AO.nK [0, 4, 5, 11] ?_
    rcases of_ite h with ⟨hc13, h⟩ | ⟨hc13, h⟩
    ·refine AW.condT' _ rfl hc13 ?_
     refine AW.sK [0, 4, 5] ?_
     refine AW.block ?_
     refine AW.block ?_
     refine AW.sr ?_
     refine AO.c (Calm.move rfl rfl) ?_
     obtain ⟨t14, et14, h⟩ := of_bind h
     refine AO.callH [(.ptr q0 0), (eU8 (42 : Int))] ((q0, (.mem (e49 (S49.mk x7 x8 x9)))) :: T0) _ rfl rfl rfl 15 rfl (by decide) ok31 ⟨rfl, rfl, rfl, rfl, trivial⟩ (Sub.cons 0 rfl (Sub.refl _)) (rex_reader_eat_spec et14) ?_
     rintro _ _ ⟨rfl, hs15⟩
     refine AO.wH [0, 4, 5, 14, 15] hs15 ?_
     refine AO.c (Calm.assign rfl rfl) ?_
     refine AO.nK [0, 4, 5, 13] ?_
     rcases of_ite h with ⟨hc16, h⟩ | ⟨hc16, h⟩
     ·refine AW.condT' _ rfl hc16 ?_
      refine AW.reg ?_
      refine AO.c (Calm.move rfl rfl) ?_
      refine AO.lit (Z := (.fl (.slice none 0 0))) (xs := (([x10] : List (List S40)).map e23)) (qs := [(0, (.fz 5 (x10.map e40)))]) rfl 17 rfl (by decide) rfl ⟨rfl, rfl, rfl, trivial⟩ Tryd.underlying41 sz23 zr23 lay23 rfl (by decide) (litOK (z := 1) [(.fz 5 (x10.map e40))] rfl ⟨⟨rfl, rfl⟩, trivial⟩) rfl fun n17 => ?_
      obtain ⟨t18, et18, h⟩ := of_bind h
      refine AO.freezeS 0 [(17, (.fz 1 (([x10] : List (List S40)).map e23)))] rfl ⟨fz_all rfl, trivial⟩ ?_
      refine AO.callS [(eI64 (4 : Int)), (.fz 1 (([x10] : List (List S40)).map e23))] (.fz 5 (t18.map e40)) 18 rfl (by decide) ok18 rfl rfl rfl ⟨rfl, rfl, rfl, rfl, trivial⟩ (rex_Join_spec et18) ?_
      refine AO.c (Calm.assign rfl rfl) ?_
      refine AO.nK [0, 4, 5] ?_
      exact ⟨kq12, Nat.lt_succ_self _, t14.2.f0, t14.2.f1, t14.2.f2, t18, rfl, rfl, by rw [hrec11]; exact h⟩
     ·refine AW.condF' _ rfl hc16 ?_
      refine AW.sr ?_
      refine AO.c (Calm.move rfl rfl) ?_
      obtain ⟨t19, et19, h⟩ := of_bind h
      refine AO.callH [(.ptr q0 0), (eU8 (43 : Int))] ((q0, (.mem (e49 t14.2))) :: T0) _ rfl rfl rfl 21 rfl (by decide) ok31 ⟨rfl, rfl, rfl, rfl, trivial⟩ (Sub.cons 0 rfl (Sub.refl _)) (rex_reader_eat_spec et19) ?_
      rintro _ _ ⟨rfl, hs20⟩
      refine AO.wH [0, 4, 5, 13, 20, 21] hs20 ?_
      refine AO.c (Calm.assign rfl rfl) ?_
      refine AO.nK [0, 4, 5, 19] ?_
      rcases of_ite h with ⟨hc21, h⟩ | ⟨hc21, h⟩
      ·refine AW.condT' _ rfl hc21 ?_
       refine AW.reg ?_
       refine AO.c (Calm.move rfl rfl) ?_
       refine AO.lit (Z := (.fl (.slice none 0 0))) (xs := (([x10] : List (List S40)).map e23)) (qs := [(0, (.fz 5 (x10.map e40)))]) rfl 23 rfl (by decide) rfl ⟨rfl, rfl, rfl, trivial⟩ Tryd.underlying41 sz23 zr23 lay23 rfl (by decide) (litOK (z := 1) [(.fz 5 (x10.map e40))] rfl ⟨⟨rfl, rfl⟩, trivial⟩) rfl fun n22 => ?_
       obtain ⟨t23, et23, h⟩ := of_bind h
       refine AO.freezeS 0 [(23, (.fz 1 (([x10] : List (List S40)).map e23)))] rfl ⟨fz_all rfl, trivial⟩ ?_
       refine AO.callS [(eI64 (5 : Int)), (.fz 1 (([x10] : List (List S40)).map e23))] (.fz 5 (t23.map e40)) 24 rfl (by decide) ok18 rfl rfl rfl ⟨rfl, rfl, rfl, rfl, trivial⟩ (rex_Join_spec et23) ?_
       refine AO.c (Calm.assign rfl rfl) ?_
       refine AO.nK [0, 4, 5] ?_
       exact ⟨kq12, Nat.lt_succ_self _, t19.2.f0, t19.2.f1, t19.2.f2, t23, rfl, rfl, by rw [hrec11]; exact h⟩
      ·refine AW.condF' _ rfl hc21 ?_
       refine AW.sr ?_
       refine AO.c (Calm.move rfl rfl) ?_
       obtain ⟨t24, et24, h⟩ := of_bind h
       refine AO.callH [(.ptr q0 0), (eU8 (63 : Int))] ((q0, (.mem (e49 t19.2))) :: T0) _ rfl rfl rfl 27 rfl (by decide) ok31 ⟨rfl, rfl, rfl, rfl, trivial⟩ (Sub.cons 0 rfl (Sub.refl _)) (rex_reader_eat_spec et24) ?_
       rintro _ _ ⟨rfl, hs25⟩
       refine AO.wH [0, 4, 5, 19, 26, 27] hs25 ?_
       refine AO.c (Calm.assign rfl rfl) ?_
       refine AO.nK [0, 4, 5, 25] ?_
       rcases of_ite h with ⟨hc26, h⟩ | ⟨hc26, h⟩
       ·refine AW.condT' _ rfl hc26 ?_
        refine AW.reg ?_
        refine AO.c (Calm.move rfl rfl) ?_
        refine AO.lit (Z := (.fl (.slice none 0 0))) (xs := (([x10] : List (List S40)).map e23)) (qs := [(0, (.fz 5 (x10.map e40)))]) rfl 29 rfl (by decide) rfl ⟨rfl, rfl, rfl, trivial⟩ Tryd.underlying41 sz23 zr23 lay23 rfl (by decide) (litOK (z := 1) [(.fz 5 (x10.map e40))] rfl ⟨⟨rfl, rfl⟩, trivial⟩) rfl fun n27 => ?_
        obtain ⟨t28, et28, h⟩ := of_bind h
        refine AO.freezeS 0 [(29, (.fz 1 (([x10] : List (List S40)).map e23)))] rfl ⟨fz_all rfl, trivial⟩ ?_
        refine AO.callS [(eI64 (6 : Int)), (.fz 1 (([x10] : List (List S40)).map e23))] (.fz 5 (t28.map e40)) 30 rfl (by decide) ok18 rfl rfl rfl ⟨rfl, rfl, rfl, rfl, trivial⟩ (rex_Join_spec et28) ?_
        refine AO.c (Calm.assign rfl rfl) ?_
        refine AO.nK [0, 4, 5] ?_
        exact ⟨kq12, Nat.lt_succ_self _, t24.2.f0, t24.2.f1, t24.2.f2, t28, rfl, rfl, by rw [hrec11]; exact h⟩
       ·refine AW.condF' _ rfl hc26 ?_
        refine AW.sr ?_
        refine AO.c (Calm.move rfl rfl) ?_
        refine AO.c (Calm.assign rfl rfl) ?_
        refine AO.c (Calm.assign rfl rfl) ?_
        refine AO.nK [2, 3] ?_
        refine AW.rK [2, 3] ?_
        have hr := Option.some.inj h
        subst hr
        exact ⟨[(.fz 5 (x10.map e40)), (eBool true)], ⟨rfl, rfl, rfl, rfl, trivial⟩, rfl, (Sub.cons 0 rfl (Sub.refl _))⟩
    ·refine AW.condF' _ rfl hc13 ?_
     refine AW.eK [] ?_
     exact ⟨x7, x8, x9, rfl, rfl, h⟩
   ·rintro _ _ ⟨x4, x5, x6, rfl, rfl, h⟩
    rw [rex_reader_repeat_c0.eq_1] at h
    refine AW.sr ?_
    refine AO.c (Calm.assign rfl rfl) ?_
    refine AO.c (Calm.assign rfl rfl) ?_
    refine AO.nK [2, 3] ?_
    refine AW.coeC 2 (y' := (.fz 5 (([] : List S40).map e40))) rfl Coe.nil ?_
    refine AW.rK [2, 3] ?_
    have hr := Option.some.inj h
    subst hr
    exact ⟨[(.fz 5 (([] : List S40).map e40)), (eBool false)], ⟨rfl, rfl, rfl, rfl, trivial⟩, rfl, (Sub.cons 0 rfl (Sub.refl _))⟩
  ·intro p0 r h q0 T0
   rw [rex_reader_one_r.eq_2] at h
   generalize hsself21 : rex_reader_alt_r k j = self21 at h hself21
   generalize hsself30 : rex_reader_cat_r k j = self30 at h hself30
   generalize hsself43 : rex_reader_repeat_r k j = self43 at h hself43
   generalize hsself53 : rex_reader_one_r k j = self53 at h hself53
   refine SpecH.intro (res := [.tmp 2, .tmp 3]) Tryd.func53 rfl rfl rfl (Nat.le_of_ble_eq_true rfl) ?_
   refine AW.sr ?_
   refine AO.c (Calm.assign rfl rfl) ?_
   refine AO.c (Calm.assign rfl rfl) ?_
   refine AO.nK [0] ?_
   refine AW.seq ?_
   refine AW.block ?_
   refine AW.sr ?_
   refine AO.c (Calm.move rfl rfl) ?_
   obtain ⟨t2, et2, h⟩ := of_bind h
   refine AO.callH [(.ptr q0 0), (eStr (ByteArray.mk #[124, 41, 42, 43, 63, 93, 47, 34]))] ((q0, (.mem (e49 p0))) :: T0) _ rfl rfl rfl 10 rfl (by decide) ok44 ⟨rfl, rfl, rfl, rfl, trivial⟩ (Sub.cons 0 rfl (Sub.refl _)) (rex_reader_end_spec et2) ?_
   rintro _ _ ⟨rfl, hs3⟩
   refine AO.wH [0, 9, 10] hs3 ?_
   refine AO.c (Calm.assign rfl rfl) ?_
   refine AO.nK [0, 8] ?_
   rcases of_ite h with ⟨hc4, h⟩ | ⟨hc4, h⟩
   ·refine AW.condT' _ rfl hc4 ?_
    refine AW.sr ?_
    refine AO.c (Calm.assign rfl rfl) ?_
    refine AO.c (Calm.assign rfl rfl) ?_
    refine AO.nK [2, 3] ?_
    refine AW.coeC 2 (y' := (.fz 5 (([] : List S40).map e40))) rfl Coe.nil ?_
    refine AW.rK [2, 3] ?_
    have hr := Option.some.inj h
    subst hr
    exact ⟨[(.fz 5 (([] : List S40).map e40)), (eBool false)], ⟨rfl, rfl, rfl, rfl, trivial⟩, rfl, (Sub.cons 0 rfl (Sub.refl _))⟩
   ·refine AW.condF' _ rfl hc4 ?_
    refine AW.sr ?_
    refine AO.c (Calm.move rfl rfl) ?_
    obtain ⟨t5, et5, h⟩ := of_bind h
    refine AO.callH [(.ptr q0 0), (eU8 (46 : Int))] ((q0, (.mem (e49 p0))) :: T0) _ rfl rfl rfl 13 rfl (by decide) ok31 ⟨rfl, rfl, rfl, rfl, trivial⟩ (Sub.cons 0 rfl (Sub.refl _)) (rex_reader_eat_spec et5) ?_
    rintro _ _ ⟨rfl, hs6⟩
    refine AO.wH [0, 8, 12, 13] hs6 ?_
    refine AO.c (Calm.assign rfl rfl) ?_
    refine AO.nK [0, 11] ?_
    rcases of_ite h with ⟨hc7, h⟩ | ⟨hc7, h⟩
    ·refine AW.condT' _ rfl hc7 ?_
     refine AW.sr ?_
     obtain ⟨t8, et8, h⟩ := of_bind h
     refine AO.callS [] (.ar 1 (t8.toList.map eU64)) 14 rfl (by decide) ok36 rfl rfl rfl trivial (byteset_Full_spec et8) ?_
     refine AO.c (x := .st [(1, (eI64 (1 : Int))), (4, (.ar 1 (t8.toList.map eU64)))]) (Calm.build (qs := [(0, (eI64 (1 : Int))), (1, (.ar 1 (t8.toList.map eU64)))]) rfl ⟨rfl, rfl, rfl, rfl, rfl, rfl, trivial⟩ Tryd.underlying40 rfl zr40 lay40 (.cons rfl rfl rfl rfl (Put.cast (Put.fld0 Put.here) rfl) (.cons rfl rfl (vec_size _ _) (vec_size _ _) (Put.cast (Put.fldS (Put.fld0 Put.here)) rfl) .nil)) rfl) ?_
     refine AO.lit (Z := (.st [(1, (eI64 (0 : Int))), (4, (.ar 1 ((Vector.replicate 4 (0 : Int)).toList.map eU64)))])) (xs := (([(S40.mk (1 : Int) t8)] : List S40).map e40)) (qs := [(0, (e40 (S40.mk (1 : Int) t8)))]) rfl 16 rfl (by decide) rfl ⟨rfl, rfl, rfl, trivial⟩ Tryd.underlying23 sz40 zr40 lay40 rfl (by decide) (litOK (z := 5) [(e40 (S40.mk (1 : Int) t8))] rfl ⟨⟨rfl, rfl⟩, trivial⟩) rfl fun n9 => ?_
     refine AO.c (Calm.assign rfl rfl) ?_
     refine AO.c (Calm.assign rfl rfl) ?_
     refine AO.nH [2, 3] (H' := ((q0, (.mem (e49 t5.2))) :: (n9, (.mem (.ar 5 (([(S40.mk (1 : Int) t8)] : List S40).map e40)))) :: T0)) (Sub.cons 1 rfl (Sub.cons 0 rfl (Sub.refl _))) ?_
     refine AW.freezeS 1 [(2, (.fz 5 (([(S40.mk (1 : Int) t8)] : List S40).map e40)))] rfl ⟨fz_all rfl, trivial⟩ ?_
     refine AW.rK [2, 3] ?_
     have hr := Option.some.inj h
     subst hr
     exact ⟨[(.fz 5 (([(S40.mk (1 : Int) t8)] : List S40).map e40)), (eBool true)], ⟨rfl, rfl, rfl, rfl, trivial⟩, rfl, (Sub.cons 0 rfl (Sub.refl _))⟩
    ·refine AW.condF' _ rfl hc7 ?_
     refine AW.sr ?_
     refine AO.c (Calm.move rfl rfl) ?_
     obtain ⟨t10, et10, h⟩ := of_bind h
     refine AO.callH [(.ptr q0 0), (eU8 (126 : Int))] ((q0, (.mem (e49 t5.2))) :: T0) _ rfl rfl rfl 19 rfl (by decide) ok31 ⟨rfl, rfl, rfl, rfl, trivial⟩ (Sub.cons 0 rfl (Sub.refl _)) (rex_reader_eat_spec et10) ?_
     rintro _ _ ⟨rfl, hs11⟩
     refine AO.wH [0, 11, 18, 19] hs11 ?_
     refine AO.c (Calm.assign rfl rfl) ?_
     refine AO.nK [0, 17] ?_
     rcases of_ite h with ⟨hc12, h⟩ | ⟨hc12, h⟩
     ·refine AW.condT' _ rfl hc12 ?_
      refine AW.sr ?_
      refine AO.c (x := .st [(1, (eI64 (0 : Int))), (4, (.ar 1 ((Vector.replicate 4 (0 : Int)).toList.map eU64)))]) (Calm.build (qs := [(0, (eI64 (0 : Int)))]) rfl ⟨rfl, rfl, rfl, trivial⟩ Tryd.underlying40 rfl zr40 lay40 (.cons rfl rfl rfl rfl (Put.cast (Put.fld0 Put.here) rfl) .nil) rfl) ?_
      refine AO.lit (Z := (.st [(1, (eI64 (0 : Int))), (4, (.ar 1 ((Vector.replicate 4 (0 : Int)).toList.map eU64)))])) (xs := (([(S40.mk (0 : Int) (Vector.replicate 4 (0 : Int)))] : List S40).map e40)) (qs := [(0, (e40 (S40.mk (0 : Int) (Vector.replicate 4 (0 : Int)))))]) rfl 21 rfl (by decide) rfl ⟨rfl, rfl, rfl, trivial⟩ Tryd.underlying23 sz40 zr40 lay40 rfl (by decide) (litOK (z := 5) [(e40 (S40.mk (0 : Int) (Vector.replicate 4 (0 : Int))))] rfl ⟨⟨rfl, rfl⟩, trivial⟩) rfl fun n13 => ?_
      refine AO.c (Calm.assign rfl rfl) ?_
      refine AO.c (Calm.assign rfl rfl) ?_
      refine AO.nH [2, 3] (H' := ((q0, (.mem (e49 t10.2))) :: (n13, (.mem (.ar 5 (([(S40.mk (0 : Int) (Vector.replicate 4 (0 : Int)))] : List S40).map e40)))) :: T0)) (Sub.cons 1 rfl (Sub.cons 0 rfl (Sub.refl _))) ?_
      refine AW.freezeS 1 [(2, (.fz 5 (([(S40.mk (0 : Int) (Vector.replicate 4 (0 : Int)))] : List S40).map e40)))] rfl ⟨fz_all rfl, trivial⟩ ?_
      refine AW.rK [2, 3] ?_
      have hr := Option.some.inj h
      subst hr
      exact ⟨[(.fz 5 (([(S40.mk (0 : Int) (Vector.replicate 4 (0 : Int)))] : List S40).map e40)), (eBool true)], ⟨rfl, rfl, rfl, rfl, trivial⟩, rfl, (Sub.cons 0 rfl (Sub.refl _))⟩
     ·refine AW.condF' _ rfl hc12 ?_
      refine AW.sr ?_
      refine AO.c (Calm.move rfl rfl) ?_
      obtain ⟨t14, et14, h⟩ := of_bind h
      refine AO.callH [(.ptr q0 0), (eU8 (40 : Int))] ((q0, (.mem (e49 t10.2))) :: T0) _ rfl rfl rfl 24 rfl (by decide) ok31 ⟨rfl, rfl, rfl, rfl, trivial⟩ (Sub.cons 0 rfl (Sub.refl _)) (rex_reader_eat_spec et14) ?_
      rintro _ _ ⟨rfl, hs15⟩
      refine AO.wH [0, 17, 23, 24] hs15 ?_
      refine AO.c (Calm.assign rfl rfl) ?_
      refine AO.nK [0, 22] ?_
      rcases of_ite h with ⟨hc16, h⟩ | ⟨hc16, h⟩
      ·refine AW.condT' _ rfl hc16 ?_
       refine AW.sr ?_
       refine AO.c (Calm.move rfl rfl) ?_
       refine AO.c (Calm.nilCheck rfl rfl) ?_
       refine AO.c (x := .ptr q0 2) (Calm.fldPtr rfl rfl Tryd.underlying49 rfl sz3 _ rfl) ?_
       refine AO.c (Calm.load 0 rfl rfl rfl (At.cast (At.fldS (At.fldS (At.fld0 At.here))) rfl) ag3 sz3) ?_
       refine AO.c (x := eI64 (w64 (t14.2.f2 + (1 : Int)))) (Calm.int rfl rfl rfl rfl) ?_
       refine AO.c (Calm.nilCheck rfl rfl) ?_
       refine AO.c (x := .ptr q0 2) (Calm.fldPtr rfl rfl Tryd.underlying49 rfl sz3 _ rfl) ?_
       refine AO.store (X' := (.st [(1, (eStr t14.2.f0)), (1, (eI64 t14.2.f1)), (1, (eI64 (w64 (t14.2.f2 + (1 : Int)))))])) 0 rfl rfl rfl rfl rfl rfl (Put.cast (Put.fldS (Put.fldS (Put.fld0 Put.here))) rfl) rfl rfl sz3 rfl ?_
       refine AO.nK [0] ?_
       refine AW.sr ?_
       refine AO.c (Calm.move rfl rfl) ?_
       obtain ⟨t17, et17, h⟩ := of_bind h
       refine AO.callH [(.ptr q0 0)] ((q0, (.mem (e49 (S49.mk t14.2.f0 t14.2.f1 (w64 (t14.2.f2 + (1 : Int))))))) :: T0) _ rfl rfl rfl 34 rfl (by decide) ok21 ⟨rfl, rfl, trivial⟩ (Sub.cons 0 rfl (Sub.refl _)) (hself21 _ _ et17 _ _) ?_
       rintro _ _ ⟨rfl, hs18⟩
       refine AO.wH [0, 33, 34] hs18 ?_
       refine AO.c (Calm.move rfl rfl) ?_
       refine AO.c (Calm.extract rfl rfl rfl) ?_
       refine AO.c (Calm.extract rfl rfl rfl) ?_
       refine AO.c (Calm.assign rfl rfl) ?_
       refine AO.c (Calm.assign rfl rfl) ?_
       refine AO.nK [0, 4, 5] ?_
       refine AW.sr ?_
       refine AO.c (Calm.move rfl rfl) ?_
       refine AO.c (Calm.nilCheck rfl rfl) ?_
       refine AO.c (x := .ptr q0 2) (Calm.fldPtr rfl rfl Tryd.underlying49 rfl sz3 _ rfl) ?_
       refine AO.c (Calm.load 0 rfl rfl rfl (At.cast (At.fldS (At.fldS (At.fld0 At.here))) rfl) ag3 sz3) ?_
       refine AO.c (x := eI64 (w64 (t17.2.2.f2 - (1 : Int)))) (Calm.int rfl rfl rfl rfl) ?_
       refine AO.c (Calm.nilCheck rfl rfl) ?_
       refine AO.c (x := .ptr q0 2) (Calm.fldPtr rfl rfl Tryd.underlying49 rfl sz3 _ rfl) ?_
       refine AO.store (X' := (.st [(1, (eStr t17.2.2.f0)), (1, (eI64 t17.2.2.f1)), (1, (eI64 (w64 (t17.2.2.f2 - (1 : Int)))))])) 0 rfl rfl rfl rfl rfl rfl (Put.cast (Put.fldS (Put.fldS (Put.fld0 Put.here))) rfl) rfl rfl sz3 rfl ?_
       refine AO.nK [0, 4, 5] ?_
       refine AW.seq ?_
       obtain ⟨⟨b19, x20, x21, x22⟩, hq23, h⟩ := of_bind h
       refine AW.regM [(2, (.fz 5 (t17.1.map e40))), (3, (eBool b19))] ((q0, (.mem (.st [(1, (eStr x20)), (1, (eI64 x21)), (1, (eI64 x22))]))) :: T0) ?_ ?_
       ·refine AO.c (Calm.move rfl rfl) ?_
        refine AO.c (Calm.move rfl rfl) ?_
        refine AO.c (Calm.move rfl rfl) ?_
        rcases of_ite hq23 with ⟨hc24, hq23⟩ | ⟨hc24, hq23⟩
        ·refine AO.cG rfl rfl (bD hc24) (Calm.move rfl rfl) ?_
         refine AO.cG rfl rfl (bD hc24) (Calm.nilCheck rfl rfl) ?_
         refine AO.cG (x := .ptr q0 2) rfl rfl (bD hc24) (Calm.fldPtr rfl rfl Tryd.underlying49 rfl sz3 _ rfl) ?_
         refine AO.cG rfl rfl (bD hc24) (Calm.load 0 rfl rfl rfl (At.cast (At.fldS (At.fldS (At.fld0 At.here))) rfl) ag3 sz3) ?_
         refine AO.cG (x := eBool (decide ((w64 (t17.2.2.f2 - (1 : Int))) < (99 : Int)))) rfl rfl (bD hc24) (Calm.int rfl rfl rfl rfl) ?_
         refine AO.c (Calm.pickT rfl (bD hc24) rfl) ?_
         refine AO.c (Calm.move rfl rfl) ?_
         rcases of_ite hq23 with ⟨hc25, hq23⟩ | ⟨hc25, hq23⟩
         ·refine AO.cG rfl rfl (bD (decide_eq_true hc25)) (Calm.move rfl rfl) ?_
          obtain ⟨t26, et26, hq23⟩ := of_bind hq23
          refine AO.unguard 9 true 53 rfl rfl (bD (decide_eq_true hc25)) ?_
          refine AO.callH [(.ptr q0 0), (eU8 (41 : Int))] ((q0, (.mem (e49 (S49.mk t17.2.2.f0 t17.2.2.f1 (w64 (t17.2.2.f2 - (1 : Int))))))) :: T0) _ rfl rfl rfl 55 rfl (by decide) ok31 ⟨rfl, rfl, rfl, rfl, trivial⟩ (Sub.cons 0 rfl (Sub.refl _)) (rex_reader_eat_spec et26) ?_
          rintro _ _ ⟨rfl, hs27⟩
          refine AO.wH [0, 4, 5, 44, 45, 46, 47, 48, 49, 50, 51, 52, 53, 54, 55] hs27 ?_
          refine AO.c (Calm.pickT rfl (bD (decide_eq_true hc25)) rfl) ?_
          refine AO.c (Calm.assign rfl rfl) ?_
          refine AO.c (Calm.assign rfl rfl) ?_
          cases hq23
          refine AO.nilE ⟨rfl, rfl⟩ ?_ ?_
          · exact ⟨rfl, rfl, trivial⟩
          · exact (Sub.refl _)
         ·refine AO.sT rfl rfl (bD (decide_eq_false hc25)) ?_
          refine AO.sT rfl rfl (bD (decide_eq_false hc25)) ?_
          refine AO.c (Calm.pickF rfl (bD (decide_eq_false hc25)) rfl) ?_
          refine AO.c (Calm.assign rfl rfl) ?_
          refine AO.c (Calm.assign rfl rfl) ?_
          cases hq23
          refine AO.nilE ⟨rfl, rfl⟩ ?_ ?_
          · exact ⟨rfl, rfl, trivial⟩
          · exact (Sub.refl _)
        ·refine AO.sT rfl rfl (bD (eq_false_of_ne_true hc24)) ?_
         refine AO.sT rfl rfl (bD (eq_false_of_ne_true hc24)) ?_
         refine AO.sT rfl rfl (bD (eq_false_of_ne_true hc24)) ?_
         refine AO.sT rfl rfl (bD (eq_false_of_ne_true hc24)) ?_
         refine AO.sT rfl rfl (bD (eq_false_of_ne_true hc24)) ?_
         refine AO.c (Calm.pickF rfl (bD (eq_false_of_ne_true hc24)) rfl) ?_
         refine AO.c (Calm.move rfl rfl) ?_
         refine AO.sT rfl rfl rfl ?_
         refine AO.sT rfl rfl rfl ?_
         refine AO.c (Calm.pickF rfl rfl rfl) ?_
         refine AO.c (Calm.assign rfl rfl) ?_
         refine AO.c (Calm.assign rfl rfl) ?_
         cases hq23
         refine AO.nilE ⟨rfl, rfl⟩ ?_ ?_
         · exact ⟨rfl, rfl, trivial⟩
         · exact (Sub.refl _)
       ·refine AW.rK [2, 3] ?_
        have hr := Option.some.inj h
        subst hr
        exact ⟨[(.fz 5 (t17.1.map e40)), (eBool b19)], ⟨rfl, rfl, rfl, rfl, trivial⟩, rfl, (Sub.cons 0 rfl (Sub.refl _))⟩
      ·refine AW.condF' _ rfl hc16 ?_
       refine AW.sr ?_
       refine AO.c (Calm.move rfl rfl) ?_
       obtain ⟨t28, et28, h⟩ := of_bind h
       refine AO.callH [(.ptr q0 0), (eU8 (91 : Int))] ((q0, (.mem (e49 t14.2))) :: T0) _ rfl rfl rfl 59 rfl (by decide) ok31 ⟨rfl, rfl, rfl, rfl, trivial⟩ (Sub.cons 0 rfl (Sub.refl _)) (rex_reader_eat_spec et28) ?_
       rintro _ _ ⟨rfl, hs29⟩
       refine AO.wH [0, 22, 58, 59] hs29 ?_
       refine AO.c (Calm.assign rfl rfl) ?_
       refine AO.nK [0, 57] ?_
       rcases of_ite h with ⟨hc30, h⟩ | ⟨hc30, h⟩
       ·refine AW.condT' _ rfl hc30 ?_
        refine AW.sr ?_
        refine AO.c (Calm.move rfl rfl) ?_
        obtain ⟨t31, et31, h⟩ := of_bind h
        refine AO.callH [(.ptr q0 0)] ((q0, (.mem (e49 t28.2))) :: T0) _ rfl rfl rfl 61 rfl (by decide) ok54 ⟨rfl, rfl, trivial⟩ (Sub.cons 0 rfl (Sub.refl _)) (rex_reader_brackets_spec et31) ?_
        rintro _ _ ⟨rfl, hs32⟩
        refine AO.wH [0, 57, 60, 61] hs32 ?_
        refine AO.c (Calm.extract rfl rfl rfl) ?_
        refine AO.c (Calm.extract rfl rfl rfl) ?_
        refine AO.c (Calm.assign rfl rfl) ?_
        refine AO.c (Calm.assign rfl rfl) ?_
        refine AO.nK [2, 3] ?_
        refine AW.rK [2, 3] ?_
        have hr := Option.some.inj h
        subst hr
        exact ⟨[(.fz 5 (t31.1.map e40)), (eBool t31.2.1)], ⟨rfl, rfl, rfl, rfl, trivial⟩, rfl, (Sub.cons 0 rfl (Sub.refl _))⟩
       ·refine AW.condF' _ rfl hc30 ?_
        refine AW.sK [0] ?_
        refine AW.sr ?_
        refine AO.c (Calm.move rfl rfl) ?_
        obtain ⟨t33, et33, h⟩ := of_bind h
        refine AO.callH [(.ptr q0 0)] ((q0, (.mem (e49 t28.2))) :: T0) _ rfl rfl rfl 66 rfl (by decide) ok55 ⟨rfl, rfl, trivial⟩ (Sub.cons 0 rfl (Sub.refl _)) (rex_reader_byte_spec et33) ?_
        rintro _ _ ⟨rfl, hs34⟩
        refine AO.wH [0, 65, 66] hs34 ?_
        refine AO.c (Calm.move rfl rfl) ?_
        refine AO.c (Calm.extract rfl rfl rfl) ?_
        refine AO.c (Calm.extract rfl rfl rfl) ?_
        refine AO.c (Calm.assign rfl rfl) ?_
        refine AO.c (Calm.assign rfl rfl) ?_
        refine AO.nK [6, 7] ?_
        refine AW.sr ?_
        refine AO.c (Calm.move rfl rfl) ?_
        refine AO.lit (Z := (eU8 (0 : Int))) (xs := (([t33.1] : List Int).map eU8)) (qs := [(0, (eU8 t33.1))]) rfl 70 rfl (by decide) rfl ⟨rfl, rfl, rfl, trivial⟩ Tryd.underlying60 sz5 zr5 lay5 rfl (by decide) (litOK (z := 1) [(eU8 t33.1)] rfl ⟨⟨rfl, rfl⟩, trivial⟩) rfl fun n35 => ?_
        obtain ⟨t36, et36, h⟩ := of_bind h
        refine AO.freezeS 0 [(70, (.fz 1 (([t33.1] : List Int).map eU8)))] rfl ⟨fz_all rfl, trivial⟩ ?_
        refine AO.callS [(.fz 1 (([t33.1] : List Int).map eU8))] (.ar 1 (t36.toList.map eU64)) 71 rfl (by decide) ok56 rfl rfl rfl ⟨rfl, rfl, trivial⟩ (byteset_Of_spec et36) ?_
        refine AO.c (x := .st [(1, (eI64 (1 : Int))), (4, (.ar 1 (t36.toList.map eU64)))]) (Calm.build (qs := [(0, (eI64 (1 : Int))), (1, (.ar 1 (t36.toList.map eU64)))]) rfl ⟨rfl, rfl, rfl, rfl, rfl, rfl, trivial⟩ Tryd.underlying40 rfl zr40 lay40 (.cons rfl rfl rfl rfl (Put.cast (Put.fld0 Put.here) rfl) (.cons rfl rfl (vec_size _ _) (vec_size _ _) (Put.cast (Put.fldS (Put.fld0 Put.here)) rfl) .nil)) rfl) ?_
        refine AO.lit (Z := (.st [(1, (eI64 (0 : Int))), (4, (.ar 1 ((Vector.replicate 4 (0 : Int)).toList.map eU64)))])) (xs := (([(S40.mk (1 : Int) t36)] : List S40).map e40)) (qs := [(0, (e40 (S40.mk (1 : Int) t36)))]) rfl 73 rfl (by decide) rfl ⟨rfl, rfl, rfl, trivial⟩ Tryd.underlying23 sz40 zr40 lay40 rfl (by decide) (litOK (z := 5) [(e40 (S40.mk (1 : Int) t36))] rfl ⟨⟨rfl, rfl⟩, trivial⟩) rfl fun n37 => ?_
        refine AO.c (Calm.move rfl rfl) ?_
        refine AO.c (Calm.assign rfl rfl) ?_
        refine AO.c (Calm.assign rfl rfl) ?_
        refine AO.nH [2, 3] (H' := ((q0, (.mem (e49 t33.2.2))) :: (n37, (.mem (.ar 5 (([(S40.mk (1 : Int) t36)] : List S40).map e40)))) :: T0)) (Sub.cons 1 rfl (Sub.cons 0 rfl (Sub.refl _))) ?_
        refine AW.freezeS 1 [(2, (.fz 5 (([(S40.mk (1 : Int) t36)] : List S40).map e40)))] rfl ⟨fz_all rfl, trivial⟩ ?_
        refine AW.rK [2, 3] ?_
        have hr := Option.some.inj h
        subst hr
        exact ⟨[(.fz 5 (([(S40.mk (1 : Int) t36)] : List S40).map e40)), (eBool t33.2.1)], ⟨rfl, rfl, rfl, rfl, trivial⟩, rfl, (Sub.cons 0 rfl (Sub.refl _))⟩
theorem rex_reader_alt_spec {k : Nat} {p0 : S49} {r : ((List S40) × Bool × S49)} (h : rex_reader_alt k p0 = some r) {q0 : Nat} {T0 : Heap} : SpecH Tryd.prog 21 [(.ptr q0 0)] ((q0, (.mem (e49 p0))) :: T0) (fun x H' => x = .tup [(.fz 5 (r.1.map e40)), (eBool r.2.1)] ∧ Sub ((q0, (.mem (e49 r.2.2))) :: T0) H') := (rex_reader_alt_all k k).1 p0 r h q0 T0
end Go.Avl.TE
/- bosket/rex.Parse; printed by avmain.py. -/
namespace Go.Avl.TE
open Go Go.RowKit Go.Proofs Go.Avl
set_option linter.unusedVariables false
set_option maxRecDepth 100000
set_option maxHeartbeats 4000000
attribute [local irreducible] AW AO AQ Spec SpecH Calm

def rex_Parse (k : Nat) (p0 : ByteArray) : Option ((List S40) × Int) :=
  if (1600 : Int) < (p0.size : Int) then some ([], (6 : Int))
  else (rex_reader_alt k (S49.mk p0 (0 : Int) (0 : Int))).bind fun t4 =>
  Option.bind (α := Bool) (if (!t4.2.1) = true then some (true)
  else some (decide (t4.2.2.f1 < (p0.size : Int)))) fun b6 =>
  if b6 = true then some ([], (5 : Int))
  else if (400 : Int) < (t4.1.length : Int) then some ([], (6 : Int))
  else some (t4.1, (0 : Int))
theorem rex_Parse_spec {k : Nat} {p0 : ByteArray} {r : ((List S40) × Int)} (h : rex_Parse k p0 = some r) : Spec Tryd.prog 8 [(eStr p0)] (.tup [(.fz 5 (r.1.map e40)), (eI64 r.2)]) := by
  rw [rex_Parse.eq_1] at h
  refine Spec.intro (res := [.tmp 2, .tmp 3]) Tryd.func8 rfl rfl rfl (Nat.le_of_ble_eq_true rfl) ?_
  refine AW.sr ?_
  refine AO.c (Calm.assign rfl rfl) ?_
  refine AO.c (Calm.assign rfl rfl) ?_
  refine AO.nK [0] ?_
  refine AW.seq ?_
  refine AW.sr ?_
  refine AO.c (Calm.move rfl rfl) ?_
  refine AO.c (Calm.lenStr rfl rfl Tryd.underlying9) ?_
  refine AO.c (x := eBool (decide ((1600 : Int) < (p0.size : Int)))) (Calm.int rfl rfl rfl rfl) ?_
  refine AO.nK [0, 9] ?_
  rcases of_ite h with ⟨hc2, h⟩ | ⟨hc2, h⟩
  ·refine AW.condP _ rfl hc2 ?_
   refine AW.sr ?_
   refine AO.c (Calm.assign rfl rfl) ?_
   refine AO.c (Calm.assign rfl rfl) ?_
   refine AO.nK [2, 3] ?_
   refine AW.coeC 2 (y' := (.fz 5 (([] : List S40).map e40))) rfl Coe.nil ?_
   refine AW.rK [2, 3] ?_
   have hr := Option.some.inj h
   subst hr
   exact ⟨[(.fz 5 (([] : List S40).map e40)), (eI64 (6 : Int))], ⟨rfl, rfl, rfl, rfl, trivial⟩, rfl⟩
  ·refine AW.condN _ rfl hc2 ?_
   refine AW.sK [0] ?_
   refine AW.sr ?_
   refine AO.c (Calm.move rfl rfl) ?_
   refine AO.c (x := .st [(1, (eStr p0)), (1, (eI64 (0 : Int))), (1, (eI64 (0 : Int)))]) (Calm.build (qs := [(0, (eStr p0))]) rfl ⟨rfl, rfl, rfl, trivial⟩ Tryd.underlying49 rfl zr49 lay49 (.cons rfl rfl rfl rfl (Put.cast (Put.fld0 Put.here) rfl) .nil) rfl) ?_
   refine AO.box rfl 12 rfl (by decide) rfl rfl rfl fun n3 => ?_
   refine AO.c (Calm.assign rfl rfl) ?_
   refine AO.nK [0, 4] ?_
   refine AW.sr ?_
   refine AO.c (Calm.move rfl rfl) ?_
   obtain ⟨t4, et4, h⟩ := of_bind h
   refine AO.callH [(.ptr n3 0)] [(n3, (.mem (e49 (S49.mk p0 (0 : Int) (0 : Int)))))] _ rfl rfl rfl 15 rfl (by decide) ok21 ⟨rfl, rfl, trivial⟩ (Sub.cons 0 rfl (Sub.refl _)) (rex_reader_alt_spec et4) ?_
   rintro _ _ ⟨rfl, hs5⟩
   refine AO.wH [0, 4, 14, 15] hs5 ?_
   refine AO.c (Calm.move rfl rfl) ?_
   refine AO.c (Calm.extract rfl rfl rfl) ?_
   refine AO.c (Calm.extract rfl rfl rfl) ?_
   refine AO.c (Calm.assign rfl rfl) ?_
   refine AO.c (Calm.assign rfl rfl) ?_
   refine AO.nK [0, 4, 5, 6] ?_
   refine AW.seq ?_
   refine AW.block ?_
   refine AW.seq ?_
   obtain ⟨b6, hq7, h⟩ := of_bind h
   refine AW.regM [(5, (.fz 5 (t4.1.map e40))), (18, (eBool b6))] [] ?_ ?_
   ·refine AO.c (Calm.move rfl rfl) ?_
    refine AO.c (Calm.not rfl rfl) ?_
    refine AO.c (Calm.move rfl rfl) ?_
    rcases of_ite hq7 with ⟨hc8, hq7⟩ | ⟨hc8, hq7⟩
    ·refine AO.sF rfl rfl (bD hc8) ?_
     refine AO.sF rfl rfl (bD hc8) ?_
     refine AO.sF rfl rfl (bD hc8) ?_
     refine AO.sF rfl rfl (bD hc8) ?_
     refine AO.sF rfl rfl (bD hc8) ?_
     refine AO.sF rfl rfl (bD hc8) ?_
     refine AO.sF rfl rfl (bD hc8) ?_
     refine AO.c (Calm.pickT rfl (bD hc8) rfl) ?_
     refine AO.c (Calm.assign rfl rfl) ?_
     cases hq7
     refine AO.nilE ⟨rfl, rfl⟩ ?_ ?_
     · exact ⟨rfl, rfl, trivial⟩
     · exact (Sub.nil _)
    ·refine AO.cG rfl rfl (bD (eq_false_of_ne_true hc8)) (Calm.move rfl rfl) ?_
     refine AO.cG rfl rfl (bD (eq_false_of_ne_true hc8)) (Calm.nilCheck rfl rfl) ?_
     refine AO.cG (x := .ptr n3 1) rfl rfl (bD (eq_false_of_ne_true hc8)) (Calm.fldPtr rfl rfl Tryd.underlying49 rfl sz3 _ rfl) ?_
     refine AO.cG rfl rfl (bD (eq_false_of_ne_true hc8)) (Calm.load 0 rfl rfl rfl (At.cast (At.fldS (At.fld0 At.here)) rfl) ag3 sz3) ?_
     refine AO.cG rfl rfl (bD (eq_false_of_ne_true hc8)) (Calm.move rfl rfl) ?_
     refine AO.cG rfl rfl (bD (eq_false_of_ne_true hc8)) (Calm.lenStr rfl rfl Tryd.underlying9) ?_
     refine AO.cG (x := eBool (decide (t4.2.2.f1 < (p0.size : Int)))) rfl rfl (bD (eq_false_of_ne_true hc8)) (Calm.int rfl rfl rfl rfl) ?_
     refine AO.c (Calm.pickF rfl (bD (eq_false_of_ne_true hc8)) rfl) ?_
     refine AO.c (Calm.assign rfl rfl) ?_
     cases hq7
     refine AO.nilE ⟨rfl, rfl⟩ ?_ ?_
     · exact ⟨rfl, rfl, trivial⟩
     · exact (Sub.nil _)
   ·rcases of_ite h with ⟨hc9, h⟩ | ⟨hc9, h⟩
    ·refine AW.condT' _ rfl hc9 ?_
     refine AW.sr ?_
     refine AO.c (Calm.assign rfl rfl) ?_
     refine AO.c (Calm.assign rfl rfl) ?_
     refine AO.nK [2, 3] ?_
     refine AW.coeC 2 (y' := (.fz 5 (([] : List S40).map e40))) rfl Coe.nil ?_
     refine AW.rK [2, 3] ?_
     have hr := Option.some.inj h
     subst hr
     exact ⟨[(.fz 5 (([] : List S40).map e40)), (eI64 (5 : Int))], ⟨rfl, rfl, rfl, rfl, trivial⟩, rfl⟩
    ·refine AW.condF' _ rfl hc9 ?_
     refine AW.sr ?_
     refine AO.c (Calm.move rfl rfl) ?_
     refine AO.c (Calm.lenL rfl rfl Tryd.underlying23) ?_
     refine AO.c (x := eBool (decide ((400 : Int) < (t4.1.length : Int)))) (Calm.int rfl rfl rfl rfl) ?_
     refine AO.c (Calm.assign rfl rfl) ?_
     refine AO.nK [5, 30] ?_
     rcases of_ite h with ⟨hc10, h⟩ | ⟨hc10, h⟩
     ·refine AW.condP _ rfl hc10 ?_
      refine AW.sr ?_
      refine AO.c (Calm.assign rfl rfl) ?_
      refine AO.c (Calm.assign rfl rfl) ?_
      refine AO.nK [2, 3] ?_
      refine AW.coeC 2 (y' := (.fz 5 (([] : List S40).map e40))) rfl Coe.nil ?_
      refine AW.rK [2, 3] ?_
      have hr := Option.some.inj h
      subst hr
      exact ⟨[(.fz 5 (([] : List S40).map e40)), (eI64 (6 : Int))], ⟨rfl, rfl, rfl, rfl, trivial⟩, rfl⟩
     ·refine AW.condN _ rfl hc10 ?_
      refine AW.sK [5] ?_
      refine AW.sr ?_
      refine AO.c (Calm.move rfl rfl) ?_
      refine AO.c (Calm.assign rfl rfl) ?_
      refine AO.c (Calm.assign rfl rfl) ?_
      refine AO.nK [2, 3] ?_
      refine AW.rK [2, 3] ?_
      have hr := Option.some.inj h
      subst hr
      exact ⟨[(.fz 5 (t4.1.map e40)), (eI64 (0 : Int))], ⟨rfl, rfl, rfl, rfl, trivial⟩, rfl⟩
end Go.Avl.TE
/- bosket/bosketlaw04.awake; printed by avmain.py. -/
namespace Go.Avl.TE
open Go Go.RowKit Go.Proofs Go.Avl
set_option linter.unusedVariables false
set_option maxRecDepth 100000
set_option maxHeartbeats 4000000
attribute [local irreducible] AW AO AQ Spec SpecH Calm

def bosketlaw04_awake (k : Nat) : Option Bool :=
  (rex_Parse k (ByteArray.mk #[91, 97, 45, 99, 93, 42, 120])).bind fun t1 =>
  Option.bind (α := Bool) (if t1.2 = (0 : Int) then if (t1.1.length : Int) = (4 : Int) then if 0 ≤ (1 : Int) ∧ (1 : Int) < (t1.1.length : Int) then if ((lget t1.1 (1 : Int)).f0) = (4 : Int) then if 0 ≤ (3 : Int) ∧ (3 : Int) < (t1.1.length : Int) then if ((lget t1.1 (3 : Int)).f0) = (2 : Int) then (rex_Show k t1.1).bind fun t10 =>
  some (decide (t10 = (ByteArray.mk #[91, 97, 45, 99, 93, 42, 120])))
  else some (false)
  else none
  else some (false)
  else none
  else some (false)
  else some (false)) fun b2 =>
  some (b2)
theorem bosketlaw04_awake_spec {k : Nat}  {r : Bool} (h : bosketlaw04_awake k = some r) : Spec Tryd.prog 5 [] (eBool r) := by
  rw [bosketlaw04_awake.eq_1] at h
  refine Spec.intro (res := [.tmp 0]) Tryd.func5 rfl rfl rfl (Nat.le_of_ble_eq_true rfl) ?_
  refine AW.sr ?_
  refine AO.c (Calm.assign rfl rfl) ?_
  refine AO.nK [] ?_
  refine AW.sr ?_
  obtain ⟨t1, et1, h⟩ := of_bind h
  refine AO.callS [(eStr (ByteArray.mk #[91, 97, 45, 99, 93, 42, 120]))] (.tup [(.fz 5 (t1.1.map e40)), (eI64 t1.2)]) 4 rfl (by decide) ok8 rfl rfl rfl ⟨rfl, rfl, trivial⟩ (rex_Parse_spec et1) ?_
  refine AO.c (Calm.move rfl rfl) ?_
  refine AO.c (Calm.extract rfl rfl rfl) ?_
  refine AO.c (Calm.extract rfl rfl rfl) ?_
  refine AO.c (Calm.assign rfl rfl) ?_
  refine AO.c (Calm.assign rfl rfl) ?_
  refine AO.nK [1, 2] ?_
  refine AW.seq ?_
  obtain ⟨b2, hq3, h⟩ := of_bind h
  refine AW.regM [(0, (eBool b2))] [] ?_ ?_
  ·refine AO.c (Calm.move rfl rfl) ?_
   refine AO.c (x := eBool (decide (t1.2 = (0 : Int)))) (Calm.int rfl rfl rfl rfl) ?_
   refine AO.c (Calm.move rfl rfl) ?_
   rcases of_ite hq3 with ⟨hc4, hq3⟩ | ⟨hc4, hq3⟩
   ·refine AO.cG rfl rfl (bD (decide_eq_true hc4)) (Calm.move rfl rfl) ?_
    refine AO.cG rfl rfl (bD (decide_eq_true hc4)) (Calm.lenL rfl rfl Tryd.underlying23) ?_
    refine AO.cG (x := eBool (decide ((t1.1.length : Int) = (4 : Int)))) rfl rfl (bD (decide_eq_true hc4)) (Calm.int rfl rfl rfl rfl) ?_
    refine AO.c (Calm.pickT rfl (bD (decide_eq_true hc4)) rfl) ?_
    refine AO.c (Calm.move rfl rfl) ?_
    rcases of_ite hq3 with ⟨hc5, hq3⟩ | ⟨hc5, hq3⟩
    ·refine AO.cG rfl rfl (bD (decide_eq_true hc5)) (Calm.move rfl rfl) ?_
     obtain ⟨hg6, hq3⟩ := of_guard hq3
     refine AO.cG rfl rfl (bD (decide_eq_true hc5)) (Calm.idxL (f := e40) rfl rfl rfl hg6 Tryd.underlying23 sz40) ?_
     refine AO.cG rfl rfl (bD (decide_eq_true hc5)) (Calm.fldRp rfl rfl Tryd.underlying40 rfl sz3 (At.cast (At.fld0 At.here) rfl)) ?_
     refine AO.cG rfl rfl (bD (decide_eq_true hc5)) (Calm.loadRp rfl rfl ag3 sz3) ?_
     refine AO.cG (x := eBool (decide (((lget t1.1 (1 : Int)).f0) = (4 : Int)))) rfl rfl (bD (decide_eq_true hc5)) (Calm.int rfl rfl rfl rfl) ?_
     refine AO.c (Calm.pickT rfl (bD (decide_eq_true hc5)) rfl) ?_
     refine AO.c (Calm.move rfl rfl) ?_
     rcases of_ite hq3 with ⟨hc7, hq3⟩ | ⟨hc7, hq3⟩
     ·refine AO.cG rfl rfl (bD (decide_eq_true hc7)) (Calm.move rfl rfl) ?_
      obtain ⟨hg8, hq3⟩ := of_guard hq3
      refine AO.cG rfl rfl (bD (decide_eq_true hc7)) (Calm.idxL (f := e40) rfl rfl rfl hg8 Tryd.underlying23 sz40) ?_
      refine AO.cG rfl rfl (bD (decide_eq_true hc7)) (Calm.fldRp rfl rfl Tryd.underlying40 rfl sz3 (At.cast (At.fld0 At.here) rfl)) ?_
      refine AO.cG rfl rfl (bD (decide_eq_true hc7)) (Calm.loadRp rfl rfl ag3 sz3) ?_
      refine AO.cG (x := eBool (decide (((lget t1.1 (3 : Int)).f0) = (2 : Int)))) rfl rfl (bD (decide_eq_true hc7)) (Calm.int rfl rfl rfl rfl) ?_
      refine AO.c (Calm.pickT rfl (bD (decide_eq_true hc7)) rfl) ?_
      refine AO.c (Calm.move rfl rfl) ?_
      rcases of_ite hq3 with ⟨hc9, hq3⟩ | ⟨hc9, hq3⟩
      ·refine AO.cG rfl rfl (bD (decide_eq_true hc9)) (Calm.move rfl rfl) ?_
       obtain ⟨t10, et10, hq3⟩ := of_bind hq3
       refine AO.callG 21 true 28 [(.fz 5 (t1.1.map e40))] (eStr t10) 30 rfl (by decide) ok7 rfl rfl (bD (decide_eq_true hc9)) rfl rfl ⟨rfl, rfl, trivial⟩ (rex_Show_spec et10) ?_
       refine AO.cG (x := eBool (decide (t10 = (ByteArray.mk #[91, 97, 45, 99, 93, 42, 120])))) rfl rfl (bD (decide_eq_true hc9)) (Calm.str rfl rfl rfl rfl) ?_
       refine AO.c (Calm.pickT rfl (bD (decide_eq_true hc9)) rfl) ?_
       refine AO.c (Calm.assign rfl rfl) ?_
       cases hq3
       refine AO.nilE ⟨rfl, rfl⟩ ?_ ?_
       · exact ⟨rfl, trivial⟩
       · exact (Sub.refl _)
      ·refine AO.sT rfl rfl (bD (decide_eq_false hc9)) ?_
       refine AO.sT rfl rfl (bD (decide_eq_false hc9)) ?_
       refine AO.sT rfl rfl (bD (decide_eq_false hc9)) ?_
       refine AO.c (Calm.pickF rfl (bD (decide_eq_false hc9)) rfl) ?_
       refine AO.c (Calm.assign rfl rfl) ?_
       cases hq3
       refine AO.nilE ⟨rfl, rfl⟩ ?_ ?_
       · exact ⟨rfl, trivial⟩
       · exact (Sub.refl _)
     ·refine AO.sT rfl rfl (bD (decide_eq_false hc7)) ?_
      refine AO.sT rfl rfl (bD (decide_eq_false hc7)) ?_
      refine AO.sT rfl rfl (bD (decide_eq_false hc7)) ?_
      refine AO.sT rfl rfl (bD (decide_eq_false hc7)) ?_
      refine AO.sT rfl rfl (bD (decide_eq_false hc7)) ?_
      refine AO.c (Calm.pickF rfl (bD (decide_eq_false hc7)) rfl) ?_
      refine AO.c (Calm.move rfl rfl) ?_
      refine AO.sT rfl rfl rfl ?_
      refine AO.sT rfl rfl rfl ?_
      refine AO.sT rfl rfl rfl ?_
      refine AO.c (Calm.pickF rfl rfl rfl) ?_
      refine AO.c (Calm.assign rfl rfl) ?_
      cases hq3
      refine AO.nilE ⟨rfl, rfl⟩ ?_ ?_
      · exact ⟨rfl, trivial⟩
      · exact (Sub.refl _)
    ·refine AO.sT rfl rfl (bD (decide_eq_false hc5)) ?_
     refine AO.sT rfl rfl (bD (decide_eq_false hc5)) ?_
     refine AO.sT rfl rfl (bD (decide_eq_false hc5)) ?_
     refine AO.sT rfl rfl (bD (decide_eq_false hc5)) ?_
     refine AO.sT rfl rfl (bD (decide_eq_false hc5)) ?_
     refine AO.c (Calm.pickF rfl (bD (decide_eq_false hc5)) rfl) ?_
     refine AO.c (Calm.move rfl rfl) ?_
     refine AO.sT rfl rfl rfl ?_
     refine AO.sT rfl rfl rfl ?_
     refine AO.sT rfl rfl rfl ?_
     refine AO.sT rfl rfl rfl ?_
     refine AO.sT rfl rfl rfl ?_
     refine AO.c (Calm.pickF rfl rfl rfl) ?_
     refine AO.c (Calm.move rfl rfl) ?_
     refine AO.sT rfl rfl rfl ?_
     refine AO.sT rfl rfl rfl ?_
     refine AO.sT rfl rfl rfl ?_
     refine AO.c (Calm.pickF rfl rfl rfl) ?_
     refine AO.c (Calm.assign rfl rfl) ?_
     cases hq3
     refine AO.nilE ⟨rfl, rfl⟩ ?_ ?_
     · exact ⟨rfl, trivial⟩
     · exact (Sub.refl _)
   ·refine AO.sT rfl rfl (bD (decide_eq_false hc4)) ?_
    refine AO.sT rfl rfl (bD (decide_eq_false hc4)) ?_
    refine AO.sT rfl rfl (bD (decide_eq_false hc4)) ?_
    refine AO.c (Calm.pickF rfl (bD (decide_eq_false hc4)) rfl) ?_
    refine AO.c (Calm.move rfl rfl) ?_
    refine AO.sT rfl rfl rfl ?_
    refine AO.sT rfl rfl rfl ?_
    refine AO.sT rfl rfl rfl ?_
    refine AO.sT rfl rfl rfl ?_
    refine AO.sT rfl rfl rfl ?_
    refine AO.c (Calm.pickF rfl rfl rfl) ?_
    refine AO.c (Calm.move rfl rfl) ?_
    refine AO.sT rfl rfl rfl ?_
    refine AO.sT rfl rfl rfl ?_
    refine AO.sT rfl rfl rfl ?_
    refine AO.sT rfl rfl rfl ?_
    refine AO.sT rfl rfl rfl ?_
    refine AO.c (Calm.pickF rfl rfl rfl) ?_
    refine AO.c (Calm.move rfl rfl) ?_
    refine AO.sT rfl rfl rfl ?_
    refine AO.sT rfl rfl rfl ?_
    refine AO.sT rfl rfl rfl ?_
    refine AO.c (Calm.pickF rfl rfl rfl) ?_
    refine AO.c (Calm.assign rfl rfl) ?_
    cases hq3
    refine AO.nilE ⟨rfl, rfl⟩ ?_ ?_
    · exact ⟨rfl, trivial⟩
    · exact (Sub.refl _)
  ·refine AW.rK [0] ?_
   have hr := Option.some.inj h
   subst hr
   exact ⟨[(eBool b2)], ⟨rfl, rfl, trivial⟩, rfl⟩
end Go.Avl.TE
/- bosket/bosketlaw04.RexChecks; printed by avmain.py. -/
namespace Go.Avl.TE
open Go Go.RowKit Go.Proofs Go.Avl
set_option linter.unusedVariables false
set_option maxRecDepth 100000
set_option maxHeartbeats 4000000
attribute [local irreducible] AW AO AQ Spec SpecH Calm

def bosketlaw04_RexChecks_c0 (k : Nat) (p0 : (List S40)) (t19 : (List (List S40))) : Option Bool :=
  Option.bind (α := Bool) (if (t19.length : Int) = (0 : Int) then some (true)
  else if 0 ≤ (w64 ((p0.length : Int) - (1 : Int))) ∧ (w64 ((p0.length : Int) - (1 : Int))) < (p0.length : Int) then (rex_Join k ((lget p0 (w64 ((p0.length : Int) - (1 : Int)))).f0) t19).bind fun t33 =>
  (rex_Same k t33 p0).bind fun t34 =>
  some (t34)
  else none) fun b29 =>
  some (b29)
def bosketlaw04_RexChecks_l1 (k : Nat) (p0 : (List S40)) (t19 : (List (List S40))) (t20 : (List (List S40))) : Nat → Int → Option Bool
  | 0, _ => none
  | j + 1, x35 =>
    if x35 < (t19.length : Int) then if 0 ≤ x35 ∧ x35 < (t19.length : Int) then if 0 ≤ x35 ∧ x35 < (t20.length : Int) then (bosketref04_Same k (lget t19 x35) (lget t20 x35)).bind fun t41 =>
    if (!t41) = true then some (false)
    else (bosketlaw04_RexChecks_l1 k p0 t19 t20 j) (w64 (x35 + (1 : Int)))
    else none
    else none
    else bosketlaw04_RexChecks_c0 k p0 t19
def bosketlaw04_RexChecks_c2 (k : Nat) (p0 : (List S40)) (p1 : Int) (t6 : Int) (t9 : (List (Vector Int 4))) (x10 : Int) : Option Bool :=
  Option.bind (α := Bool) (if t6 ≠ (0 : Int) then some (true)
  else some (decide (x10 ≠ (t9.length : Int)))) fun b11 =>
  if b11 = true then Option.bind (α := Bool) (if t6 ≠ (0 : Int) then (rex_Show k p0).bind fun t18 =>
  some (decide (t18 = (ByteArray.mk #[])))
  else some (false)) fun b15 =>
  some (b15)
  else (rex_Parts k p0).bind fun t19 =>
  (bosketref04_Parts k p0).bind fun t20 =>
  Option.bind (α := Bool) (if (t19.length : Int) ≠ (t20.length : Int) then some (true)
  else if (p0.length : Int) ≠ 0 then (rex_Start k p0 ((w64 p1).tmod (p0.length : Int))).bind fun t25 =>
  if (p0.length : Int) ≠ 0 then (bosketref04_Start k p0 ((w64 p1).tmod (p0.length : Int))).bind fun t27 =>
  some (decide (t25 ≠ t27))
  else none
  else none) fun b21 =>
  if b21 = true then some (false)
  else bosketlaw04_RexChecks_l1 k p0 t19 t20 k (0 : Int)
def bosketlaw04_RexChecks_c3 (k : Nat) (rec45 : (Int → Int → Option Bool)) (x44 : Int) (x48 : Int) : Option Bool :=
  rec45 x48 (w64 (x44 + (1 : Int)))
def bosketlaw04_RexChecks_l4 (k : Nat) (p0 : (List S40)) (p1 : Int) (t6 : Int) (t9 : (List (Vector Int 4))) : Nat → Int → Int → Option Bool
  | 0, _, _ => none
  | j + 1, x43, x44 =>
    if x44 < (p0.length : Int) then if 0 ≤ x44 ∧ x44 < (p0.length : Int) then if ((lget p0 x44).f0) ≠ (1 : Int) then bosketlaw04_RexChecks_c3 k (bosketlaw04_RexChecks_l4 k p0 p1 t6 t9 j) x44 x43
    else Option.bind (α := Bool) (if (t9.length : Int) ≤ x43 then some (true)
    else if 0 ≤ x43 ∧ x43 < (t9.length : Int) then if 0 ≤ x44 ∧ x44 < (p0.length : Int) then some (!(decide ((lget t9 x43) = ((lget p0 x44).f1))))
    else none
    else none) fun b51 =>
    if b51 = true then some (false)
    else bosketlaw04_RexChecks_c3 k (bosketlaw04_RexChecks_l4 k p0 p1 t6 t9 j) x44 (w64 (x43 + (1 : Int)))
    else none
    else bosketlaw04_RexChecks_c2 k p0 p1 t6 t9 x43
def bosketlaw04_RexChecks (k : Nat) (p0 : (List S40)) (p1 : Int) : Option Bool :=
  (bosketlaw04_awake k).bind fun t3 =>
  if (!t3) = true then some (false)
  else if (60 : Int) < (p0.length : Int) then some (true)
  else (bosketref04_Check k p0).bind fun t6 =>
  (rex_Check k p0).bind fun t7 =>
  if t7 ≠ t6 then some (false)
  else (rex_Sets k p0).bind fun t9 =>
  bosketlaw04_RexChecks_l4 k p0 p1 t6 t9 k (0 : Int) (0 : Int)
theorem bosketlaw04_RexChecks_spec {k : Nat} {p0 : (List S40)} {p1 : Int} {r : Bool} (h : bosketlaw04_RexChecks k p0 p1 = some r) : Spec Tryd.prog 4 [(.fz 5 (p0.map e40)), (eU16 p1)] (eBool r) := by
  rw [bosketlaw04_RexChecks.eq_1] at h
  refine Spec.intro (res := [.tmp 4]) Tryd.func4 rfl rfl rfl (Nat.le_of_ble_eq_true rfl) ?_
  refine AW.sr ?_
  refine AO.c (Calm.assign rfl rfl) ?_
  refine AO.nK [0, 1] ?_
  refine AW.seq ?_
  refine AW.sr ?_
  obtain ⟨t3, et3, h⟩ := of_bind h
  refine AO.callS [] (eBool t3) 12 rfl (by decide) ok5 rfl rfl rfl trivial (bosketlaw04_awake_spec et3) ?_
  refine AO.c (Calm.not rfl rfl) ?_
  refine AO.nK [0, 1, 13] ?_
  rcases of_ite h with ⟨hc4, h⟩ | ⟨hc4, h⟩
  ·refine AW.condT' _ rfl hc4 ?_
   refine AW.sr ?_
   refine AO.c (Calm.assign rfl rfl) ?_
   refine AO.nK [4] ?_
   refine AW.rK [4] ?_
   have hr := Option.some.inj h
   subst hr
   exact ⟨[(eBool false)], ⟨rfl, rfl, trivial⟩, rfl⟩
  ·refine AW.condF' _ rfl hc4 ?_
   refine AW.sK [0, 1] ?_
   refine AW.seq ?_
   refine AW.sr ?_
   refine AO.c (Calm.move rfl rfl) ?_
   refine AO.c (Calm.lenL rfl rfl Tryd.underlying23) ?_
   refine AO.c (x := eBool (decide ((60 : Int) < (p0.length : Int)))) (Calm.int rfl rfl rfl rfl) ?_
   refine AO.nK [0, 1, 16] ?_
   rcases of_ite h with ⟨hc5, h⟩ | ⟨hc5, h⟩
   ·refine AW.condP _ rfl hc5 ?_
    refine AW.sr ?_
    refine AO.c (Calm.assign rfl rfl) ?_
    refine AO.nK [4] ?_
    refine AW.rK [4] ?_
    have hr := Option.some.inj h
    subst hr
    exact ⟨[(eBool true)], ⟨rfl, rfl, trivial⟩, rfl⟩
   ·refine AW.condN _ rfl hc5 ?_
    refine AW.sK [0, 1] ?_
    refine AW.sr ?_
    refine AO.c (Calm.move rfl rfl) ?_
    obtain ⟨t6, et6, h⟩ := of_bind h
    refine AO.callS [(.fz 5 (p0.map e40))] (eI64 t6) 18 rfl (by decide) ok6 rfl rfl rfl ⟨rfl, rfl, trivial⟩ (bosketref04_Check_spec et6) ?_
    refine AO.c (Calm.assign rfl rfl) ?_
    refine AO.nK [0, 1, 5] ?_
    refine AW.seq ?_
    refine AW.sr ?_
    refine AO.c (Calm.move rfl rfl) ?_
    obtain ⟨t7, et7, h⟩ := of_bind h
    refine AO.callS [(.fz 5 (p0.map e40))] (eI64 t7) 20 rfl (by decide) ok12 rfl rfl rfl ⟨rfl, rfl, trivial⟩ (rex_Check_spec et7) ?_
    refine AO.c (Calm.move rfl rfl) ?_
    refine AO.c (x := eBool (decide (t7 ≠ t6))) (Calm.int rfl rfl rfl rfl) ?_
    refine AO.nK [0, 1, 5, 22] ?_
    rcases of_ite h with ⟨hc8, h⟩ | ⟨hc8, h⟩
    ·refine AW.condP _ rfl hc8 ?_
     refine AW.sr ?_
     refine AO.c (Calm.assign rfl rfl) ?_
     refine AO.nK [4] ?_
     refine AW.rK [4] ?_
     have hr := Option.some.inj h
     subst hr
     exact ⟨[(eBool false)], ⟨rfl, rfl, trivial⟩, rfl⟩
    ·refine AW.condN _ rfl hc8 ?_
     refine AW.sK [0, 1, 5] ?_
     refine AW.sr ?_
     refine AO.c (Calm.move rfl rfl) ?_
     obtain ⟨t9, et9, h⟩ := of_bind h
     refine AO.callS [(.fz 5 (p0.map e40))] (.fz 4 (t9.map e38)) 24 rfl (by decide) ok13 rfl rfl rfl ⟨rfl, rfl, trivial⟩ (rex_Sets_spec et9) ?_
     refine AO.c (Calm.assign rfl rfl) ?_
     refine AO.nK [0, 1, 5, 6] ?_
     refine AW.sr ?_
     refine AO.c (Calm.assign rfl rfl) ?_
     refine AO.nK [0, 1, 5, 6, 7] ?_
     refine AW.seq_mid (fun ρ H => ∃ (x10 : Int), ρ = [(0, (.fz 5 (p0.map e40))), (1, (eU16 p1)), (5, (eI64 t6)), (6, (.fz 4 (t9.map e38))), (7, (eI64 x10))] ∧ H = [] ∧ bosketlaw04_RexChecks_c2 k p0 p1 t6 t9 x10 = some r) ?_ ?_
     ·refine AW.sr ?_
      refine AO.c (Calm.assign rfl rfl) ?_
      refine AO.nK [0, 1, 5, 6, 7, 8] ?_
      refine AW.block ?_
      refine AW.wK [0, 1, 5, 6, 7, 8] ?_
      refine AW.loop (fun kq ρ H => ∃ (x43 : Int) (x44 : Int), ρ = [(0, (.fz 5 (p0.map e40))), (1, (eU16 p1)), (5, (eI64 t6)), (6, (.fz 4 (t9.map e38))), (7, (eI64 x43)), (8, (eI64 x44))] ∧ H = [] ∧ bosketlaw04_RexChecks_l4 k p0 p1 t6 t9 kq x43 x44 = some r) k ⟨(0 : Int), (0 : Int), rfl, rfl, h⟩ ?_
      rintro kq46 _ _ ⟨x43, x44, rfl, rfl, h⟩
      cases kq46 with
      | zero => rw [bosketlaw04_RexChecks_l4.eq_1] at h; cases h
      | succ kq46 =>
      rw [bosketlaw04_RexChecks_l4.eq_2] at h
      generalize hrec45 : bosketlaw04_RexChecks_l4 k p0 p1 t6 t9 kq46 = rec45 at h
      refine AW.seq ?_
      refine AW.sr ?_
      refine AO.c (Calm.move rfl rfl) ?_
      refine AO.c (Calm.move rfl rfl) ?_
      refine AO.c (Calm.lenL rfl rfl Tryd.underlying23) ?_
      refine AO.c (x := eBool (decide (x44 < (p0.length : Int)))) (Calm.int rfl rfl rfl rfl) ?_
      refine AO.nK [0, 1, 5, 6, 7, 8, 28] ?_
      rcases of_ite h with ⟨hc47, h⟩ | ⟨hc47, h⟩
      ·refine AW.condP _ rfl hc47 ?_
       refine AW.sK [0, 1, 5, 6, 7, 8] ?_
       refine AW.seq_mid (fun ρ H => ∃ (x48 : Int), ρ = [(0, (.fz 5 (p0.map e40))), (1, (eU16 p1)), (5, (eI64 t6)), (6, (.fz 4 (t9.map e38))), (7, (eI64 x48)), (8, (eI64 x44))] ∧ H = [] ∧ bosketlaw04_RexChecks_c3 k rec45 x44 x48 = some r) ?_ ?_
       ·refine AW.block ?_
        refine AW.seq ?_
        refine AW.sr ?_
        refine AO.c (Calm.move rfl rfl) ?_
        refine AO.c (Calm.move rfl rfl) ?_
        obtain ⟨hg49, h⟩ := of_guard h
        refine AO.c (Calm.idxL (f := e40) rfl rfl rfl hg49 Tryd.underlying23 sz40) ?_
        refine AO.c (Calm.fldRp rfl rfl Tryd.underlying40 rfl sz3 (At.cast (At.fld0 At.here) rfl)) ?_
        refine AO.c (Calm.loadRp rfl rfl ag3 sz3) ?_
        refine AO.c (x := eBool (decide (((lget p0 x44).f0) ≠ (1 : Int)))) (Calm.int rfl rfl rfl rfl) ?_
        refine AO.nK [0, 1, 5, 6, 7, 8, 36] ?_
        rcases of_ite h with ⟨hc50, h⟩ | ⟨hc50, h⟩
        ·refine AW.condP _ rfl hc50 ?_
         refine AW.eK [0, 1, 5, 6, 7, 8] ?_
         exact ⟨x43, rfl, rfl, h⟩
        ·refine AW.condN _ rfl hc50 ?_
         refine AW.sK [0, 1, 5, 6, 7, 8] ?_
         refine AW.seq ?_
         refine AW.seq ?_
         obtain ⟨b51, hq52, h⟩ := of_bind h
         refine AW.regQM (by rfl) (by decide +kernel) [(0, (.fz 5 (p0.map e40))), (1, (eU16 p1)), (5, (eI64 t6)), (6, (.fz 4 (t9.map e38))), (7, (eI64 x43)), (8, (eI64 x44)), (52, (eBool b51))] ?_ ?_
         ·refine AQ.c (Calm.move rfl rfl) ?_
          refine AQ.c (Calm.move rfl rfl) ?_
          refine AQ.c (Calm.lenL rfl rfl Tryd.underlying34) ?_
          refine AQ.c (x := eBool (decide ((t9.length : Int) ≤ x43))) (Calm.int rfl rfl rfl rfl) ?_
          refine AQ.c (Calm.move rfl rfl) ?_
          rcases of_ite hq52 with ⟨hc53, hq52⟩ | ⟨hc53, hq52⟩
          ·refine AQ.sF rfl rfl (bD (decide_eq_true hc53)) ?_
           refine AQ.sF rfl rfl (bD (decide_eq_true hc53)) ?_
           refine AQ.sF rfl rfl (bD (decide_eq_true hc53)) ?_
           refine AQ.sF rfl rfl (bD (decide_eq_true hc53)) ?_
           refine AQ.sF rfl rfl (bD (decide_eq_true hc53)) ?_
           refine AQ.sF rfl rfl (bD (decide_eq_true hc53)) ?_
           refine AQ.sF rfl rfl (bD (decide_eq_true hc53)) ?_
           refine AQ.sF rfl rfl (bD (decide_eq_true hc53)) ?_
           refine AQ.sF rfl rfl (bD (decide_eq_true hc53)) ?_
           refine AQ.sF rfl rfl (bD (decide_eq_true hc53)) ?_
           refine AQ.c (Calm.pickT rfl (bD (decide_eq_true hc53)) rfl) ?_
           cases hq52
           refine AQ.nilE rfl ?_
           exact ⟨rfl, rfl, rfl, rfl, rfl, rfl, rfl, trivial⟩
          ·refine AQ.cG rfl rfl (bD (decide_eq_false hc53)) (Calm.move rfl rfl) ?_
           refine AQ.cG rfl rfl (bD (decide_eq_false hc53)) (Calm.move rfl rfl) ?_
           obtain ⟨hg54, hq52⟩ := of_guard hq52
           refine AQ.cG rfl rfl (bD (decide_eq_false hc53)) (Calm.idxL (f := e38) rfl rfl rfl hg54 Tryd.underlying34 sz38) ?_
           refine AQ.cG rfl rfl (bD (decide_eq_false hc53)) (Calm.loadRp rfl rfl ag38 (by rw [sz38]; simp [AV.size])) ?_
           refine AQ.cG rfl rfl (bD (decide_eq_false hc53)) (Calm.move rfl rfl) ?_
           refine AQ.cG rfl rfl (bD (decide_eq_false hc53)) (Calm.move rfl rfl) ?_
           obtain ⟨hg55, hq52⟩ := of_guard hq52
           refine AQ.cG rfl rfl (bD (decide_eq_false hc53)) (Calm.idxL (f := e40) rfl rfl rfl hg55 Tryd.underlying23 sz40) ?_
           refine AQ.cG rfl rfl (bD (decide_eq_false hc53)) (Calm.fldRp rfl rfl Tryd.underlying40 rfl sz38 (At.cast (At.fldS (At.fld0 At.here)) rfl)) ?_
           refine AQ.cG rfl rfl (bD (decide_eq_false hc53)) (Calm.loadRp rfl rfl ag38 (by rw [sz38]; simp [AV.size])) ?_
           refine AQ.cG (x := eBool (!(decide ((lget t9 x43) = ((lget p0 x44).f1))))) rfl rfl (bD (decide_eq_false hc53)) (Calm.neA rfl rfl rfl eg38 (eqa38 (lget t9 x43) ((lget p0 x44).f1)) (by decide)) ?_
           refine AQ.c (Calm.pickF rfl (bD (decide_eq_false hc53)) rfl) ?_
           cases hq52
           refine AQ.nilE rfl ?_
           exact ⟨rfl, rfl, rfl, rfl, rfl, rfl, rfl, trivial⟩
         ·rcases of_ite h with ⟨hc56, h⟩ | ⟨hc56, h⟩
          ·refine AW.condT' _ rfl hc56 ?_
           refine AW.sr ?_
           refine AO.c (Calm.assign rfl rfl) ?_
           refine AO.nK [4] ?_
           refine AW.rK [4] ?_
           have hr := Option.some.inj h
           subst hr
           exact ⟨[(eBool false)], ⟨rfl, rfl, trivial⟩, rfl⟩
          ·refine AW.condF' _ rfl hc56 ?_
           refine AW.sK [0, 1, 5, 6, 7, 8] ?_
           refine AW.reg ?_
           refine AO.c (Calm.move rfl rfl) ?_
           refine AO.c (x := eI64 (w64 (x43 + (1 : Int)))) (Calm.int rfl rfl rfl rfl) ?_
           refine AO.c (Calm.assign rfl rfl) ?_
           refine AO.nK [0, 1, 5, 6, 7, 8] ?_
           exact ⟨(w64 (x43 + (1 : Int))), rfl, rfl, h⟩
       ·rintro _ _ ⟨x48, rfl, rfl, h⟩
        rw [bosketlaw04_RexChecks_c3.eq_1] at h
        refine AW.reg ?_
        refine AO.c (Calm.move rfl rfl) ?_
        refine AO.c (x := eI64 (w64 (x44 + (1 : Int)))) (Calm.int rfl rfl rfl rfl) ?_
        refine AO.c (Calm.assign rfl rfl) ?_
        refine AO.nK [0, 1, 5, 6, 7, 8] ?_
        exact ⟨kq46, Nat.lt_succ_self _, x48, (w64 (x44 + (1 : Int))), rfl, rfl, by rw [hrec45]; exact h⟩
      ·refine AW.condN _ rfl hc47 ?_
       refine AW.eK [0, 1, 5, 6, 7] ?_
       exact ⟨x43, rfl, rfl, h⟩
     ·rintro _ _ ⟨x10, rfl, rfl, h⟩
      rw [bosketlaw04_RexChecks_c2.eq_1] at h
      refine AW.seq ?_
      refine AW.seq ?_
      obtain ⟨b11, hq12, h⟩ := of_bind h
      refine AW.regM [(0, (.fz 5 (p0.map e40))), (1, (eU16 p1)), (5, (eI64 t6)), (62, (eBool b11))] [] ?_ ?_
      ·refine AO.c (Calm.move rfl rfl) ?_
       refine AO.c (x := eBool (decide (t6 ≠ (0 : Int)))) (Calm.int rfl rfl rfl rfl) ?_
       refine AO.c (Calm.move rfl rfl) ?_
       rcases of_ite hq12 with ⟨hc13, hq12⟩ | ⟨hc13, hq12⟩
       ·refine AO.sF rfl rfl (bD (decide_eq_true hc13)) ?_
        refine AO.sF rfl rfl (bD (decide_eq_true hc13)) ?_
        refine AO.sF rfl rfl (bD (decide_eq_true hc13)) ?_
        refine AO.sF rfl rfl (bD (decide_eq_true hc13)) ?_
        refine AO.c (Calm.pickT rfl (bD (decide_eq_true hc13)) rfl) ?_
        cases hq12
        refine AO.nilE ⟨rfl, rfl⟩ ?_ ?_
        · exact ⟨rfl, rfl, rfl, rfl, trivial⟩
        · exact (Sub.refl _)
       ·refine AO.cG rfl rfl (bD (decide_eq_false hc13)) (Calm.move rfl rfl) ?_
        refine AO.cG rfl rfl (bD (decide_eq_false hc13)) (Calm.move rfl rfl) ?_
        refine AO.cG rfl rfl (bD (decide_eq_false hc13)) (Calm.lenL rfl rfl Tryd.underlying34) ?_
        refine AO.cG (x := eBool (decide (x10 ≠ (t9.length : Int)))) rfl rfl (bD (decide_eq_false hc13)) (Calm.int rfl rfl rfl rfl) ?_
        refine AO.c (Calm.pickF rfl (bD (decide_eq_false hc13)) rfl) ?_
        cases hq12
        refine AO.nilE ⟨rfl, rfl⟩ ?_ ?_
        · exact ⟨rfl, rfl, rfl, rfl, trivial⟩
        · exact (Sub.refl _)
      ·rcases of_ite h with ⟨hc14, h⟩ | ⟨hc14, h⟩
       ·refine AW.condT' _ rfl hc14 ?_
        refine AW.seq ?_
        obtain ⟨b15, hq16, h⟩ := of_bind h
        refine AW.regM [(4, (eBool b15))] [] ?_ ?_
        ·refine AO.c (Calm.move rfl rfl) ?_
         refine AO.c (x := eBool (decide (t6 ≠ (0 : Int)))) (Calm.int rfl rfl rfl rfl) ?_
         refine AO.c (Calm.move rfl rfl) ?_
         rcases of_ite hq16 with ⟨hc17, hq16⟩ | ⟨hc17, hq16⟩
         ·refine AO.cG rfl rfl (bD (decide_eq_true hc17)) (Calm.move rfl rfl) ?_
          obtain ⟨t18, et18, hq16⟩ := of_bind hq16
          refine AO.callG 2 true 65 [(.fz 5 (p0.map e40))] (eStr t18) 67 rfl (by decide) ok7 rfl rfl (bD (decide_eq_true hc17)) rfl rfl ⟨rfl, rfl, trivial⟩ (rex_Show_spec et18) ?_
          refine AO.cG (x := eBool (decide (t18 = (ByteArray.mk #[])))) rfl rfl (bD (decide_eq_true hc17)) (Calm.str rfl rfl rfl rfl) ?_
          refine AO.c (Calm.pickT rfl (bD (decide_eq_true hc17)) rfl) ?_
          refine AO.c (Calm.assign rfl rfl) ?_
          cases hq16
          refine AO.nilE ⟨rfl, rfl⟩ ?_ ?_
          · exact ⟨rfl, trivial⟩
          · exact (Sub.refl _)
         ·refine AO.sT rfl rfl (bD (decide_eq_false hc17)) ?_
          refine AO.sT rfl rfl (bD (decide_eq_false hc17)) ?_
          refine AO.sT rfl rfl (bD (decide_eq_false hc17)) ?_
          refine AO.c (Calm.pickF rfl (bD (decide_eq_false hc17)) rfl) ?_
          refine AO.c (Calm.assign rfl rfl) ?_
          cases hq16
          refine AO.nilE ⟨rfl, rfl⟩ ?_ ?_
          · exact ⟨rfl, trivial⟩
          · exact (Sub.refl _)
        ·refine AW.rK [4] ?_
         have hr := Option.some.inj h
         subst hr
         exact ⟨[(eBool b15)], ⟨rfl, rfl, trivial⟩, rfl⟩
       ·refine AW.condF' _ rfl hc14 ?_
        refine AW.sK [0, 1] ?_
        refine AW.sr ?_
        refine AO.c (Calm.move rfl rfl) ?_
        obtain ⟨t19, et19, h⟩ := of_bind h
        refine AO.callS [(.fz 5 (p0.map e40))] (.fz 1 (t19.map e23)) 71 rfl (by decide) ok14 rfl rfl rfl ⟨rfl, rfl, trivial⟩ (rex_Parts_spec et19) ?_
        refine AO.c (Calm.move rfl rfl) ?_
        obtain ⟨t20, et20, h⟩ := of_bind h
        refine AO.callS [(.fz 5 (p0.map e40))] (.fz 1 (t20.map e23)) 73 rfl (by decide) ok15 rfl rfl rfl ⟨rfl, rfl, trivial⟩ (bosketref04_Parts_spec et20) ?_
        refine AO.c (Calm.assign rfl rfl) ?_
        refine AO.c (Calm.assign rfl rfl) ?_
        refine AO.nK [0, 1, 9, 10] ?_
        refine AW.seq ?_
        refine AW.seq ?_
        obtain ⟨b21, hq22, h⟩ := of_bind h
        refine AW.regQM (by rfl) (by decide +kernel) [(0, (.fz 5 (p0.map e40))), (9, (.fz 1 (t19.map e23))), (10, (.fz 1 (t20.map e23))), (95, (eBool b21))] ?_ ?_
        ·refine AQ.c (Calm.move rfl rfl) ?_
         refine AQ.c (Calm.lenL rfl rfl Tryd.underlying41) ?_
         refine AQ.c (Calm.move rfl rfl) ?_
         refine AQ.c (Calm.lenL rfl rfl Tryd.underlying41) ?_
         refine AQ.c (x := eBool (decide ((t19.length : Int) ≠ (t20.length : Int)))) (Calm.int rfl rfl rfl rfl) ?_
         refine AQ.c (Calm.move rfl rfl) ?_
         rcases of_ite hq22 with ⟨hc23, hq22⟩ | ⟨hc23, hq22⟩
         ·refine AQ.sF rfl rfl (bD (decide_eq_true hc23)) ?_
          refine AQ.sF rfl rfl (bD (decide_eq_true hc23)) ?_
          refine AQ.sF rfl rfl (bD (decide_eq_true hc23)) ?_
          refine AQ.sF rfl rfl (bD (decide_eq_true hc23)) ?_
          refine AQ.sF rfl rfl (bD (decide_eq_true hc23)) ?_
          refine AQ.sF rfl rfl (bD (decide_eq_true hc23)) ?_
          refine AQ.sF rfl rfl (bD (decide_eq_true hc23)) ?_
          refine AQ.sF rfl rfl (bD (decide_eq_true hc23)) ?_
          refine AQ.sF rfl rfl (bD (decide_eq_true hc23)) ?_
          refine AQ.sF rfl rfl (bD (decide_eq_true hc23)) ?_
          refine AQ.sF rfl rfl (bD (decide_eq_true hc23)) ?_
          refine AQ.sF rfl rfl (bD (decide_eq_true hc23)) ?_
          refine AQ.sF rfl rfl (bD (decide_eq_true hc23)) ?_
          refine AQ.sF rfl rfl (bD (decide_eq_true hc23)) ?_
          refine AQ.sF rfl rfl (bD (decide_eq_true hc23)) ?_
          refine AQ.c (Calm.pickT rfl (bD (decide_eq_true hc23)) rfl) ?_
          cases hq22
          refine AQ.nilE rfl ?_
          exact ⟨rfl, rfl, rfl, rfl, trivial⟩
         ·refine AQ.cG rfl rfl (bD (decide_eq_false hc23)) (Calm.move rfl rfl) ?_
          refine AQ.cG rfl rfl (bD (decide_eq_false hc23)) (Calm.move rfl rfl) ?_
          refine AQ.cG (x := eI64 (w64 p1)) rfl rfl (bD (decide_eq_false hc23)) (Calm.conv rfl rfl Tryd.underlying32 Tryd.underlying3) ?_
          refine AQ.cG rfl rfl (bD (decide_eq_false hc23)) (Calm.move rfl rfl) ?_
          refine AQ.cG rfl rfl (bD (decide_eq_false hc23)) (Calm.lenL rfl rfl Tryd.underlying23) ?_
          obtain ⟨hg24, hq22⟩ := of_guard hq22
          refine AQ.cG (x := eI64 ((w64 p1).tmod (p0.length : Int))) rfl rfl (bD (decide_eq_false hc23)) (Calm.rem rfl rfl rfl hg24) ?_
          obtain ⟨t25, et25, hq22⟩ := of_bind hq22
          refine AQ.cG rfl rfl (bD (decide_eq_false hc23)) (Calm.call (args := [(.fz 5 (p0.map e40)), (eI64 ((w64 p1).tmod (p0.length : Int)))]) rfl rfl ok16 ⟨rfl, rfl, rfl, rfl, trivial⟩ rfl (rex_Start_spec et25)) ?_
          refine AQ.cG rfl rfl (bD (decide_eq_false hc23)) (Calm.move rfl rfl) ?_
          refine AQ.cG rfl rfl (bD (decide_eq_false hc23)) (Calm.move rfl rfl) ?_
          refine AQ.cG (x := eI64 (w64 p1)) rfl rfl (bD (decide_eq_false hc23)) (Calm.conv rfl rfl Tryd.underlying32 Tryd.underlying3) ?_
          refine AQ.cG rfl rfl (bD (decide_eq_false hc23)) (Calm.move rfl rfl) ?_
          refine AQ.cG rfl rfl (bD (decide_eq_false hc23)) (Calm.lenL rfl rfl Tryd.underlying23) ?_
          obtain ⟨hg26, hq22⟩ := of_guard hq22
          refine AQ.cG (x := eI64 ((w64 p1).tmod (p0.length : Int))) rfl rfl (bD (decide_eq_false hc23)) (Calm.rem rfl rfl rfl hg26) ?_
          obtain ⟨t27, et27, hq22⟩ := of_bind hq22
          refine AQ.cG rfl rfl (bD (decide_eq_false hc23)) (Calm.call (args := [(.fz 5 (p0.map e40)), (eI64 ((w64 p1).tmod (p0.length : Int)))]) rfl rfl ok17 ⟨rfl, rfl, rfl, rfl, trivial⟩ rfl (bosketref04_Start_spec et27)) ?_
          refine AQ.cG (x := eBool (decide (t25 ≠ t27))) rfl rfl (bD (decide_eq_false hc23)) (Calm.int rfl rfl rfl rfl) ?_
          refine AQ.c (Calm.pickF rfl (bD (decide_eq_false hc23)) rfl) ?_
          cases hq22
          refine AQ.nilE rfl ?_
          exact ⟨rfl, rfl, rfl, rfl, trivial⟩
        ·rcases of_ite h with ⟨hc28, h⟩ | ⟨hc28, h⟩
         ·refine AW.condT' _ rfl hc28 ?_
          refine AW.sr ?_
          refine AO.c (Calm.assign rfl rfl) ?_
          refine AO.nK [4] ?_
          refine AW.rK [4] ?_
          have hr := Option.some.inj h
          subst hr
          exact ⟨[(eBool false)], ⟨rfl, rfl, trivial⟩, rfl⟩
         ·refine AW.condF' _ rfl hc28 ?_
          refine AW.sK [0, 9, 10] ?_
          refine AW.seq_mid (fun ρ H => ρ = [(0, (.fz 5 (p0.map e40))), (9, (.fz 1 (t19.map e23)))] ∧ H = [] ∧ bosketlaw04_RexChecks_c0 k p0 t19 = some r) ?_ ?_
          ·refine AW.sr ?_
           refine AO.c (Calm.assign rfl rfl) ?_
           refine AO.nK [0, 9, 10, 11] ?_
           refine AW.block ?_
           refine AW.wK [0, 9, 10, 11] ?_
           refine AW.loop (fun kq ρ H => ∃ (x35 : Int), ρ = [(0, (.fz 5 (p0.map e40))), (9, (.fz 1 (t19.map e23))), (10, (.fz 1 (t20.map e23))), (11, (eI64 x35))] ∧ H = [] ∧ bosketlaw04_RexChecks_l1 k p0 t19 t20 kq x35 = some r) k ⟨(0 : Int), rfl, rfl, h⟩ ?_
           rintro kq37 _ _ ⟨x35, rfl, rfl, h⟩
           cases kq37 with
           | zero => rw [bosketlaw04_RexChecks_l1.eq_1] at h; cases h
           | succ kq37 =>
           rw [bosketlaw04_RexChecks_l1.eq_2] at h
           generalize hrec36 : bosketlaw04_RexChecks_l1 k p0 t19 t20 kq37 = rec36 at h
           refine AW.seq ?_
           refine AW.sr ?_
           refine AO.c (Calm.move rfl rfl) ?_
           refine AO.c (Calm.move rfl rfl) ?_
           refine AO.c (Calm.lenL rfl rfl Tryd.underlying41) ?_
           refine AO.c (x := eBool (decide (x35 < (t19.length : Int)))) (Calm.int rfl rfl rfl rfl) ?_
           refine AO.nK [0, 9, 10, 11, 99] ?_
           rcases of_ite h with ⟨hc38, h⟩ | ⟨hc38, h⟩
           ·refine AW.condP _ rfl hc38 ?_
            refine AW.sK [0, 9, 10, 11] ?_
            refine AW.seq ?_
            refine AW.block ?_
            refine AW.seq ?_
            refine AW.regQ (by rfl) (by decide +kernel) ?_
            refine AQ.c (Calm.move rfl rfl) ?_
            refine AQ.c (Calm.move rfl rfl) ?_
            obtain ⟨hg39, h⟩ := of_guard h
            refine AQ.c (Calm.idxL (f := e23) rfl rfl rfl hg39 Tryd.underlying41 sz23) ?_
            refine AQ.c (Calm.loadRp rfl rfl ag23 sz23) ?_
            refine AQ.c (Calm.move rfl rfl) ?_
            refine AQ.c (Calm.move rfl rfl) ?_
            obtain ⟨hg40, h⟩ := of_guard h
            refine AQ.c (Calm.idxL (f := e23) rfl rfl rfl hg40 Tryd.underlying41 sz23) ?_
            refine AQ.c (Calm.loadRp rfl rfl ag23 sz23) ?_
            obtain ⟨t41, et41, h⟩ := of_bind h
            refine AQ.c (Calm.call (args := [(.fz 5 ((lget t19 x35).map e40)), (.fz 5 ((lget t20 x35).map e40))]) rfl rfl ok10 ⟨rfl, rfl, rfl, rfl, trivial⟩ rfl (bosketref04_Same_spec et41)) ?_
            refine AQ.c (Calm.not rfl rfl) ?_
            refine AQ.nK [0, 9, 10, 11, 111] ?_
            rcases of_ite h with ⟨hc42, h⟩ | ⟨hc42, h⟩
            ·refine AW.condT' _ rfl hc42 ?_
             refine AW.sr ?_
             refine AO.c (Calm.assign rfl rfl) ?_
             refine AO.nK [4] ?_
             refine AW.rK [4] ?_
             have hr := Option.some.inj h
             subst hr
             exact ⟨[(eBool false)], ⟨rfl, rfl, trivial⟩, rfl⟩
            ·refine AW.condF' _ rfl hc42 ?_
             refine AW.sK [0, 9, 10, 11] ?_
             refine AW.reg ?_
             refine AO.c (Calm.move rfl rfl) ?_
             refine AO.c (x := eI64 (w64 (x35 + (1 : Int)))) (Calm.int rfl rfl rfl rfl) ?_
             refine AO.c (Calm.assign rfl rfl) ?_
             refine AO.nK [0, 9, 10, 11] ?_
             exact ⟨kq37, Nat.lt_succ_self _, (w64 (x35 + (1 : Int))), rfl, rfl, by rw [hrec36]; exact h⟩
           ·refine AW.condN _ rfl hc38 ?_
            refine AW.eK [0, 9] ?_
            exact ⟨rfl, rfl, h⟩
          ·rintro _ _ ⟨rfl, rfl, h⟩
           rw [bosketlaw04_RexChecks_c0.eq_1] at h
           refine AW.seq ?_
           obtain ⟨b29, hq30, h⟩ := of_bind h
           refine AW.regM [(4, (eBool b29))] [] ?_ ?_
           ·refine AO.c (Calm.move rfl rfl) ?_
            refine AO.c (Calm.lenL rfl rfl Tryd.underlying41) ?_
            refine AO.c (x := eBool (decide ((t19.length : Int) = (0 : Int)))) (Calm.int rfl rfl rfl rfl) ?_
            refine AO.c (Calm.move rfl rfl) ?_
            rcases of_ite hq30 with ⟨hc31, hq30⟩ | ⟨hc31, hq30⟩
            ·refine AO.sF rfl rfl (bD (decide_eq_true hc31)) ?_
             refine AO.sF rfl rfl (bD (decide_eq_true hc31)) ?_
             refine AO.sF rfl rfl (bD (decide_eq_true hc31)) ?_
             refine AO.sF rfl rfl (bD (decide_eq_true hc31)) ?_
             refine AO.sF rfl rfl (bD (decide_eq_true hc31)) ?_
             refine AO.sF rfl rfl (bD (decide_eq_true hc31)) ?_
             refine AO.sF rfl rfl (bD (decide_eq_true hc31)) ?_
             refine AO.sF rfl rfl (bD (decide_eq_true hc31)) ?_
             refine AO.sF rfl rfl (bD (decide_eq_true hc31)) ?_
             refine AO.sF rfl rfl (bD (decide_eq_true hc31)) ?_
             refine AO.sF rfl rfl (bD (decide_eq_true hc31)) ?_
             refine AO.c (Calm.pickT rfl (bD (decide_eq_true hc31)) rfl) ?_
             refine AO.c (Calm.assign rfl rfl) ?_
             cases hq30
             refine AO.nilE ⟨rfl, rfl⟩ ?_ ?_
             · exact ⟨rfl, trivial⟩
             · exact (Sub.refl _)
            ·refine AO.cG rfl rfl (bD (decide_eq_false hc31)) (Calm.move rfl rfl) ?_
             refine AO.cG rfl rfl (bD (decide_eq_false hc31)) (Calm.move rfl rfl) ?_
             refine AO.cG rfl rfl (bD (decide_eq_false hc31)) (Calm.lenL rfl rfl Tryd.underlying23) ?_
             refine AO.cG (x := eI64 (w64 ((p0.length : Int) - (1 : Int)))) rfl rfl (bD (decide_eq_false hc31)) (Calm.int rfl rfl rfl rfl) ?_
             obtain ⟨hg32, hq30⟩ := of_guard hq30
             refine AO.cG rfl rfl (bD (decide_eq_false hc31)) (Calm.idxL (f := e40) rfl rfl rfl hg32 Tryd.underlying23 sz40) ?_
             refine AO.cG rfl rfl (bD (decide_eq_false hc31)) (Calm.fldRp rfl rfl Tryd.underlying40 rfl sz3 (At.cast (At.fld0 At.here) rfl)) ?_
             refine AO.cG rfl rfl (bD (decide_eq_false hc31)) (Calm.loadRp rfl rfl ag3 sz3) ?_
             refine AO.cG rfl rfl (bD (decide_eq_false hc31)) (Calm.move rfl rfl) ?_
             obtain ⟨t33, et33, hq30⟩ := of_bind hq30
             refine AO.callG 3 false 115 [(eI64 ((lget p0 (w64 ((p0.length : Int) - (1 : Int)))).f0)), (.fz 1 (t19.map e23))] (.fz 5 (t33.map e40)) 124 rfl (by decide) ok18 rfl rfl (bD (decide_eq_false hc31)) rfl rfl ⟨rfl, rfl, rfl, rfl, trivial⟩ (rex_Join_spec et33) ?_
             refine AO.cG rfl rfl (bD (decide_eq_false hc31)) (Calm.move rfl rfl) ?_
             obtain ⟨t34, et34, hq30⟩ := of_bind hq30
             refine AO.callG 3 false 115 [(.fz 5 (t33.map e40)), (.fz 5 (p0.map e40))] (eBool t34) 126 rfl (by decide) ok11 rfl rfl (bD (decide_eq_false hc31)) rfl rfl ⟨rfl, rfl, rfl, rfl, trivial⟩ (rex_Same_spec et34) ?_
             refine AO.c (Calm.pickF rfl (bD (decide_eq_false hc31)) rfl) ?_
             refine AO.c (Calm.assign rfl rfl) ?_
             cases hq30
             refine AO.nilE ⟨rfl, rfl⟩ ?_ ?_
             · exact ⟨rfl, trivial⟩
             · exact (Sub.refl _)
           ·refine AW.rK [4] ?_
            have hr := Option.some.inj h
            subst hr
            exact ⟨[(eBool b29)], ⟨rfl, rfl, trivial⟩, rfl⟩
end Go.Avl.TE
