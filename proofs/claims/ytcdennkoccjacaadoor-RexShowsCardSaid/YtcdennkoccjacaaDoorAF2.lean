/- Parts: TEf54, TEf56, TEf21, TEf8, TEf12, TEf27, TEf16, TEf14. -/
import Derived.Test.YtcdennkoccjacaaDoorAF1
/- (*bosket/rex.reader).brackets; printed by avmain.py. -/
namespace Go.Avl.TE
open Go Go.RowKit Go.Proofs Go.Avl
set_option linter.unusedVariables false
set_option maxRecDepth 100000
set_option maxHeartbeats 4000000
set_option linter.unusedSimpArgs false
attribute [local irreducible] AW AO AQ Spec SpecH Calm

def rex_reader_brackets_c0 (k : Nat) (x5 : ByteArray) (x6 : Int) (x7 : Int) (x9 : (Vector Int 4)) : Option ((List S40) × Bool × S49) :=
  (rex_reader_eat k (S49.mk x5 x6 x7) (93 : Int)).bind fun t11 =>
  if t11.1 = true then (byteset_Empty k x9).bind fun t14 =>
  some ([(S40.mk (1 : Int) x9)], !t14, t11.2)
  else some ([(S40.mk (1 : Int) x9)], false, t11.2)
def rex_reader_brackets_c1 (k : Nat) (t2 : (Bool × S49)) (x5 : ByteArray) (x6 : Int) (x7 : Int) (x8 : (Vector Int 4)) : Option ((List S40) × Bool × S49) :=
  if t2.1 = true then (byteset_Not k x8).bind fun t16 =>
  rex_reader_brackets_c0 k x5 x6 x7 t16
  else rex_reader_brackets_c0 k x5 x6 x7 x8
def rex_reader_brackets_c2 (k : Nat) (rec21 : (ByteArray → Int → Int → (Vector Int 4) → Option ((List S40) × Bool × S49))) (x20 : (Vector Int 4)) (t29 : (Int × Bool × S49)) (x32 : ByteArray) (x33 : Int) (x34 : Int) (x35 : Int) : Option ((List S40) × Bool × S49) :=
  (byteset_Range k t29.1 x35).bind fun t36 =>
  (byteset_Or k x20 t36).bind fun t37 =>
  rec21 x32 x33 x34 t37
def rex_reader_brackets_l3 (k : Nat) (t2 : (Bool × S49)) : Nat → ByteArray → Int → Int → (Vector Int 4) → Option ((List S40) × Bool × S49)
  | 0, _, _, _, _ => none
  | j + 1, x17, x18, x19, x20 =>
    (rex_reader_end k (S49.mk x17 x18 x19) (ByteArray.mk #[93])).bind fun t23 =>
    if (!t23) = true then (rex_reader_end k (S49.mk x17 x18 x19) (ByteArray.mk #[94, 45, 47, 34])).bind fun t26 =>
    if t26 = true then some ([], false, (S49.mk x17 x18 x19))
    else (rex_reader_byte k (S49.mk x17 x18 x19)).bind fun t29 =>
    if (!t29.2.1) = true then some ([], false, t29.2.2)
    else (rex_reader_eat k t29.2.2 (45 : Int)).bind fun t38 =>
    if t38.1 = true then (rex_reader_end k t38.2 (ByteArray.mk #[93, 94, 45, 47, 34])).bind fun t41 =>
    if t41 = true then some ([], false, t38.2)
    else (rex_reader_byte k t38.2).bind fun t44 =>
    Option.bind (α := Bool) (if (!t44.2.1) = true then some (true)
    else some (decide (t44.1 < t29.1))) fun b46 =>
    if b46 = true then some ([], false, t44.2.2)
    else rex_reader_brackets_c2 k (rex_reader_brackets_l3 k t2 j) x20 t29 t44.2.2.f0 t44.2.2.f1 t44.2.2.f2 t44.1
    else rex_reader_brackets_c2 k (rex_reader_brackets_l3 k t2 j) x20 t29 t38.2.f0 t38.2.f1 t38.2.f2 t29.1
    else rex_reader_brackets_c1 k t2 x17 x18 x19 x20
def rex_reader_brackets (k : Nat) (p0 : S49) : Option ((List S40) × Bool × S49) :=
  (rex_reader_eat k p0 (94 : Int)).bind fun t2 =>
  rex_reader_brackets_l3 k t2 k t2.2.f0 t2.2.f1 t2.2.f2 (Vector.replicate 4 (0 : Int))
theorem rex_reader_brackets_spec {k : Nat} {p0 : S49} {r : ((List S40) × Bool × S49)} (h : rex_reader_brackets k p0 = some r) {q0 : Nat} {T0 : Heap} : SpecH Tryd.prog 54 [(.ptr q0 0)] ((q0, (.mem (e49 p0))) :: T0) (fun x H' => x = .tup [(.fz 5 (r.1.map e40)), (eBool r.2.1)] ∧ Sub ((q0, (.mem (e49 r.2.2))) :: T0) H') := by
  rw [rex_reader_brackets.eq_1] at h
  refine SpecH.intro (res := [.tmp 2, .tmp 3]) Tryd.func54 rfl rfl rfl (Nat.le_of_ble_eq_true rfl) ?_
  refine AW.sr ?_
  refine AO.c (Calm.assign rfl rfl) ?_
  refine AO.c (Calm.assign rfl rfl) ?_
  refine AO.nK [0] ?_
  refine AW.sr ?_
  refine AO.c (Calm.move rfl rfl) ?_
  obtain ⟨t2, et2, h⟩ := of_bind h
  refine AO.callH [(.ptr q0 0), (eU8 (94 : Int))] ((q0, (.mem (e49 p0))) :: T0) _ rfl rfl rfl 10 rfl (by decide) ok31 ⟨rfl, rfl, rfl, rfl, trivial⟩ (Sub.cons 0 rfl (Sub.refl _)) (rex_reader_eat_spec et2) ?_
  rintro _ _ ⟨rfl, hs3⟩
  refine AO.wH [0, 9, 10] hs3 ?_
  refine AO.c (Calm.assign rfl rfl) ?_
  refine AO.nK [0, 4] ?_
  refine AW.sr ?_
  refine AO.alloc rfl 5 rfl (by decide) rfl zr38 lay38 fun n4 => ?_
  refine AO.nH [0, 4, 5] (H' := ((q0, (.mem (e49 t2.2))) :: (n4, (.mem (.ar 1 ((Vector.replicate 4 (0 : Int)).toList.map eU64)))) :: T0)) (Sub.cons 1 rfl (Sub.cons 0 rfl (Sub.refl _))) ?_
  refine AW.seq_mid (fun ρ H => ∃ (x5 : ByteArray) (x6 : Int) (x7 : Int) (x8 : (Vector Int 4)), ρ = [(0, (.ptr q0 0)), (4, (eBool t2.1)), (5, (.ptr n4 0))] ∧ H = ((q0, (.mem (.st [(1, (eStr x5)), (1, (eI64 x6)), (1, (eI64 x7))]))) :: (n4, (.mem (.ar 1 (x8.toList.map eU64)))) :: T0) ∧ rex_reader_brackets_c1 k t2 x5 x6 x7 x8 = some r) ?_ ?_
  ·refine AW.block ?_
   refine AW.wK [0, 4, 5] ?_
   refine AW.loop (fun kq ρ H => ∃ (x17 : ByteArray) (x18 : Int) (x19 : Int) (x20 : (Vector Int 4)), ρ = [(0, (.ptr q0 0)), (4, (eBool t2.1)), (5, (.ptr n4 0))] ∧ H = ((q0, (.mem (.st [(1, (eStr x17)), (1, (eI64 x18)), (1, (eI64 x19))]))) :: (n4, (.mem (.ar 1 (x20.toList.map eU64)))) :: T0) ∧ rex_reader_brackets_l3 k t2 kq x17 x18 x19 x20 = some r) k ⟨t2.2.f0, t2.2.f1, t2.2.f2, (Vector.replicate 4 (0 : Int)), rfl, rfl, h⟩ ?_
   rintro kq22 _ _ ⟨x17, x18, x19, x20, rfl, rfl, h⟩
   cases kq22 with
   | zero => rw [rex_reader_brackets_l3.eq_1] at h; cases h
   | succ kq22 =>
   rw [rex_reader_brackets_l3.eq_2] at h
   generalize hrec21 : rex_reader_brackets_l3 k t2 kq22 = rec21 at h
   refine AW.seq ?_
   refine AW.sr ?_
   refine AO.c (Calm.move rfl rfl) ?_
   obtain ⟨t23, et23, h⟩ := of_bind h
   refine AO.callH [(.ptr q0 0), (eStr (ByteArray.mk #[93]))] ((q0, (.mem (e49 (S49.mk x17 x18 x19)))) :: (n4, (.mem (.ar 1 (x20.toList.map eU64)))) :: T0) _ rfl rfl rfl 12 rfl (by decide) ok44 ⟨rfl, rfl, rfl, rfl, trivial⟩ (Sub.cons 0 rfl (Sub.refl _)) (rex_reader_end_spec et23) ?_
   rintro _ _ ⟨rfl, hs24⟩
   refine AO.wH [0, 4, 5, 11, 12] hs24 ?_
   refine AO.c (Calm.not rfl rfl) ?_
   refine AO.nK [0, 4, 5, 13] ?_
   rcases of_ite h with ⟨hc25, h⟩ | ⟨hc25, h⟩
   ·refine AW.condT' _ rfl hc25 ?_
    refine AW.sK [0, 4, 5] ?_
    refine AW.block ?_
    refine AW.seq ?_
    refine AW.sr ?_
    refine AO.c (Calm.move rfl rfl) ?_
    obtain ⟨t26, et26, h⟩ := of_bind h
    refine AO.callH [(.ptr q0 0), (eStr (ByteArray.mk #[94, 45, 47, 34]))] ((q0, (.mem (e49 (S49.mk x17 x18 x19)))) :: (n4, (.mem (.ar 1 (x20.toList.map eU64)))) :: T0) _ rfl rfl rfl 15 rfl (by decide) ok44 ⟨rfl, rfl, rfl, rfl, trivial⟩ (Sub.cons 0 rfl (Sub.refl _)) (rex_reader_end_spec et26) ?_
    rintro _ _ ⟨rfl, hs27⟩
    refine AO.wH [0, 4, 5, 14, 15] hs27 ?_
    refine AO.nK [0, 4, 5, 15] ?_
    rcases of_ite h with ⟨hc28, h⟩ | ⟨hc28, h⟩
    ·refine AW.condT' _ rfl hc28 ?_
     refine AW.sr ?_
     refine AO.c (Calm.assign rfl rfl) ?_
     refine AO.c (Calm.assign rfl rfl) ?_
     refine AO.nH [2, 3] (H' := ((q0, (.mem (.st [(1, (eStr x17)), (1, (eI64 x18)), (1, (eI64 x19))]))) :: T0)) (Sub.cons 0 rfl (Sub.drop (Sub.refl _))) ?_
     refine AW.coeC 2 (y' := (.fz 5 (([] : List S40).map e40))) rfl Coe.nil ?_
     refine AW.rK [2, 3] ?_
     have hr := Option.some.inj h
     subst hr
     exact ⟨[(.fz 5 (([] : List S40).map e40)), (eBool false)], ⟨rfl, rfl, rfl, rfl, trivial⟩, rfl, (Sub.cons 0 rfl (Sub.refl _))⟩
    ·refine AW.condF' _ rfl hc28 ?_
     refine AW.sK [0, 4, 5] ?_
     refine AW.sr ?_
     refine AO.c (Calm.move rfl rfl) ?_
     obtain ⟨t29, et29, h⟩ := of_bind h
     refine AO.callH [(.ptr q0 0)] ((q0, (.mem (e49 (S49.mk x17 x18 x19)))) :: (n4, (.mem (.ar 1 (x20.toList.map eU64)))) :: T0) _ rfl rfl rfl 18 rfl (by decide) ok55 ⟨rfl, rfl, trivial⟩ (Sub.cons 0 rfl (Sub.refl _)) (rex_reader_byte_spec et29) ?_
     rintro _ _ ⟨rfl, hs30⟩
     refine AO.wH [0, 4, 5, 17, 18] hs30 ?_
     refine AO.c (Calm.move rfl rfl) ?_
     refine AO.c (Calm.extract rfl rfl rfl) ?_
     refine AO.c (Calm.extract rfl rfl rfl) ?_
     refine AO.c (Calm.assign rfl rfl) ?_
     refine AO.c (Calm.assign rfl rfl) ?_
     refine AO.nK [0, 4, 5, 6, 7] ?_
     refine AW.seq ?_
     refine AW.sr ?_
     refine AO.c (Calm.move rfl rfl) ?_
     refine AO.c (Calm.not rfl rfl) ?_
     refine AO.nK [0, 4, 5, 6, 22] ?_
     rcases of_ite h with ⟨hc31, h⟩ | ⟨hc31, h⟩
     ·refine AW.condT' _ rfl hc31 ?_
      refine AW.sr ?_
      refine AO.c (Calm.assign rfl rfl) ?_
      refine AO.c (Calm.assign rfl rfl) ?_
      refine AO.nH [2, 3] (H' := ((q0, (.mem (e49 t29.2.2))) :: T0)) (Sub.cons 0 rfl (Sub.drop (Sub.refl _))) ?_
      refine AW.coeC 2 (y' := (.fz 5 (([] : List S40).map e40))) rfl Coe.nil ?_
      refine AW.rK [2, 3] ?_
      have hr := Option.some.inj h
      subst hr
      exact ⟨[(.fz 5 (([] : List S40).map e40)), (eBool false)], ⟨rfl, rfl, rfl, rfl, trivial⟩, rfl, (Sub.cons 0 rfl (Sub.refl _))⟩
     ·refine AW.condF' _ rfl hc31 ?_
      refine AW.sK [0, 4, 5, 6] ?_
      refine AW.sr ?_
      refine AO.c (Calm.move rfl rfl) ?_
      refine AO.c (Calm.assign rfl rfl) ?_
      refine AO.nK [0, 4, 5, 6, 8] ?_
      refine AW.seq_mid (fun ρ H => ∃ (x32 : ByteArray) (x33 : Int) (x34 : Int) (x35 : Int), ρ = [(0, (.ptr q0 0)), (4, (eBool t2.1)), (5, (.ptr n4 0)), (6, (eU8 t29.1)), (8, (eU8 x35))] ∧ H = ((q0, (.mem (.st [(1, (eStr x32)), (1, (eI64 x33)), (1, (eI64 x34))]))) :: (n4, (.mem (.ar 1 (x20.toList.map eU64)))) :: T0) ∧ rex_reader_brackets_c2 k rec21 x20 t29 x32 x33 x34 x35 = some r) ?_ ?_
      ·refine AW.sr ?_
       refine AO.c (Calm.move rfl rfl) ?_
       obtain ⟨t38, et38, h⟩ := of_bind h
       refine AO.callH [(.ptr q0 0), (eU8 (45 : Int))] ((q0, (.mem (e49 t29.2.2))) :: (n4, (.mem (.ar 1 (x20.toList.map eU64)))) :: T0) _ rfl rfl rfl 25 rfl (by decide) ok31 ⟨rfl, rfl, rfl, rfl, trivial⟩ (Sub.cons 0 rfl (Sub.refl _)) (rex_reader_eat_spec et38) ?_
       rintro _ _ ⟨rfl, hs39⟩
       refine AO.wH [0, 4, 5, 6, 8, 24, 25] hs39 ?_
       refine AO.nK [0, 4, 5, 6, 8, 25] ?_
       rcases of_ite h with ⟨hc40, h⟩ | ⟨hc40, h⟩
       ·refine AW.condT' _ rfl hc40 ?_
        refine AW.seq ?_
        refine AW.sr ?_
        refine AO.c (Calm.move rfl rfl) ?_
        obtain ⟨t41, et41, h⟩ := of_bind h
        refine AO.callH [(.ptr q0 0), (eStr (ByteArray.mk #[93, 94, 45, 47, 34]))] ((q0, (.mem (e49 t38.2))) :: (n4, (.mem (.ar 1 (x20.toList.map eU64)))) :: T0) _ rfl rfl rfl 27 rfl (by decide) ok44 ⟨rfl, rfl, rfl, rfl, trivial⟩ (Sub.cons 0 rfl (Sub.refl _)) (rex_reader_end_spec et41) ?_
        rintro _ _ ⟨rfl, hs42⟩
        refine AO.wH [0, 4, 5, 6, 8, 25, 26, 27] hs42 ?_
        refine AO.nK [0, 4, 5, 6, 27] ?_
        rcases of_ite h with ⟨hc43, h⟩ | ⟨hc43, h⟩
        ·refine AW.condT' _ rfl hc43 ?_
         refine AW.sr ?_
         refine AO.c (Calm.assign rfl rfl) ?_
         refine AO.c (Calm.assign rfl rfl) ?_
         refine AO.nH [2, 3] (H' := ((q0, (.mem (e49 t38.2))) :: T0)) (Sub.cons 0 rfl (Sub.drop (Sub.refl _))) ?_
         refine AW.coeC 2 (y' := (.fz 5 (([] : List S40).map e40))) rfl Coe.nil ?_
         refine AW.rK [2, 3] ?_
         have hr := Option.some.inj h
         subst hr
         exact ⟨[(.fz 5 (([] : List S40).map e40)), (eBool false)], ⟨rfl, rfl, rfl, rfl, trivial⟩, rfl, (Sub.cons 0 rfl (Sub.refl _))⟩
        ·refine AW.condF' _ rfl hc43 ?_
         refine AW.sK [0, 4, 5, 6] ?_
         refine AW.sr ?_
         refine AO.c (Calm.move rfl rfl) ?_
         obtain ⟨t44, et44, h⟩ := of_bind h
         refine AO.callH [(.ptr q0 0)] ((q0, (.mem (e49 t38.2))) :: (n4, (.mem (.ar 1 (x20.toList.map eU64)))) :: T0) _ rfl rfl rfl 30 rfl (by decide) ok55 ⟨rfl, rfl, trivial⟩ (Sub.cons 0 rfl (Sub.refl _)) (rex_reader_byte_spec et44) ?_
         rintro _ _ ⟨rfl, hs45⟩
         refine AO.wH [0, 4, 5, 6, 29, 30] hs45 ?_
         refine AO.c (Calm.move rfl rfl) ?_
         refine AO.c (Calm.extract rfl rfl rfl) ?_
         refine AO.c (Calm.extract rfl rfl rfl) ?_
         refine AO.c (Calm.assign rfl rfl) ?_
         refine AO.c (Calm.assign rfl rfl) ?_
         refine AO.nK [0, 4, 5, 6, 7, 8] ?_
         refine AW.seq ?_
         obtain ⟨b46, hq47, h⟩ := of_bind h
         refine AW.regM [(0, (.ptr q0 0)), (4, (eBool t2.1)), (5, (.ptr n4 0)), (6, (eU8 t29.1)), (8, (eU8 t44.1)), (39, (eBool b46))] ((q0, (.mem (e49 t44.2.2))) :: (n4, (.mem (.ar 1 (x20.toList.map eU64)))) :: T0) ?_ ?_
         ·refine AO.c (Calm.move rfl rfl) ?_
          refine AO.c (Calm.not rfl rfl) ?_
          refine AO.c (Calm.move rfl rfl) ?_
          rcases of_ite hq47 with ⟨hc48, hq47⟩ | ⟨hc48, hq47⟩
          ·refine AO.sF rfl rfl (bD hc48) ?_
           refine AO.sF rfl rfl (bD hc48) ?_
           refine AO.sF rfl rfl (bD hc48) ?_
           refine AO.c (Calm.pickT rfl (bD hc48) rfl) ?_
           cases hq47
           refine AO.nilE ⟨rfl, rfl⟩ ?_ ?_
           · exact ⟨rfl, rfl, rfl, rfl, rfl, rfl, trivial⟩
           · exact (Sub.refl _)
          ·refine AO.cG rfl rfl (bD (eq_false_of_ne_true hc48)) (Calm.move rfl rfl) ?_
           refine AO.cG rfl rfl (bD (eq_false_of_ne_true hc48)) (Calm.move rfl rfl) ?_
           refine AO.cG (x := eBool (decide (t44.1 < t29.1))) rfl rfl (bD (eq_false_of_ne_true hc48)) (Calm.int rfl rfl rfl rfl) ?_
           refine AO.c (Calm.pickF rfl (bD (eq_false_of_ne_true hc48)) rfl) ?_
           cases hq47
           refine AO.nilE ⟨rfl, rfl⟩ ?_ ?_
           · exact ⟨rfl, rfl, rfl, rfl, rfl, rfl, trivial⟩
           · exact (Sub.refl _)
         ·rcases of_ite h with ⟨hc49, h⟩ | ⟨hc49, h⟩
          ·refine AW.condT' _ rfl hc49 ?_
           refine AW.sr ?_
           refine AO.c (Calm.assign rfl rfl) ?_
           refine AO.c (Calm.assign rfl rfl) ?_
           refine AO.nH [2, 3] (H' := ((q0, (.mem (e49 t44.2.2))) :: T0)) (Sub.cons 0 rfl (Sub.drop (Sub.refl _))) ?_
           refine AW.coeC 2 (y' := (.fz 5 (([] : List S40).map e40))) rfl Coe.nil ?_
           refine AW.rK [2, 3] ?_
           have hr := Option.some.inj h
           subst hr
           exact ⟨[(.fz 5 (([] : List S40).map e40)), (eBool false)], ⟨rfl, rfl, rfl, rfl, trivial⟩, rfl, (Sub.cons 0 rfl (Sub.refl _))⟩
          ·refine AW.condF' _ rfl hc49 ?_
           refine AW.sK [0, 4, 5, 6, 8] ?_
           exact ⟨t44.2.2.f0, t44.2.2.f1, t44.2.2.f2, t44.1, rfl, rfl, h⟩
       ·refine AW.condF' _ rfl hc40 ?_
        refine AW.sK [0, 4, 5, 6, 8] ?_
        exact ⟨t38.2.f0, t38.2.f1, t38.2.f2, t29.1, rfl, rfl, h⟩
      ·rintro _ _ ⟨x32, x33, x34, x35, rfl, rfl, h⟩
       rw [rex_reader_brackets_c2.eq_1] at h
       obtain ⟨t36, et36, h⟩ := of_bind h
       obtain ⟨t37, et37, h⟩ := of_bind h
       refine AW.regAnyL rfl rfl (by rfl) (by decide +kernel) (by decide +kernel) [(.ar 1 (x20.toList.map eU64)), (eU8 t29.1), (eU8 x35), (.ar 1 (t36.toList.map eU64)), (.ar 1 (t37.toList.map eU64))] [(0, (.ptr q0 0)), (4, (eBool t2.1)), (5, (.ptr n4 0)), (6, (eU8 t29.1)), (8, (eU8 x35))] ⟨rfl, rfl, rfl, rfl, rfl, trivial⟩ rfl ?_ [(0, (.ptr q0 0)), (4, (eBool t2.1)), (5, (.ptr n4 0)), (44, (.ar 1 (t37.toList.map eU64)))] ⟨rfl, rfl, rfl, rfl, trivial⟩ ?_
       ·refine ⟨?_, ?_, ?_, ?_, ?_, trivial⟩
        ·refine AO.wK [5] ?_
         refine AO.c (Calm.load 1 rfl rfl rfl (At.cast At.here rfl) ag38 (by rw [sz38]; simp [AV.size])) ?_
         exact AO.nE (d := 40) rfl ⟨⟨_, rfl, rfl⟩, Sub.refl _⟩
        ·refine AO.wK [6] ?_
         refine AO.c (Calm.move rfl rfl) ?_
         exact AO.nE (d := 41) rfl ⟨⟨_, rfl, rfl⟩, Sub.refl _⟩
        ·refine AO.wK [8] ?_
         refine AO.c (Calm.move rfl rfl) ?_
         exact AO.nE (d := 42) rfl ⟨⟨_, rfl, rfl⟩, Sub.refl _⟩
        ·refine AO.wK [41, 42] ?_
         refine AO.callS [(eU8 t29.1), (eU8 x35)] (.ar 1 (t36.toList.map eU64)) 43 rfl (by decide) ok58 rfl rfl rfl ⟨rfl, rfl, rfl, rfl, trivial⟩ (byteset_Range_spec et36) ?_
         exact AO.nE (d := 43) rfl ⟨⟨_, rfl, rfl⟩, Sub.refl _⟩
        ·refine AO.wK [40, 43] ?_
         refine AO.callS [(.ar 1 (x20.toList.map eU64)), (.ar 1 (t36.toList.map eU64))] (.ar 1 (t37.toList.map eU64)) 44 rfl (by decide) ok57 rfl rfl rfl ⟨rfl, rfl, rfl, rfl, trivial⟩ (byteset_Or_spec et37) ?_
         exact AO.nE (d := 44) rfl ⟨⟨_, rfl, rfl⟩, Sub.refl _⟩
       ·refine AO.store (X' := (.ar 1 (t37.toList.map eU64))) 1 rfl rfl rfl rfl rfl rfl (Put.cast Put.here rfl) rfl (by simp [AV.size]) (by rw [sz38]; simp [AV.size]) rfl ?_
        refine AO.nK [0, 4, 5] ?_
        exact ⟨kq22, Nat.lt_succ_self _, x32, x33, x34, t37, rfl, rfl, by rw [hrec21]; exact h⟩
   ·refine AW.condF' _ rfl hc25 ?_
    refine AW.eK [0, 4, 5] ?_
    exact ⟨x17, x18, x19, x20, rfl, rfl, h⟩
  ·rintro _ _ ⟨x5, x6, x7, x8, rfl, rfl, h⟩
   rw [rex_reader_brackets_c1.eq_1] at h
   refine AW.seq_mid (fun ρ H => ∃ (x9 : (Vector Int 4)), ρ = [(0, (.ptr q0 0)), (5, (.ptr n4 0))] ∧ H = ((q0, (.mem (.st [(1, (eStr x5)), (1, (eI64 x6)), (1, (eI64 x7))]))) :: (n4, (.mem (.ar 1 (x9.toList.map eU64)))) :: T0) ∧ rex_reader_brackets_c0 k x5 x6 x7 x9 = some r) ?_ ?_
   ·refine AW.sr ?_
    refine AO.c (Calm.move rfl rfl) ?_
    refine AO.nK [0, 5, 45] ?_
    rcases of_ite h with ⟨hc15, h⟩ | ⟨hc15, h⟩
    ·refine AW.condT' _ rfl hc15 ?_
     refine AW.reg ?_
     refine AO.c (Calm.load 1 rfl rfl rfl (At.cast At.here rfl) ag38 (by rw [sz38]; simp [AV.size])) ?_
     obtain ⟨t16, et16, h⟩ := of_bind h
     refine AO.callS [(.ar 1 (x8.toList.map eU64))] (.ar 1 (t16.toList.map eU64)) 47 rfl (by decide) ok40 rfl rfl rfl ⟨rfl, rfl, trivial⟩ (byteset_Not_spec et16) ?_
     refine AO.store (X' := (.ar 1 (t16.toList.map eU64))) 1 rfl rfl rfl rfl rfl rfl (Put.cast Put.here rfl) rfl (by simp [AV.size]) (by rw [sz38]; simp [AV.size]) rfl ?_
     refine AO.nK [0, 5] ?_
     exact ⟨t16, rfl, rfl, h⟩
    ·refine AW.condF' _ rfl hc15 ?_
     refine AW.sK [0, 5] ?_
     exact ⟨x8, rfl, rfl, h⟩
   ·rintro _ _ ⟨x9, rfl, rfl, h⟩
    rw [rex_reader_brackets_c0.eq_1] at h
    refine AW.seq ?_
    obtain ⟨t11, et11, h⟩ := of_bind h
    rcases of_ite h with ⟨hc13, h⟩ | ⟨hc13, h⟩
    ·obtain ⟨t14, et14, h⟩ := of_bind h
     refine AW.regEff (by rfl) (by decide +kernel) (fun (σ : Nat → Nat) => ([(.ar 1 (x9.toList.map eU64)), (e40 (S40.mk (1 : Int) x9)), (.fz 5 (([(S40.mk (1 : Int) x9)] : List S40).map e40)), (.ptr q0 0), (eBool t11.1), (eBool t11.1), (.ar 1 (x9.toList.map eU64)), (eBool t14), (eBool (!t14)), (eBool (!t14)), (.fz 5 (([(S40.mk (1 : Int) x9)] : List S40).map e40)), (eBool (!t14))] : List AV)) (fun (L : Nat → Bool) (σ : Nat → Nat) => ((n4, (.mem (.ar 1 (x9.toList.map eU64)))) :: (bif L 4 then ((q0, (.mem (e49 t11.2))) :: T0) else ((q0, (.mem (.st [(1, (eStr x5)), (1, (eI64 x6)), (1, (eI64 x7))]))) :: T0)) : Heap)) [(0, (.ptr q0 0)), (5, (.ptr n4 0))] ⟨rfl, rfl, trivial⟩ (fun _ => rfl) (fun σ => (Sub.cons 1 rfl (Sub.cons 0 rfl (Sub.refl _)))) ⟨?_, ?_, ?_, ?_, ?_, ?_, ?_, ?_, ?_, ?_, ?_, ?_, trivial⟩ (fun σ => [(2, (.fz 5 (([(S40.mk (1 : Int) x9)] : List S40).map e40))), (3, (eBool (!t14)))]) (fun σ => ((n4, (.mem (.ar 1 (x9.toList.map eU64)))) :: (q0, (.mem (e49 t11.2))) :: T0)) (fun σ => ⟨rfl, rfl, trivial⟩) (fun σ => Sub.refl _) (fun σ => ?_)
     ·refine StepE.calm (fun _ _ => rfl) fun L σ hc hi hd => ?_
      refine AO.wK [5] ?_
      refine AO.c (Calm.load 0 rfl rfl rfl (At.cast At.here rfl) ag38 (by rw [sz38]; simp [AV.size])) ?_
      exact AO.nE (d := 48) rfl ⟨⟨48, _, rfl, rfl, rfl⟩, Sub.refl _⟩
     ·refine StepE.calm (fun _ _ => rfl) fun L σ hc hi hd => ?_
      refine AO.wK [48] ?_
      refine AO.c (x := .st [(1, (eI64 (1 : Int))), (4, (.ar 1 (x9.toList.map eU64)))]) (Calm.build (qs := [(0, (eI64 (1 : Int))), (1, (.ar 1 (x9.toList.map eU64)))]) rfl ⟨rfl, rfl, rfl, rfl, rfl, rfl, trivial⟩ Tryd.underlying40 rfl zr40 lay40 (.cons rfl rfl rfl rfl (Put.cast (Put.fld0 Put.here) rfl) (.cons rfl rfl (vec_size _ _) (vec_size _ _) (Put.cast (Put.fldS (Put.fld0 Put.here)) rfl) .nil)) rfl) ?_
      exact AO.nE (d := 49) rfl ⟨⟨49, _, rfl, rfl, rfl⟩, Sub.refl _⟩
     ·refine StepE.calm (fun _ _ => rfl) fun L σ hc hi hd => ?_
      refine AO.wK [49] ?_
      refine AO.lit (Z := (.st [(1, (eI64 (0 : Int))), (4, (.ar 1 ((Vector.replicate 4 (0 : Int)).toList.map eU64)))])) (xs := (([(S40.mk (1 : Int) x9)] : List S40).map e40)) (qs := [(0, (e40 (S40.mk (1 : Int) x9)))]) rfl 50 rfl (by decide) rfl ⟨rfl, rfl, rfl, trivial⟩ Tryd.underlying23 sz40 zr40 lay40 rfl (by decide) (litOK (z := 5) [(e40 (S40.mk (1 : Int) x9))] rfl ⟨⟨rfl, rfl⟩, trivial⟩) rfl fun n10 => ?_
      refine AO.freezeS 0 [(50, (.fz 5 (([(S40.mk (1 : Int) x9)] : List S40).map e40)))] rfl ⟨fz_all rfl, trivial⟩ ?_
      exact AO.nE (d := 50) rfl ⟨⟨50, _, rfl, rfl, rfl⟩, Sub.refl _⟩
     ·refine StepE.calm (fun _ _ => rfl) fun L σ hc hi hd => ?_
      have m4 : L 4 = false := hc.neg (i := 3) (j := 4) rfl (by rfl) hi
      refine AO.heq (H' := ((n4, (.mem (.ar 1 (x9.toList.map eU64)))) :: (q0, (.mem (.st [(1, (eStr x5)), (1, (eI64 x6)), (1, (eI64 x7))]))) :: T0)) (by first | rfl | simp only [m4, cond_true, cond_false]) ?_
      refine AO.wK [0] ?_
      refine AO.c (Calm.move rfl rfl) ?_
      exact AO.nE (d := 51) rfl ⟨⟨51, _, rfl, rfl, rfl⟩, Sub.of_eq (by first | rfl | simp only [m4, cond_true, cond_false]) (Sub.refl _)⟩
     ·intro L σ hc hi hd
      refine AO.heq (H' := ((n4, (.mem (.ar 1 (x9.toList.map eU64)))) :: (q0, (.mem (.st [(1, (eStr x5)), (1, (eI64 x6)), (1, (eI64 x7))]))) :: T0)) (by first | rfl | simp only [hi, cond_true, cond_false]) ?_
      refine AO.wK [51] ?_
      refine AO.callH [(.ptr q0 0), (eU8 (93 : Int))] ((q0, (.mem (e49 (S49.mk x5 x6 x7)))) :: (n4, (.mem (.ar 1 (x9.toList.map eU64)))) :: T0) _ rfl rfl rfl 52 rfl (by decide) ok31 ⟨rfl, rfl, rfl, rfl, trivial⟩ (Sub.cons 1 rfl (Sub.refl _)) (rex_reader_eat_spec et11) ?_
      rintro _ _ ⟨rfl, hs12⟩
      refine AO.wH [51, 52] hs12 ?_
      have a4 : addL L 4 4 = true := rfl
      exact AO.nE (d := 52) rfl ⟨σ, (fun _ _ => rfl), (fun d' hd' => ⟨_, rfl, by cases hd'; rfl⟩), Sub.of_eq (B := ((n4, (.mem (.ar 1 (x9.toList.map eU64)))) :: (q0, (.mem (e49 t11.2))) :: T0)) (by simp only [a4, cond_true, cond_false]) (Sub.cons 1 rfl (Sub.cons 0 rfl (Sub.refl _)))⟩
     ·refine StepE.calm (fun _ _ => rfl) fun L σ hc hi hd => ?_
      refine AO.wK [52] ?_
      refine AO.c (Calm.move rfl rfl) ?_
      exact AO.nE (d := 53) rfl ⟨⟨53, _, rfl, rfl, rfl⟩, Sub.refl _⟩
     ·refine StepE.calm (fun _ _ => rfl) fun L σ hc hi hd => ?_
      refine AO.wK [5, 53] ?_
      refine AO.cG rfl rfl (bD hc13) (Calm.load 0 rfl rfl rfl (At.cast At.here rfl) ag38 (by rw [sz38]; simp [AV.size])) ?_
      exact AO.nE (d := 54) rfl ⟨⟨54, _, rfl, rfl, rfl⟩, Sub.refl _⟩
     ·refine StepE.calm (fun _ _ => rfl) fun L σ hc hi hd => ?_
      refine AO.wK [53, 54] ?_
      refine AO.callG 5 true 53 [(.ar 1 (x9.toList.map eU64))] (eBool t14) 55 rfl (by decide) ok26 rfl rfl (bD hc13) rfl rfl ⟨rfl, rfl, trivial⟩ (byteset_Empty_spec et14) ?_
      exact AO.nE (d := 55) rfl ⟨⟨55, _, rfl, rfl, rfl⟩, Sub.refl _⟩
     ·refine StepE.calm (fun _ _ => rfl) fun L σ hc hi hd => ?_
      refine AO.wK [53, 55] ?_
      refine AO.cG rfl rfl (bD hc13) (Calm.not rfl rfl) ?_
      exact AO.nE (d := 56) rfl ⟨⟨56, _, rfl, rfl, rfl⟩, Sub.refl _⟩
     ·refine StepE.calm (fun _ _ => rfl) fun L σ hc hi hd => ?_
      refine AO.wK [53, 56] ?_
      refine AO.c (Calm.pickT rfl (bD hc13) rfl) ?_
      exact AO.nE (d := 57) rfl ⟨⟨57, _, rfl, rfl, rfl⟩, Sub.refl _⟩
     ·refine StepE.calm (fun _ _ => rfl) fun L σ hc hi hd => ?_
      refine AO.wK [50] ?_
      refine AO.c (Calm.assign rfl rfl) ?_
      exact AO.nE (d := 2) rfl ⟨⟨2, _, rfl, rfl, rfl⟩, Sub.refl _⟩
     ·refine StepE.calm (fun _ _ => rfl) fun L σ hc hi hd => ?_
      refine AO.wK [57] ?_
      refine AO.c (Calm.assign rfl rfl) ?_
      exact AO.nE (d := 3) rfl ⟨⟨3, _, rfl, rfl, rfl⟩, Sub.refl _⟩
     ·refine AO.nH [2, 3] (H' := ((q0, (.mem (e49 t11.2))) :: T0)) (Sub.cons 1 rfl (Sub.drop (Sub.refl _))) ?_
      refine AW.rK [2, 3] ?_
      have hr := Option.some.inj h
      subst hr
      exact ⟨[(.fz 5 (([(S40.mk (1 : Int) x9)] : List S40).map e40)), (eBool (!t14))], ⟨rfl, rfl, rfl, rfl, trivial⟩, rfl, (Sub.cons 0 rfl (Sub.refl _))⟩
    ·refine AW.regEff (by rfl) (by decide +kernel) (fun (σ : Nat → Nat) => ([(.ar 1 (x9.toList.map eU64)), (e40 (S40.mk (1 : Int) x9)), (.fz 5 (([(S40.mk (1 : Int) x9)] : List S40).map e40)), (.ptr q0 0), (eBool t11.1), (eBool t11.1), (.fl undef), (.fl undef), (.fl undef), (eBool false), (.fz 5 (([(S40.mk (1 : Int) x9)] : List S40).map e40)), (eBool false)] : List AV)) (fun (L : Nat → Bool) (σ : Nat → Nat) => ((n4, (.mem (.ar 1 (x9.toList.map eU64)))) :: (bif L 4 then ((q0, (.mem (e49 t11.2))) :: T0) else ((q0, (.mem (.st [(1, (eStr x5)), (1, (eI64 x6)), (1, (eI64 x7))]))) :: T0)) : Heap)) [(0, (.ptr q0 0)), (5, (.ptr n4 0))] ⟨rfl, rfl, trivial⟩ (fun _ => rfl) (fun σ => (Sub.cons 1 rfl (Sub.cons 0 rfl (Sub.refl _)))) ⟨?_, ?_, ?_, ?_, ?_, ?_, ?_, ?_, ?_, ?_, ?_, ?_, trivial⟩ (fun σ => [(2, (.fz 5 (([(S40.mk (1 : Int) x9)] : List S40).map e40))), (3, (eBool false))]) (fun σ => ((n4, (.mem (.ar 1 (x9.toList.map eU64)))) :: (q0, (.mem (e49 t11.2))) :: T0)) (fun σ => ⟨rfl, rfl, trivial⟩) (fun σ => Sub.refl _) (fun σ => ?_)
     ·refine StepE.calm (fun _ _ => rfl) fun L σ hc hi hd => ?_
      refine AO.wK [5] ?_
      refine AO.c (Calm.load 0 rfl rfl rfl (At.cast At.here rfl) ag38 (by rw [sz38]; simp [AV.size])) ?_
      exact AO.nE (d := 48) rfl ⟨⟨48, _, rfl, rfl, rfl⟩, Sub.refl _⟩
     ·refine StepE.calm (fun _ _ => rfl) fun L σ hc hi hd => ?_
      refine AO.wK [48] ?_
      refine AO.c (x := .st [(1, (eI64 (1 : Int))), (4, (.ar 1 (x9.toList.map eU64)))]) (Calm.build (qs := [(0, (eI64 (1 : Int))), (1, (.ar 1 (x9.toList.map eU64)))]) rfl ⟨rfl, rfl, rfl, rfl, rfl, rfl, trivial⟩ Tryd.underlying40 rfl zr40 lay40 (.cons rfl rfl rfl rfl (Put.cast (Put.fld0 Put.here) rfl) (.cons rfl rfl (vec_size _ _) (vec_size _ _) (Put.cast (Put.fldS (Put.fld0 Put.here)) rfl) .nil)) rfl) ?_
      exact AO.nE (d := 49) rfl ⟨⟨49, _, rfl, rfl, rfl⟩, Sub.refl _⟩
     ·refine StepE.calm (fun _ _ => rfl) fun L σ hc hi hd => ?_
      refine AO.wK [49] ?_
      refine AO.lit (Z := (.st [(1, (eI64 (0 : Int))), (4, (.ar 1 ((Vector.replicate 4 (0 : Int)).toList.map eU64)))])) (xs := (([(S40.mk (1 : Int) x9)] : List S40).map e40)) (qs := [(0, (e40 (S40.mk (1 : Int) x9)))]) rfl 50 rfl (by decide) rfl ⟨rfl, rfl, rfl, trivial⟩ Tryd.underlying23 sz40 zr40 lay40 rfl (by decide) (litOK (z := 5) [(e40 (S40.mk (1 : Int) x9))] rfl ⟨⟨rfl, rfl⟩, trivial⟩) rfl fun n10 => ?_
      refine AO.freezeS 0 [(50, (.fz 5 (([(S40.mk (1 : Int) x9)] : List S40).map e40)))] rfl ⟨fz_all rfl, trivial⟩ ?_
      exact AO.nE (d := 50) rfl ⟨⟨50, _, rfl, rfl, rfl⟩, Sub.refl _⟩
     ·refine StepE.calm (fun _ _ => rfl) fun L σ hc hi hd => ?_
      have m4 : L 4 = false := hc.neg (i := 3) (j := 4) rfl (by rfl) hi
      refine AO.heq (H' := ((n4, (.mem (.ar 1 (x9.toList.map eU64)))) :: (q0, (.mem (.st [(1, (eStr x5)), (1, (eI64 x6)), (1, (eI64 x7))]))) :: T0)) (by first | rfl | simp only [m4, cond_true, cond_false]) ?_
      refine AO.wK [0] ?_
      refine AO.c (Calm.move rfl rfl) ?_
      exact AO.nE (d := 51) rfl ⟨⟨51, _, rfl, rfl, rfl⟩, Sub.of_eq (by first | rfl | simp only [m4, cond_true, cond_false]) (Sub.refl _)⟩
     ·intro L σ hc hi hd
      refine AO.heq (H' := ((n4, (.mem (.ar 1 (x9.toList.map eU64)))) :: (q0, (.mem (.st [(1, (eStr x5)), (1, (eI64 x6)), (1, (eI64 x7))]))) :: T0)) (by first | rfl | simp only [hi, cond_true, cond_false]) ?_
      refine AO.wK [51] ?_
      refine AO.callH [(.ptr q0 0), (eU8 (93 : Int))] ((q0, (.mem (e49 (S49.mk x5 x6 x7)))) :: (n4, (.mem (.ar 1 (x9.toList.map eU64)))) :: T0) _ rfl rfl rfl 52 rfl (by decide) ok31 ⟨rfl, rfl, rfl, rfl, trivial⟩ (Sub.cons 1 rfl (Sub.refl _)) (rex_reader_eat_spec et11) ?_
      rintro _ _ ⟨rfl, hs12⟩
      refine AO.wH [51, 52] hs12 ?_
      have a4 : addL L 4 4 = true := rfl
      exact AO.nE (d := 52) rfl ⟨σ, (fun _ _ => rfl), (fun d' hd' => ⟨_, rfl, by cases hd'; rfl⟩), Sub.of_eq (B := ((n4, (.mem (.ar 1 (x9.toList.map eU64)))) :: (q0, (.mem (e49 t11.2))) :: T0)) (by simp only [a4, cond_true, cond_false]) (Sub.cons 1 rfl (Sub.cons 0 rfl (Sub.refl _)))⟩
     ·refine StepE.calm (fun _ _ => rfl) fun L σ hc hi hd => ?_
      refine AO.wK [52] ?_
      refine AO.c (Calm.move rfl rfl) ?_
      exact AO.nE (d := 53) rfl ⟨⟨53, _, rfl, rfl, rfl⟩, Sub.refl _⟩
     ·refine StepE.calm (fun _ _ => rfl) fun L σ hc hi hd => ?_
      refine AO.wK [53] ?_
      refine AO.sT rfl rfl (bD (eq_false_of_ne_true hc13)) ?_
      exact AO.nE (d := 54) rfl ⟨⟨54, _, rfl, rfl, rfl⟩, Sub.refl _⟩
     ·refine StepE.calm (fun _ _ => rfl) fun L σ hc hi hd => ?_
      refine AO.wK [53] ?_
      refine AO.sT rfl rfl (bD (eq_false_of_ne_true hc13)) ?_
      exact AO.nE (d := 55) rfl ⟨⟨55, _, rfl, rfl, rfl⟩, Sub.refl _⟩
     ·refine StepE.calm (fun _ _ => rfl) fun L σ hc hi hd => ?_
      refine AO.wK [53] ?_
      refine AO.sT rfl rfl (bD (eq_false_of_ne_true hc13)) ?_
      exact AO.nE (d := 56) rfl ⟨⟨56, _, rfl, rfl, rfl⟩, Sub.refl _⟩
     ·refine StepE.calm (fun _ _ => rfl) fun L σ hc hi hd => ?_
      refine AO.wK [53, 56] ?_
      refine AO.c (Calm.pickF rfl (bD (eq_false_of_ne_true hc13)) rfl) ?_
      exact AO.nE (d := 57) rfl ⟨⟨57, _, rfl, rfl, rfl⟩, Sub.refl _⟩
     ·refine StepE.calm (fun _ _ => rfl) fun L σ hc hi hd => ?_
      refine AO.wK [50] ?_
      refine AO.c (Calm.assign rfl rfl) ?_
      exact AO.nE (d := 2) rfl ⟨⟨2, _, rfl, rfl, rfl⟩, Sub.refl _⟩
     ·refine StepE.calm (fun _ _ => rfl) fun L σ hc hi hd => ?_
      refine AO.wK [57] ?_
      refine AO.c (Calm.assign rfl rfl) ?_
      exact AO.nE (d := 3) rfl ⟨⟨3, _, rfl, rfl, rfl⟩, Sub.refl _⟩
     ·refine AO.nH [2, 3] (H' := ((q0, (.mem (e49 t11.2))) :: T0)) (Sub.cons 1 rfl (Sub.drop (Sub.refl _))) ?_
      refine AW.rK [2, 3] ?_
      have hr := Option.some.inj h
      subst hr
      exact ⟨[(.fz 5 (([(S40.mk (1 : Int) x9)] : List S40).map e40)), (eBool false)], ⟨rfl, rfl, rfl, rfl, trivial⟩, rfl, (Sub.cons 0 rfl (Sub.refl _))⟩
end Go.Avl.TE
/- bosket/byteset.Of; printed by avmain.py. -/
namespace Go.Avl.TE
open Go Go.RowKit Go.Proofs Go.Avl
set_option linter.unusedVariables false
set_option maxRecDepth 100000
set_option maxHeartbeats 4000000
attribute [local irreducible] AW AO AQ Spec SpecH Calm

def byteset_Of_c0 (k : Nat) (x4 : (Vector Int 4)) : Option (Vector Int 4) :=
  some (x4)
def byteset_Of_l1 (k : Nat) (p0 : (List Int)) : Nat → (Vector Int 4) → Int → Option (Vector Int 4)
  | 0, _, _ => none
  | j + 1, x5, x6 =>
    if x6 < (p0.length : Int) then if 0 ≤ x6 ∧ x6 < (p0.length : Int) then if 0 ≤ (IntKind.u8.wrap ((lget p0 x6).tdiv (64 : Int))) ∧ (IntKind.u8.wrap ((lget p0 x6).tdiv (64 : Int))) < (4 : Int) then if 0 ≤ ((lget p0 x6).tmod (64 : Int)) then if 0 ≤ (IntKind.u8.wrap ((lget p0 x6).tdiv (64 : Int))) ∧ (IntKind.u8.wrap ((lget p0 x6).tdiv (64 : Int))) < (4 : Int) then (byteset_Of_l1 k p0 j) (vset x5 (IntKind.u8.wrap ((lget p0 x6).tdiv (64 : Int))) (bits .or .u64 (vget x5 (IntKind.u8.wrap ((lget p0 x6).tdiv (64 : Int)))) (IntKind.u64.wrap ((1 : Int) * 2 ^ (min ((lget p0 x6).tmod (64 : Int)).toNat IntKind.u64.bits))))) (w64 (x6 + (1 : Int)))
    else none
    else none
    else none
    else none
    else byteset_Of_c0 k x5
def byteset_Of (k : Nat) (p0 : (List Int)) : Option (Vector Int 4) :=
  byteset_Of_l1 k p0 k (Vector.replicate 4 (0 : Int)) (0 : Int)
theorem byteset_Of_spec {k : Nat} {p0 : (List Int)} {r : (Vector Int 4)} (h : byteset_Of k p0 = some r) : Spec Tryd.prog 56 [(.fz 1 (p0.map eU8))] (e38 r) := by
  rw [byteset_Of.eq_1] at h
  refine Spec.intro (res := [.cell 2 38]) Tryd.func56 rfl rfl rfl (Nat.le_of_ble_eq_true rfl) ?_
  refine AW.sr ?_
  refine AO.alloc rfl 2 rfl (by decide) rfl zr38 lay38 fun n2 => ?_
  refine AO.nK [0, 2] ?_
  refine AW.sr ?_
  refine AO.alloc rfl 3 rfl (by decide) rfl zr38 lay38 fun n3 => ?_
  refine AO.nH [0, 2, 3] (H' := [(n2, (.mem (.ar 1 ((Vector.replicate 4 (0 : Int)).toList.map eU64)))), (n3, (.mem (.ar 1 ((Vector.replicate 4 (0 : Int)).toList.map eU64))))]) (Sub.cons 1 rfl (Sub.cons 0 rfl (Sub.nil _))) ?_
  refine AW.seq_mid (fun ρ H => ∃ (x4 : (Vector Int 4)), ρ = [(2, (.ptr n2 0)), (3, (.ptr n3 0))] ∧ H = [(n2, (.mem (.ar 1 ((Vector.replicate 4 (0 : Int)).toList.map eU64)))), (n3, (.mem (.ar 1 (x4.toList.map eU64))))] ∧ byteset_Of_c0 k x4 = some r) ?_ ?_
  ·refine AW.sr ?_
   refine AO.c (Calm.move rfl rfl) ?_
   refine AO.c (Calm.lenL rfl rfl Tryd.underlying60) ?_
   refine AO.c (Calm.move rfl rfl) ?_
   refine AO.nK [2, 3, 6, 7, 8] ?_
   refine AW.block ?_
   refine AW.wK [2, 3, 6, 7, 8] ?_
   refine AW.loop (fun kq ρ H => ∃ (x5 : (Vector Int 4)) (x6 : Int), ρ = [(2, (.ptr n2 0)), (3, (.ptr n3 0)), (6, (.fz 1 (p0.map eU8))), (7, (eI64 (p0.length : Int))), (8, (eI64 x6))] ∧ H = [(n2, (.mem (.ar 1 ((Vector.replicate 4 (0 : Int)).toList.map eU64)))), (n3, (.mem (.ar 1 (x5.toList.map eU64))))] ∧ byteset_Of_l1 k p0 kq x5 x6 = some r) k ⟨(Vector.replicate 4 (0 : Int)), (0 : Int), rfl, rfl, h⟩ ?_
   rintro kq8 _ _ ⟨x5, x6, rfl, rfl, h⟩
   cases kq8 with
   | zero => rw [byteset_Of_l1.eq_1] at h; cases h
   | succ kq8 =>
   rw [byteset_Of_l1.eq_2] at h
   generalize hrec7 : byteset_Of_l1 k p0 kq8 = rec7 at h
   refine AW.sr ?_
   refine AO.c (x := eBool (decide (x6 < (p0.length : Int)))) (Calm.int rfl rfl rfl rfl) ?_
   refine AO.nK [2, 3, 6, 7, 8, 9] ?_
   refine AW.seq ?_
   rcases of_ite h with ⟨hc9, h⟩ | ⟨hc9, h⟩
   ·refine AW.condP _ rfl hc9 ?_
    refine AW.sK [2, 3, 6, 7, 8] ?_
    refine AW.seq ?_
    refine AW.block ?_
    refine AW.sr ?_
    obtain ⟨hg10, h⟩ := of_guard h
    refine AO.c (Calm.idxL (f := eU8) rfl rfl rfl hg10 Tryd.underlying60 sz5) ?_
    refine AO.c (Calm.loadRp rfl rfl ag5 sz5) ?_
    refine AO.c (Calm.assign rfl rfl) ?_
    refine AO.nK [2, 3, 5, 6, 7, 8] ?_
    refine AW.reg ?_
    refine AO.c (Calm.move rfl rfl) ?_
    refine AO.c (x := eU8 (IntKind.u8.wrap ((lget p0 x6).tdiv (64 : Int)))) (Calm.quo rfl rfl rfl (by decide)) ?_
    obtain ⟨hg11, h⟩ := of_guard h
    refine AO.c (Calm.idxP rfl rfl rfl hg11 Tryd.underlying38 sz36) ?_
    refine AO.c (Calm.load 1 rfl rfl rfl (At.cast (At.vidx (IntKind.u8.wrap ((lget p0 x6).tdiv (64 : Int))) hg11.1 hg11.2 At.here) (by omega)) ag36 sz36) ?_
    refine AO.c (Calm.move rfl rfl) ?_
    refine AO.c (x := eU8 ((lget p0 x6).tmod (64 : Int))) (Calm.rem rfl rfl rfl (by decide)) ?_
    obtain ⟨hg12, h⟩ := of_guard h
    refine AO.c (x := eU64 (IntKind.u64.wrap ((1 : Int) * 2 ^ (min ((lget p0 x6).tmod (64 : Int)).toNat IntKind.u64.bits)))) (Calm.shl rfl rfl rfl hg12) ?_
    refine AO.c (x := eU64 (bits .or .u64 (vget x5 (IntKind.u8.wrap ((lget p0 x6).tdiv (64 : Int)))) (IntKind.u64.wrap ((1 : Int) * 2 ^ (min ((lget p0 x6).tmod (64 : Int)).toNat IntKind.u64.bits))))) (Calm.int rfl rfl rfl rfl) ?_
    obtain ⟨hg13, h⟩ := of_guard h
    refine AO.c (Calm.idxP rfl rfl rfl hg13 Tryd.underlying38 sz36) ?_
    refine AO.store (X' := (.ar 1 ((vset x5 (IntKind.u8.wrap ((lget p0 x6).tdiv (64 : Int))) (bits .or .u64 (vget x5 (IntKind.u8.wrap ((lget p0 x6).tdiv (64 : Int)))) (IntKind.u64.wrap ((1 : Int) * 2 ^ (min ((lget p0 x6).tmod (64 : Int)).toNat IntKind.u64.bits))))).toList.map eU64))) 1 rfl rfl rfl rfl rfl rfl (Put.cast (Put.vidx (IntKind.u8.wrap ((lget p0 x6).tdiv (64 : Int))) (bits .or .u64 (vget x5 (IntKind.u8.wrap ((lget p0 x6).tdiv (64 : Int)))) (IntKind.u64.wrap ((1 : Int) * 2 ^ (min ((lget p0 x6).tmod (64 : Int)).toNat IntKind.u64.bits)))) hg13.1 hg13.2 Put.here) (by omega)) rfl rfl sz36 rfl ?_
    refine AO.nK [2, 3, 6, 7, 8] ?_
    refine AW.reg ?_
    refine AO.c (x := eI64 (w64 (x6 + (1 : Int)))) (Calm.int rfl rfl rfl rfl) ?_
    refine AO.c (Calm.move rfl rfl) ?_
    refine AO.nK [2, 3, 6, 7, 8] ?_
    exact ⟨kq8, Nat.lt_succ_self _, (vset x5 (IntKind.u8.wrap ((lget p0 x6).tdiv (64 : Int))) (bits .or .u64 (vget x5 (IntKind.u8.wrap ((lget p0 x6).tdiv (64 : Int)))) (IntKind.u64.wrap ((1 : Int) * 2 ^ (min ((lget p0 x6).tmod (64 : Int)).toNat IntKind.u64.bits))))), (w64 (x6 + (1 : Int))), rfl, rfl, by rw [hrec7]; exact h⟩
   ·refine AW.condN _ rfl hc9 ?_
    refine AW.eK [2, 3] ?_
    exact ⟨x5, rfl, rfl, h⟩
  ·rintro _ _ ⟨x4, rfl, rfl, h⟩
   rw [byteset_Of_c0.eq_1] at h
   refine AW.sr ?_
   refine AO.c (Calm.load 1 rfl rfl rfl (At.cast At.here rfl) ag38 (by rw [sz38]; simp [AV.size])) ?_
   refine AO.store (X' := (.ar 1 (x4.toList.map eU64))) 0 rfl rfl rfl rfl rfl rfl (Put.cast Put.here rfl) rfl (by simp [AV.size]) (by rw [sz38]; simp [AV.size]) rfl ?_
   refine AO.nH [2] (H' := [(n2, (.mem (.ar 1 (x4.toList.map eU64))))]) (Sub.cons 0 rfl (Sub.nil _)) ?_
   refine AW.rK [2] ?_
   have hr := Option.some.inj h
   subst hr
   exact ⟨[(.ar 1 (x4.toList.map eU64))], ⟨⟨_, 0, rfl, rfl, ag38, (by rw [sz38]; simp [AV.size])⟩, trivial⟩, rfl⟩
end Go.Avl.TE
/- (*bosket/rex.reader).alt, (*bosket/rex.reader).cat, (*bosket/rex.reader).repeat, (*bosket/rex.reader).one; printed by avmain.py. -/
namespace Go.Avl.TE
open Go Go.RowKit Go.Proofs Go.Avl
set_option linter.unusedVariables false
set_option maxRecDepth 100000
set_option maxHeartbeats 4000000
attribute [local irreducible] AW AO AQ Spec SpecH Calm

def rex_reader_alt_c0 (k : Nat) (x4 : (List S40)) (b5 : Bool) (x6 : ByteArray) (x7 : Int) (x8 : Int) : Option ((List S40) × Bool × S49) :=
  some (x4, b5, (S49.mk x6 x7 x8))
def rex_reader_alt_l1 (k : Nat) (self30 : (S49 → Option ((List S40) × Bool × S49))) : Nat → ByteArray → Int → Int → (List S40) → Bool → Option ((List S40) × Bool × S49)
  | 0, _, _, _, _, _ => none
  | j + 1, x9, x10, x11, x12, b13 =>
    Option.bind (α := ByteArray × Int × Int × Bool) (if b13 = true then (rex_reader_eat k (S49.mk x9 x10 x11) (124 : Int)).bind fun t22 =>
    some (t22.2.f0, t22.2.f1, t22.2.f2, t22.1)
    else some (x9, x10, x11, false)) fun (x16, x17, x18, b19) =>
    if b19 = true then (self30 (S49.mk x16 x17 x18)).bind fun t25 =>
    (rex_Join k (3 : Int) [x12, t25.1]).bind fun t28 =>
    (rex_reader_alt_l1 k self30 j) t25.2.2.f0 t25.2.2.f1 t25.2.2.f2 t28 t25.2.1
    else rex_reader_alt_c0 k x12 b13 x16 x17 x18
def rex_reader_cat_c0 (k : Nat) (x4 : (List S40)) (b5 : Bool) (x6 : ByteArray) (x7 : Int) (x8 : Int) : Option ((List S40) × Bool × S49) :=
  some (x4, b5, (S49.mk x6 x7 x8))
def rex_reader_cat_l1 (k : Nat) (self43 : (S49 → Option ((List S40) × Bool × S49))) : Nat → ByteArray → Int → Int → (List S40) → Bool → Option ((List S40) × Bool × S49)
  | 0, _, _, _, _, _ => none
  | j + 1, x9, x10, x11, x12, b13 =>
    Option.bind (α := Bool) (if b13 = true then (rex_reader_end k (S49.mk x9 x10 x11) (ByteArray.mk #[124, 41])).bind fun t19 =>
    some (!t19)
    else some (false)) fun b16 =>
    if b16 = true then (self43 (S49.mk x9 x10 x11)).bind fun t22 =>
    (rex_Join k (2 : Int) [x12, t22.1]).bind fun t25 =>
    (rex_reader_cat_l1 k self43 j) t22.2.2.f0 t22.2.2.f1 t22.2.2.f2 t25 t22.2.1
    else rex_reader_cat_c0 k x12 b13 x9 x10 x11
def rex_reader_repeat_c0 (k : Nat) (x4 : ByteArray) (x5 : Int) (x6 : Int) : Option ((List S40) × Bool × S49) :=
  some ([], false, (S49.mk x4 x5 x6))
def rex_reader_repeat_l1 (k : Nat) (t2 : ((List S40) × Bool × S49)) : Nat → ByteArray → Int → Int → (List S40) → Option ((List S40) × Bool × S49)
  | 0, _, _, _, _ => none
  | j + 1, x7, x8, x9, x10 =>
    if t2.2.1 = true then (rex_reader_eat k (S49.mk x7 x8 x9) (42 : Int)).bind fun t14 =>
    if t14.1 = true then (rex_Join k (4 : Int) [x10]).bind fun t18 =>
    (rex_reader_repeat_l1 k t2 j) t14.2.f0 t14.2.f1 t14.2.f2 t18
    else (rex_reader_eat k t14.2 (43 : Int)).bind fun t19 =>
    if t19.1 = true then (rex_Join k (5 : Int) [x10]).bind fun t23 =>
    (rex_reader_repeat_l1 k t2 j) t19.2.f0 t19.2.f1 t19.2.f2 t23
    else (rex_reader_eat k t19.2 (63 : Int)).bind fun t24 =>
    if t24.1 = true then (rex_Join k (6 : Int) [x10]).bind fun t28 =>
    (rex_reader_repeat_l1 k t2 j) t24.2.f0 t24.2.f1 t24.2.f2 t28
    else some (x10, true, t24.2)
    else rex_reader_repeat_c0 k x7 x8 x9
mutual
def rex_reader_alt_r (k : Nat) : Nat → S49 → Option ((List S40) × Bool × S49)
  | 0, _ => none
  | j + 1, p0 =>
    ((rex_reader_cat_r k j) p0).bind fun t2 =>
    rex_reader_alt_l1 k (rex_reader_cat_r k j) k t2.2.2.f0 t2.2.2.f1 t2.2.2.f2 t2.1 t2.2.1
def rex_reader_cat_r (k : Nat) : Nat → S49 → Option ((List S40) × Bool × S49)
  | 0, _ => none
  | j + 1, p0 =>
    ((rex_reader_repeat_r k j) p0).bind fun t2 =>
    rex_reader_cat_l1 k (rex_reader_repeat_r k j) k t2.2.2.f0 t2.2.2.f1 t2.2.2.f2 t2.1 t2.2.1
def rex_reader_repeat_r (k : Nat) : Nat → S49 → Option ((List S40) × Bool × S49)
  | 0, _ => none
  | j + 1, p0 =>
    ((rex_reader_one_r k j) p0).bind fun t2 =>
    rex_reader_repeat_l1 k t2 k t2.2.2.f0 t2.2.2.f1 t2.2.2.f2 t2.1
def rex_reader_one_r (k : Nat) : Nat → S49 → Option ((List S40) × Bool × S49)
  | 0, _ => none
  | j + 1, p0 =>
    (rex_reader_end k p0 (ByteArray.mk #[124, 41, 42, 43, 63, 93, 47, 34])).bind fun t2 =>
    if t2 = true then some ([], false, p0)
    else (rex_reader_eat k p0 (46 : Int)).bind fun t5 =>
    if t5.1 = true then (byteset_Full k).bind fun t8 =>
    some ([(S40.mk (1 : Int) t8)], true, t5.2)
    else (rex_reader_eat k t5.2 (126 : Int)).bind fun t10 =>
    if t10.1 = true then some ([(S40.mk (0 : Int) (Vector.replicate 4 (0 : Int)))], true, t10.2)
    else (rex_reader_eat k t10.2 (40 : Int)).bind fun t14 =>
    if t14.1 = true then ((rex_reader_alt_r k j) (S49.mk t14.2.f0 t14.2.f1 (w64 (t14.2.f2 + (1 : Int))))).bind fun t17 =>
    Option.bind (α := Bool × ByteArray × Int × Int) (if t17.2.1 = true then if (w64 (t17.2.2.f2 - (1 : Int))) < (99 : Int) then (rex_reader_eat k (S49.mk t17.2.2.f0 t17.2.2.f1 (w64 (t17.2.2.f2 - (1 : Int)))) (41 : Int)).bind fun t26 =>
    some (t26.1, t26.2.f0, t26.2.f1, t26.2.f2)
    else some (false, t17.2.2.f0, t17.2.2.f1, (w64 (t17.2.2.f2 - (1 : Int))))
    else some (false, t17.2.2.f0, t17.2.2.f1, (w64 (t17.2.2.f2 - (1 : Int))))) fun (b19, x20, x21, x22) =>
    some (t17.1, b19, (S49.mk x20 x21 x22))
    else (rex_reader_eat k t14.2 (91 : Int)).bind fun t28 =>
    if t28.1 = true then (rex_reader_brackets k t28.2).bind fun t31 =>
    some (t31.1, t31.2.1, t31.2.2)
    else (rex_reader_byte k t28.2).bind fun t33 =>
    (byteset_Of k [t33.1]).bind fun t36 =>
    some ([(S40.mk (1 : Int) t36)], t33.2.1, t33.2.2)
end
def rex_reader_alt (k : Nat) (p0 : S49) : Option ((List S40) × Bool × S49) := rex_reader_alt_r k k p0
theorem rex_reader_alt_all (k : Nat) : ∀ j : Nat, (∀ (p0 : S49) (r : ((List S40) × Bool × S49)), rex_reader_alt_r k j p0 = some r → ∀ (q0 : Nat) (T0 : Heap), SpecH Tryd.prog 21 [(.ptr q0 0)] ((q0, (.mem (e49 p0))) :: T0) (fun x H' => x = .tup [(.fz 5 (r.1.map e40)), (eBool r.2.1)] ∧ Sub ((q0, (.mem (e49 r.2.2))) :: T0) H')) ∧ (∀ (p0 : S49) (r : ((List S40) × Bool × S49)), rex_reader_cat_r k j p0 = some r → ∀ (q0 : Nat) (T0 : Heap), SpecH Tryd.prog 30 [(.ptr q0 0)] ((q0, (.mem (e49 p0))) :: T0) (fun x H' => x = .tup [(.fz 5 (r.1.map e40)), (eBool r.2.1)] ∧ Sub ((q0, (.mem (e49 r.2.2))) :: T0) H')) ∧ (∀ (p0 : S49) (r : ((List S40) × Bool × S49)), rex_reader_repeat_r k j p0 = some r → ∀ (q0 : Nat) (T0 : Heap), SpecH Tryd.prog 43 [(.ptr q0 0)] ((q0, (.mem (e49 p0))) :: T0) (fun x H' => x = .tup [(.fz 5 (r.1.map e40)), (eBool r.2.1)] ∧ Sub ((q0, (.mem (e49 r.2.2))) :: T0) H')) ∧ (∀ (p0 : S49) (r : ((List S40) × Bool × S49)), rex_reader_one_r k j p0 = some r → ∀ (q0 : Nat) (T0 : Heap), SpecH Tryd.prog 53 [(.ptr q0 0)] ((q0, (.mem (e49 p0))) :: T0) (fun x H' => x = .tup [(.fz 5 (r.1.map e40)), (eBool r.2.1)] ∧ Sub ((q0, (.mem (e49 r.2.2))) :: T0) H')) := by
  intro j
  induction j with
  | zero => exact ⟨(by intro p0 r h; rw [rex_reader_alt_r.eq_1] at h; cases h), (by intro p0 r h; rw [rex_reader_cat_r.eq_1] at h; cases h), (by intro p0 r h; rw [rex_reader_repeat_r.eq_1] at h; cases h), (by intro p0 r h; rw [rex_reader_one_r.eq_1] at h; cases h)⟩
  | succ j hself =>
  obtain ⟨hself21, hself30, hself43, hself53⟩ := hself
  refine ⟨?_, ?_, ?_, ?_⟩
  ·intro p0 r h q0 T0
   rw [rex_reader_alt_r.eq_2] at h
   generalize hsself21 : rex_reader_alt_r k j = self21 at h hself21
   generalize hsself30 : rex_reader_cat_r k j = self30 at h hself30
   generalize hsself43 : rex_reader_repeat_r k j = self43 at h hself43
   generalize hsself53 : rex_reader_one_r k j = self53 at h hself53
   refine SpecH.intro (res := [.tmp 2, .tmp 3]) Tryd.func21 rfl rfl rfl (Nat.le_of_ble_eq_true rfl) ?_
   refine AW.sr ?_
   refine AO.c (Calm.assign rfl rfl) ?_
   refine AO.c (Calm.assign rfl rfl) ?_
   refine AO.nK [0] ?_
   refine AW.sr ?_
   refine AO.c (Calm.move rfl rfl) ?_
   obtain ⟨t2, et2, h⟩ := of_bind h
   refine AO.callH [(.ptr q0 0)] ((q0, (.mem (e49 p0))) :: T0) _ rfl rfl rfl 9 rfl (by decide) ok30 ⟨rfl, rfl, trivial⟩ (Sub.cons 0 rfl (Sub.refl _)) (hself30 _ _ et2 _ _) ?_
   rintro _ _ ⟨rfl, hs3⟩
   refine AO.wH [0, 8, 9] hs3 ?_
   refine AO.c (Calm.move rfl rfl) ?_
   refine AO.c (Calm.extract rfl rfl rfl) ?_
   refine AO.c (Calm.extract rfl rfl rfl) ?_
   refine AO.c (Calm.assign rfl rfl) ?_
   refine AO.c (Calm.assign rfl rfl) ?_
   refine AO.nK [0, 4, 5] ?_
   refine AW.seq_mid (fun ρ H => ∃ (x4 : (List S40)) (b5 : Bool) (x6 : ByteArray) (x7 : Int) (x8 : Int), ρ = [(4, (.fz 5 (x4.map e40))), (5, (eBool b5))] ∧ H = ((q0, (.mem (.st [(1, (eStr x6)), (1, (eI64 x7)), (1, (eI64 x8))]))) :: T0) ∧ rex_reader_alt_c0 k x4 b5 x6 x7 x8 = some r) ?_ ?_
   ·refine AW.block ?_
    refine AW.wK [0, 4, 5] ?_
    refine AW.loop (fun kq ρ H => ∃ (x9 : ByteArray) (x10 : Int) (x11 : Int) (x12 : (List S40)) (b13 : Bool), ρ = [(0, (.ptr q0 0)), (4, (.fz 5 (x12.map e40))), (5, (eBool b13))] ∧ H = ((q0, (.mem (.st [(1, (eStr x9)), (1, (eI64 x10)), (1, (eI64 x11))]))) :: T0) ∧ rex_reader_alt_l1 k self30 kq x9 x10 x11 x12 b13 = some r) k ⟨t2.2.2.f0, t2.2.2.f1, t2.2.2.f2, t2.1, t2.2.1, rfl, rfl, h⟩ ?_
    rintro kq15 _ _ ⟨x9, x10, x11, x12, b13, rfl, rfl, h⟩
    cases kq15 with
    | zero => rw [rex_reader_alt_l1.eq_1] at h; cases h
    | succ kq15 =>
    rw [rex_reader_alt_l1.eq_2] at h
    generalize hrec14 : rex_reader_alt_l1 k self30 kq15 = rec14 at h
    refine AW.seq ?_
    refine AW.seq ?_
    obtain ⟨⟨x16, x17, x18, b19⟩, hq20, h⟩ := of_bind h
    refine AW.regM [(0, (.ptr q0 0)), (4, (.fz 5 (x12.map e40))), (5, (eBool b13)), (16, (eBool b19))] ((q0, (.mem (.st [(1, (eStr x16)), (1, (eI64 x17)), (1, (eI64 x18))]))) :: T0) ?_ ?_
    ·refine AO.c (Calm.move rfl rfl) ?_
     refine AO.c (Calm.move rfl rfl) ?_
     rcases of_ite hq20 with ⟨hc21, hq20⟩ | ⟨hc21, hq20⟩
     ·refine AO.cG rfl rfl (bD hc21) (Calm.move rfl rfl) ?_
      obtain ⟨t22, et22, hq20⟩ := of_bind hq20
      refine AO.unguard 1 true 13 rfl rfl (bD hc21) ?_
      refine AO.callH [(.ptr q0 0), (eU8 (124 : Int))] ((q0, (.mem (e49 (S49.mk x9 x10 x11)))) :: T0) _ rfl rfl rfl 15 rfl (by decide) ok31 ⟨rfl, rfl, rfl, rfl, trivial⟩ (Sub.cons 0 rfl (Sub.refl _)) (rex_reader_eat_spec et22) ?_
      rintro _ _ ⟨rfl, hs23⟩
      refine AO.wH [0, 4, 5, 12, 13, 14, 15] hs23 ?_
      refine AO.c (Calm.pickT rfl (bD hc21) rfl) ?_
      cases hq20
      refine AO.nilE ⟨rfl, rfl⟩ ?_ ?_
      · exact ⟨rfl, rfl, rfl, rfl, trivial⟩
      · exact (Sub.refl _)
     ·refine AO.sT rfl rfl (bD (eq_false_of_ne_true hc21)) ?_
      refine AO.sT rfl rfl (bD (eq_false_of_ne_true hc21)) ?_
      refine AO.c (Calm.pickF rfl (bD (eq_false_of_ne_true hc21)) rfl) ?_
      cases hq20
      refine AO.nilE ⟨rfl, rfl⟩ ?_ ?_
      · exact ⟨rfl, rfl, rfl, rfl, trivial⟩
      · exact (Sub.refl _)
    ·rcases of_ite h with ⟨hc24, h⟩ | ⟨hc24, h⟩
     ·refine AW.condT' _ rfl hc24 ?_
      refine AW.sK [0, 4] ?_
      refine AW.block ?_
      refine AW.sr ?_
      refine AO.c (Calm.assign rfl rfl) ?_
      refine AO.nK [0, 4] ?_
      refine AW.sr ?_
      refine AO.c (Calm.move rfl rfl) ?_
      obtain ⟨t25, et25, h⟩ := of_bind h
      refine AO.callH [(.ptr q0 0)] ((q0, (.mem (e49 (S49.mk x16 x17 x18)))) :: T0) _ rfl rfl rfl 19 rfl (by decide) ok30 ⟨rfl, rfl, trivial⟩ (Sub.cons 0 rfl (Sub.refl _)) (hself30 _ _ et25 _ _) ?_
      rintro _ _ ⟨rfl, hs26⟩
      refine AO.wH [0, 4, 18, 19] hs26 ?_
      refine AO.c (Calm.move rfl rfl) ?_
      refine AO.c (Calm.extract rfl rfl rfl) ?_
      refine AO.c (Calm.extract rfl rfl rfl) ?_
      refine AO.c (Calm.assign rfl rfl) ?_
      refine AO.c (Calm.assign rfl rfl) ?_
      refine AO.nK [0, 4, 5, 6] ?_
      refine AW.reg ?_
      refine AO.c (Calm.move rfl rfl) ?_
      refine AO.c (Calm.move rfl rfl) ?_
      refine AO.lit (Z := (.fl (.slice none 0 0))) (xs := (([x12, t25.1] : List (List S40)).map e23)) (qs := [(0, (.fz 5 (x12.map e40))), (1, (.fz 5 (t25.1.map e40)))]) rfl 24 rfl (by decide) rfl ⟨rfl, rfl, rfl, rfl, rfl, rfl, trivial⟩ Tryd.underlying41 sz23 zr23 lay23 rfl (by decide) (litOK (z := 1) [(.fz 5 (x12.map e40)), (.fz 5 (t25.1.map e40))] rfl ⟨⟨rfl, rfl⟩, ⟨rfl, rfl⟩, trivial⟩) rfl fun n27 => ?_
      obtain ⟨t28, et28, h⟩ := of_bind h
      refine AO.freezeS 0 [(24, (.fz 1 (([x12, t25.1] : List (List S40)).map e23)))] rfl ⟨fz_all rfl, trivial⟩ ?_
      refine AO.callS [(eI64 (3 : Int)), (.fz 1 (([x12, t25.1] : List (List S40)).map e23))] (.fz 5 (t28.map e40)) 25 rfl (by decide) ok18 rfl rfl rfl ⟨rfl, rfl, rfl, rfl, trivial⟩ (rex_Join_spec et28) ?_
      refine AO.c (Calm.assign rfl rfl) ?_
      refine AO.nK [0, 4, 5] ?_
      exact ⟨kq15, Nat.lt_succ_self _, t25.2.2.f0, t25.2.2.f1, t25.2.2.f2, t28, t25.2.1, rfl, rfl, by rw [hrec14]; exact h⟩
     ·refine AW.condF' _ rfl hc24 ?_
      refine AW.eK [4, 5] ?_
      exact ⟨x12, b13, x16, x17, x18, rfl, rfl, h⟩
   ·rintro _ _ ⟨x4, b5, x6, x7, x8, rfl, rfl, h⟩
    rw [rex_reader_alt_c0.eq_1] at h
    refine AW.sr ?_
    refine AO.c (Calm.move rfl rfl) ?_
    refine AO.c (Calm.move rfl rfl) ?_
    refine AO.c (Calm.assign rfl rfl) ?_
    refine AO.c (Calm.assign rfl rfl) ?_
    refine AO.nK [2, 3] ?_
    refine AW.rK [2, 3] ?_
    have hr := Option.some.inj h
    subst hr
    exact ⟨[(.fz 5 (x4.map e40)), (eBool b5)], ⟨rfl, rfl, rfl, rfl, trivial⟩, rfl, (Sub.cons 0 rfl (Sub.refl _))⟩
  ·intro p0 r h q0 T0
   rw [rex_reader_cat_r.eq_2] at h
   generalize hsself21 : rex_reader_alt_r k j = self21 at h hself21
   generalize hsself30 : rex_reader_cat_r k j = self30 at h hself30
   generalize hsself43 : rex_reader_repeat_r k j = self43 at h hself43
   generalize hsself53 : rex_reader_one_r k j = self53 at h hself53
   refine SpecH.intro (res := [.tmp 2, .tmp 3]) Tryd.func30 rfl rfl rfl (Nat.le_of_ble_eq_true rfl) ?_
   refine AW.sr ?_
   refine AO.c (Calm.assign rfl rfl) ?_
   refine AO.c (Calm.assign rfl rfl) ?_
   refine AO.nK [0] ?_
   refine AW.sr ?_
   refine AO.c (Calm.move rfl rfl) ?_
   obtain ⟨t2, et2, h⟩ := of_bind h
   refine AO.callH [(.ptr q0 0)] ((q0, (.mem (e49 p0))) :: T0) _ rfl rfl rfl 9 rfl (by decide) ok43 ⟨rfl, rfl, trivial⟩ (Sub.cons 0 rfl (Sub.refl _)) (hself43 _ _ et2 _ _) ?_
   rintro _ _ ⟨rfl, hs3⟩
   refine AO.wH [0, 8, 9] hs3 ?_
   refine AO.c (Calm.move rfl rfl) ?_
   refine AO.c (Calm.extract rfl rfl rfl) ?_
   refine AO.c (Calm.extract rfl rfl rfl) ?_
   refine AO.c (Calm.assign rfl rfl) ?_
   refine AO.c (Calm.assign rfl rfl) ?_
   refine AO.nK [0, 4, 5] ?_
   refine AW.seq_mid (fun ρ H => ∃ (x4 : (List S40)) (b5 : Bool) (x6 : ByteArray) (x7 : Int) (x8 : Int), ρ = [(4, (.fz 5 (x4.map e40))), (5, (eBool b5))] ∧ H = ((q0, (.mem (.st [(1, (eStr x6)), (1, (eI64 x7)), (1, (eI64 x8))]))) :: T0) ∧ rex_reader_cat_c0 k x4 b5 x6 x7 x8 = some r) ?_ ?_
   ·refine AW.block ?_
    refine AW.wK [0, 4, 5] ?_
    refine AW.loop (fun kq ρ H => ∃ (x9 : ByteArray) (x10 : Int) (x11 : Int) (x12 : (List S40)) (b13 : Bool), ρ = [(0, (.ptr q0 0)), (4, (.fz 5 (x12.map e40))), (5, (eBool b13))] ∧ H = ((q0, (.mem (.st [(1, (eStr x9)), (1, (eI64 x10)), (1, (eI64 x11))]))) :: T0) ∧ rex_reader_cat_l1 k self43 kq x9 x10 x11 x12 b13 = some r) k ⟨t2.2.2.f0, t2.2.2.f1, t2.2.2.f2, t2.1, t2.2.1, rfl, rfl, h⟩ ?_
    rintro kq15 _ _ ⟨x9, x10, x11, x12, b13, rfl, rfl, h⟩
    cases kq15 with
    | zero => rw [rex_reader_cat_l1.eq_1] at h; cases h
    | succ kq15 =>
    rw [rex_reader_cat_l1.eq_2] at h
    generalize hrec14 : rex_reader_cat_l1 k self43 kq15 = rec14 at h
    refine AW.seq ?_
    refine AW.seq ?_
    obtain ⟨b16, hq17, h⟩ := of_bind h
    refine AW.regM [(0, (.ptr q0 0)), (4, (.fz 5 (x12.map e40))), (5, (eBool b13)), (17, (eBool b16))] ((q0, (.mem (.st [(1, (eStr x9)), (1, (eI64 x10)), (1, (eI64 x11))]))) :: T0) ?_ ?_
    ·refine AO.c (Calm.move rfl rfl) ?_
     refine AO.c (Calm.move rfl rfl) ?_
     rcases of_ite hq17 with ⟨hc18, hq17⟩ | ⟨hc18, hq17⟩
     ·refine AO.cG rfl rfl (bD hc18) (Calm.move rfl rfl) ?_
      obtain ⟨t19, et19, hq17⟩ := of_bind hq17
      refine AO.unguard 1 true 13 rfl rfl (bD hc18) ?_
      refine AO.callH [(.ptr q0 0), (eStr (ByteArray.mk #[124, 41]))] ((q0, (.mem (e49 (S49.mk x9 x10 x11)))) :: T0) _ rfl rfl rfl 15 rfl (by decide) ok44 ⟨rfl, rfl, rfl, rfl, trivial⟩ (Sub.cons 0 rfl (Sub.refl _)) (rex_reader_end_spec et19) ?_
      rintro _ _ ⟨rfl, hs20⟩
      refine AO.wH [0, 4, 5, 12, 13, 14, 15] hs20 ?_
      refine AO.cG rfl rfl (bD hc18) (Calm.not rfl rfl) ?_
      refine AO.c (Calm.pickT rfl (bD hc18) rfl) ?_
      cases hq17
      refine AO.nilE ⟨rfl, rfl⟩ ?_ ?_
      · exact ⟨rfl, rfl, rfl, rfl, trivial⟩
      · exact (Sub.refl _)
     ·refine AO.sT rfl rfl (bD (eq_false_of_ne_true hc18)) ?_
      refine AO.sT rfl rfl (bD (eq_false_of_ne_true hc18)) ?_
      refine AO.sT rfl rfl (bD (eq_false_of_ne_true hc18)) ?_
      refine AO.c (Calm.pickF rfl (bD (eq_false_of_ne_true hc18)) rfl) ?_
      cases hq17
      refine AO.nilE ⟨rfl, rfl⟩ ?_ ?_
      · exact ⟨rfl, rfl, rfl, rfl, trivial⟩
      · exact (Sub.refl _)
    ·rcases of_ite h with ⟨hc21, h⟩ | ⟨hc21, h⟩
     ·refine AW.condT' _ rfl hc21 ?_
      refine AW.sK [0, 4] ?_
      refine AW.block ?_
      refine AW.sr ?_
      refine AO.c (Calm.assign rfl rfl) ?_
      refine AO.nK [0, 4] ?_
      refine AW.sr ?_
      refine AO.c (Calm.move rfl rfl) ?_
      obtain ⟨t22, et22, h⟩ := of_bind h
      refine AO.callH [(.ptr q0 0)] ((q0, (.mem (e49 (S49.mk x9 x10 x11)))) :: T0) _ rfl rfl rfl 20 rfl (by decide) ok43 ⟨rfl, rfl, trivial⟩ (Sub.cons 0 rfl (Sub.refl _)) (hself43 _ _ et22 _ _) ?_
      rintro _ _ ⟨rfl, hs23⟩
      refine AO.wH [0, 4, 19, 20] hs23 ?_
      refine AO.c (Calm.move rfl rfl) ?_
      refine AO.c (Calm.extract rfl rfl rfl) ?_
      refine AO.c (Calm.extract rfl rfl rfl) ?_
      refine AO.c (Calm.assign rfl rfl) ?_
      refine AO.c (Calm.assign rfl rfl) ?_
      refine AO.nK [0, 4, 5, 6] ?_
      refine AW.reg ?_
      refine AO.c (Calm.move rfl rfl) ?_
      refine AO.c (Calm.move rfl rfl) ?_
      refine AO.lit (Z := (.fl (.slice none 0 0))) (xs := (([x12, t22.1] : List (List S40)).map e23)) (qs := [(0, (.fz 5 (x12.map e40))), (1, (.fz 5 (t22.1.map e40)))]) rfl 25 rfl (by decide) rfl ⟨rfl, rfl, rfl, rfl, rfl, rfl, trivial⟩ Tryd.underlying41 sz23 zr23 lay23 rfl (by decide) (litOK (z := 1) [(.fz 5 (x12.map e40)), (.fz 5 (t22.1.map e40))] rfl ⟨⟨rfl, rfl⟩, ⟨rfl, rfl⟩, trivial⟩) rfl fun n24 => ?_
      obtain ⟨t25, et25, h⟩ := of_bind h
      refine AO.freezeS 0 [(25, (.fz 1 (([x12, t22.1] : List (List S40)).map e23)))] rfl ⟨fz_all rfl, trivial⟩ ?_
      refine AO.callS [(eI64 (2 : Int)), (.fz 1 (([x12, t22.1] : List (List S40)).map e23))] (.fz 5 (t25.map e40)) 26 rfl (by decide) ok18 rfl rfl rfl ⟨rfl, rfl, rfl, rfl, trivial⟩ (rex_Join_spec et25) ?_
      refine AO.c (Calm.assign rfl rfl) ?_
      refine AO.nK [0, 4, 5] ?_
      exact ⟨kq15, Nat.lt_succ_self _, t22.2.2.f0, t22.2.2.f1, t22.2.2.f2, t25, t22.2.1, rfl, rfl, by rw [hrec14]; exact h⟩
     ·refine AW.condF' _ rfl hc21 ?_
      refine AW.eK [4, 5] ?_
      exact ⟨x12, b13, x9, x10, x11, rfl, rfl, h⟩
   ·rintro _ _ ⟨x4, b5, x6, x7, x8, rfl, rfl, h⟩
    rw [rex_reader_cat_c0.eq_1] at h
    refine AW.sr ?_
    refine AO.c (Calm.move rfl rfl) ?_
    refine AO.c (Calm.move rfl rfl) ?_
    refine AO.c (Calm.assign rfl rfl) ?_
    refine AO.c (Calm.assign rfl rfl) ?_
    refine AO.nK [2, 3] ?_
    refine AW.rK [2, 3] ?_
    have hr := Option.some.inj h
    subst hr
    exact ⟨[(.fz 5 (x4.map e40)), (eBool b5)], ⟨rfl, rfl, rfl, rfl, trivial⟩, rfl, (Sub.cons 0 rfl (Sub.refl _))⟩
  ·intro p0 r h q0 T0
   rw [rex_reader_repeat_r.eq_2] at h
   generalize hsself21 : rex_reader_alt_r k j = self21 at h hself21
   generalize hsself30 : rex_reader_cat_r k j = self30 at h hself30
   generalize hsself43 : rex_reader_repeat_r k j = self43 at h hself43
   generalize hsself53 : rex_reader_one_r k j = self53 at h hself53
   refine SpecH.intro (res := [.tmp 2, .tmp 3]) Tryd.func43 rfl rfl rfl (Nat.le_of_ble_eq_true rfl) ?_
   refine AW.sr ?_
   refine AO.c (Calm.assign rfl rfl) ?_
   refine AO.c (Calm.assign rfl rfl) ?_
   refine AO.nK [0] ?_
   refine AW.sr ?_
   refine AO.c (Calm.move rfl rfl) ?_
   obtain ⟨t2, et2, h⟩ := of_bind h
   refine AO.callH [(.ptr q0 0)] ((q0, (.mem (e49 p0))) :: T0) _ rfl rfl rfl 8 rfl (by decide) ok53 ⟨rfl, rfl, trivial⟩ (Sub.cons 0 rfl (Sub.refl _)) (hself53 _ _ et2 _ _) ?_
   rintro _ _ ⟨rfl, hs3⟩
   refine AO.wH [0, 7, 8] hs3 ?_
   refine AO.c (Calm.move rfl rfl) ?_
   refine AO.c (Calm.extract rfl rfl rfl) ?_
   refine AO.c (Calm.extract rfl rfl rfl) ?_
   refine AO.c (Calm.assign rfl rfl) ?_
   refine AO.c (Calm.assign rfl rfl) ?_
   refine AO.nK [0, 4, 5] ?_
   refine AW.seq_mid (fun ρ H => ∃ (x4 : ByteArray) (x5 : Int) (x6 : Int), ρ = [] ∧ H = ((q0, (.mem (.st [(1, (eStr x4)), (1, (eI64 x5)), (1, (eI64 x6))]))) :: T0) ∧ rex_reader_repeat_c0 k x4 x5 x6 = some r) ?_ ?_
   ·refine AW.block ?_
    refine AW.wK [0, 4, 5] ?_
    refine AW.loop (fun kq ρ H => ∃ (x7 : ByteArray) (x8 : Int) (x9 : Int) (x10 : (List S40)), ρ = [(0, (.ptr q0 0)), (4, (.fz 5 (x10.map e40))), (5, (eBool t2.2.1))] ∧ H = ((q0, (.mem (.st [(1, (eStr x7)), (1, (eI64 x8)), (1, (eI64 x9))]))) :: T0) ∧ rex_reader_repeat_l1 k t2 kq x7 x8 x9 x10 = some r) k ⟨t2.2.2.f0, t2.2.2.f1, t2.2.2.f2, t2.1, rfl, rfl, h⟩ ?_
    rintro kq12 _ _ ⟨x7, x8, x9, x10, rfl, rfl, h⟩
    cases kq12 with
    | zero => rw [rex_reader_repeat_l1.eq_1] at h; cases h
    | succ kq12 =>
    rw [rex_reader_repeat_l1.eq_2] at h
    generalize hrec11 : rex_reader_repeat_l1 k t2 kq12 = rec11 at h
    refine AW.seq ?_
    refine AW.sr ?_
    refine AO.c (Calm.move rfl rfl) ?_
    refine AO.nK [0, 4, 5, 11] ?_
    rcases of_ite h with ⟨hc13, h⟩ | ⟨hc13, h⟩
    ·refine AW.condT' _ rfl hc13 ?_
     refine AW.sK [0, 4, 5] ?_
     refine AW.block ?_
     refine AW.block ?_
     refine AW.sr ?_
     refine AO.c (Calm.move rfl rfl) ?_
     obtain ⟨t14, et14, h⟩ := of_bind h
     refine AO.callH [(.ptr q0 0), (eU8 (42 : Int))] ((q0, (.mem (e49 (S49.mk x7 x8 x9)))) :: T0) _ rfl rfl rfl 15 rfl (by decide) ok31 ⟨rfl, rfl, rfl, rfl, trivial⟩ (Sub.cons 0 rfl (Sub.refl _)) (rex_reader_eat_spec et14) ?_
     rintro _ _ ⟨rfl, hs15⟩
     refine AO.wH [0, 4, 5, 14, 15] hs15 ?_
     refine AO.c (Calm.assign rfl rfl) ?_
     refine AO.nK [0, 4, 5, 13] ?_
     rcases of_ite h with ⟨hc16, h⟩ | ⟨hc16, h⟩
     ·refine AW.condT' _ rfl hc16 ?_
      refine AW.reg ?_
      refine AO.c (Calm.move rfl rfl) ?_
      refine AO.lit (Z := (.fl (.slice none 0 0))) (xs := (([x10] : List (List S40)).map e23)) (qs := [(0, (.fz 5 (x10.map e40)))]) rfl 17 rfl (by decide) rfl ⟨rfl, rfl, rfl, trivial⟩ Tryd.underlying41 sz23 zr23 lay23 rfl (by decide) (litOK (z := 1) [(.fz 5 (x10.map e40))] rfl ⟨⟨rfl, rfl⟩, trivial⟩) rfl fun n17 => ?_
      obtain ⟨t18, et18, h⟩ := of_bind h
      refine AO.freezeS 0 [(17, (.fz 1 (([x10] : List (List S40)).map e23)))] rfl ⟨fz_all rfl, trivial⟩ ?_
      refine AO.callS [(eI64 (4 : Int)), (.fz 1 (([x10] : List (List S40)).map e23))] (.fz 5 (t18.map e40)) 18 rfl (by decide) ok18 rfl rfl rfl ⟨rfl, rfl, rfl, rfl, trivial⟩ (rex_Join_spec et18) ?_
      refine AO.c (Calm.assign rfl rfl) ?_
      refine AO.nK [0, 4, 5] ?_
      exact ⟨kq12, Nat.lt_succ_self _, t14.2.f0, t14.2.f1, t14.2.f2, t18, rfl, rfl, by rw [hrec11]; exact h⟩
     ·refine AW.condF' _ rfl hc16 ?_
      refine AW.sr ?_
      refine AO.c (Calm.move rfl rfl) ?_
      obtain ⟨t19, et19, h⟩ := of_bind h
      refine AO.callH [(.ptr q0 0), (eU8 (43 : Int))] ((q0, (.mem (e49 t14.2))) :: T0) _ rfl rfl rfl 21 rfl (by decide) ok31 ⟨rfl, rfl, rfl, rfl, trivial⟩ (Sub.cons 0 rfl (Sub.refl _)) (rex_reader_eat_spec et19) ?_
      rintro _ _ ⟨rfl, hs20⟩
      refine AO.wH [0, 4, 5, 13, 20, 21] hs20 ?_
      refine AO.c (Calm.assign rfl rfl) ?_
      refine AO.nK [0, 4, 5, 19] ?_
      rcases of_ite h with ⟨hc21, h⟩ | ⟨hc21, h⟩
      ·refine AW.condT' _ rfl hc21 ?_
       refine AW.reg ?_
       refine AO.c (Calm.move rfl rfl) ?_
       refine AO.lit (Z := (.fl (.slice none 0 0))) (xs := (([x10] : List (List S40)).map e23)) (qs := [(0, (.fz 5 (x10.map e40)))]) rfl 23 rfl (by decide) rfl ⟨rfl, rfl, rfl, trivial⟩ Tryd.underlying41 sz23 zr23 lay23 rfl (by decide) (litOK (z := 1) [(.fz 5 (x10.map e40))] rfl ⟨⟨rfl, rfl⟩, trivial⟩) rfl fun n22 => ?_
       obtain ⟨t23, et23, h⟩ := of_bind h
       refine AO.freezeS 0 [(23, (.fz 1 (([x10] : List (List S40)).map e23)))] rfl ⟨fz_all rfl, trivial⟩ ?_
       refine AO.callS [(eI64 (5 : Int)), (.fz 1 (([x10] : List (List S40)).map e23))] (.fz 5 (t23.map e40)) 24 rfl (by decide) ok18 rfl rfl rfl ⟨rfl, rfl, rfl, rfl, trivial⟩ (rex_Join_spec et23) ?_
       refine AO.c (Calm.assign rfl rfl) ?_
       refine AO.nK [0, 4, 5] ?_
       exact ⟨kq12, Nat.lt_succ_self _, t19.2.f0, t19.2.f1, t19.2.f2, t23, rfl, rfl, by rw [hrec11]; exact h⟩
      ·refine AW.condF' _ rfl hc21 ?_
       refine AW.sr ?_
       refine AO.c (Calm.move rfl rfl) ?_
       obtain ⟨t24, et24, h⟩ := of_bind h
       refine AO.callH [(.ptr q0 0), (eU8 (63 : Int))] ((q0, (.mem (e49 t19.2))) :: T0) _ rfl rfl rfl 27 rfl (by decide) ok31 ⟨rfl, rfl, rfl, rfl, trivial⟩ (Sub.cons 0 rfl (Sub.refl _)) (rex_reader_eat_spec et24) ?_
       rintro _ _ ⟨rfl, hs25⟩
       refine AO.wH [0, 4, 5, 19, 26, 27] hs25 ?_
       refine AO.c (Calm.assign rfl rfl) ?_
       refine AO.nK [0, 4, 5, 25] ?_
       rcases of_ite h with ⟨hc26, h⟩ | ⟨hc26, h⟩
       ·refine AW.condT' _ rfl hc26 ?_
        refine AW.reg ?_
        refine AO.c (Calm.move rfl rfl) ?_
        refine AO.lit (Z := (.fl (.slice none 0 0))) (xs := (([x10] : List (List S40)).map e23)) (qs := [(0, (.fz 5 (x10.map e40)))]) rfl 29 rfl (by decide) rfl ⟨rfl, rfl, rfl, trivial⟩ Tryd.underlying41 sz23 zr23 lay23 rfl (by decide) (litOK (z := 1) [(.fz 5 (x10.map e40))] rfl ⟨⟨rfl, rfl⟩, trivial⟩) rfl fun n27 => ?_
        obtain ⟨t28, et28, h⟩ := of_bind h
        refine AO.freezeS 0 [(29, (.fz 1 (([x10] : List (List S40)).map e23)))] rfl ⟨fz_all rfl, trivial⟩ ?_
        refine AO.callS [(eI64 (6 : Int)), (.fz 1 (([x10] : List (List S40)).map e23))] (.fz 5 (t28.map e40)) 30 rfl (by decide) ok18 rfl rfl rfl ⟨rfl, rfl, rfl, rfl, trivial⟩ (rex_Join_spec et28) ?_
        refine AO.c (Calm.assign rfl rfl) ?_
        refine AO.nK [0, 4, 5] ?_
        exact ⟨kq12, Nat.lt_succ_self _, t24.2.f0, t24.2.f1, t24.2.f2, t28, rfl, rfl, by rw [hrec11]; exact h⟩
       ·refine AW.condF' _ rfl hc26 ?_
        refine AW.sr ?_
        refine AO.c (Calm.move rfl rfl) ?_
        refine AO.c (Calm.assign rfl rfl) ?_
        refine AO.c (Calm.assign rfl rfl) ?_
        refine AO.nK [2, 3] ?_
        refine AW.rK [2, 3] ?_
        have hr := Option.some.inj h
        subst hr
        exact ⟨[(.fz 5 (x10.map e40)), (eBool true)], ⟨rfl, rfl, rfl, rfl, trivial⟩, rfl, (Sub.cons 0 rfl (Sub.refl _))⟩
    ·refine AW.condF' _ rfl hc13 ?_
     refine AW.eK [] ?_
     exact ⟨x7, x8, x9, rfl, rfl, h⟩
   ·rintro _ _ ⟨x4, x5, x6, rfl, rfl, h⟩
    rw [rex_reader_repeat_c0.eq_1] at h
    refine AW.sr ?_
    refine AO.c (Calm.assign rfl rfl) ?_
    refine AO.c (Calm.assign rfl rfl) ?_
    refine AO.nK [2, 3] ?_
    refine AW.coeC 2 (y' := (.fz 5 (([] : List S40).map e40))) rfl Coe.nil ?_
    refine AW.rK [2, 3] ?_
    have hr := Option.some.inj h
    subst hr
    exact ⟨[(.fz 5 (([] : List S40).map e40)), (eBool false)], ⟨rfl, rfl, rfl, rfl, trivial⟩, rfl, (Sub.cons 0 rfl (Sub.refl _))⟩
  ·intro p0 r h q0 T0
   rw [rex_reader_one_r.eq_2] at h
   generalize hsself21 : rex_reader_alt_r k j = self21 at h hself21
   generalize hsself30 : rex_reader_cat_r k j = self30 at h hself30
   generalize hsself43 : rex_reader_repeat_r k j = self43 at h hself43
   generalize hsself53 : rex_reader_one_r k j = self53 at h hself53
   refine SpecH.intro (res := [.tmp 2, .tmp 3]) Tryd.func53 rfl rfl rfl (Nat.le_of_ble_eq_true rfl) ?_
   refine AW.sr ?_
   refine AO.c (Calm.assign rfl rfl) ?_
   refine AO.c (Calm.assign rfl rfl) ?_
   refine AO.nK [0] ?_
   refine AW.seq ?_
   refine AW.block ?_
   refine AW.sr ?_
   refine AO.c (Calm.move rfl rfl) ?_
   obtain ⟨t2, et2, h⟩ := of_bind h
   refine AO.callH [(.ptr q0 0), (eStr (ByteArray.mk #[124, 41, 42, 43, 63, 93, 47, 34]))] ((q0, (.mem (e49 p0))) :: T0) _ rfl rfl rfl 10 rfl (by decide) ok44 ⟨rfl, rfl, rfl, rfl, trivial⟩ (Sub.cons 0 rfl (Sub.refl _)) (rex_reader_end_spec et2) ?_
   rintro _ _ ⟨rfl, hs3⟩
   refine AO.wH [0, 9, 10] hs3 ?_
   refine AO.c (Calm.assign rfl rfl) ?_
   refine AO.nK [0, 8] ?_
   rcases of_ite h with ⟨hc4, h⟩ | ⟨hc4, h⟩
   ·refine AW.condT' _ rfl hc4 ?_
    refine AW.sr ?_
    refine AO.c (Calm.assign rfl rfl) ?_
    refine AO.c (Calm.assign rfl rfl) ?_
    refine AO.nK [2, 3] ?_
    refine AW.coeC 2 (y' := (.fz 5 (([] : List S40).map e40))) rfl Coe.nil ?_
    refine AW.rK [2, 3] ?_
    have hr := Option.some.inj h
    subst hr
    exact ⟨[(.fz 5 (([] : List S40).map e40)), (eBool false)], ⟨rfl, rfl, rfl, rfl, trivial⟩, rfl, (Sub.cons 0 rfl (Sub.refl _))⟩
   ·refine AW.condF' _ rfl hc4 ?_
    refine AW.sr ?_
    refine AO.c (Calm.move rfl rfl) ?_
    obtain ⟨t5, et5, h⟩ := of_bind h
    refine AO.callH [(.ptr q0 0), (eU8 (46 : Int))] ((q0, (.mem (e49 p0))) :: T0) _ rfl rfl rfl 13 rfl (by decide) ok31 ⟨rfl, rfl, rfl, rfl, trivial⟩ (Sub.cons 0 rfl (Sub.refl _)) (rex_reader_eat_spec et5) ?_
    rintro _ _ ⟨rfl, hs6⟩
    refine AO.wH [0, 8, 12, 13] hs6 ?_
    refine AO.c (Calm.assign rfl rfl) ?_
    refine AO.nK [0, 11] ?_
    rcases of_ite h with ⟨hc7, h⟩ | ⟨hc7, h⟩
    ·refine AW.condT' _ rfl hc7 ?_
     refine AW.sr ?_
     obtain ⟨t8, et8, h⟩ := of_bind h
     refine AO.callS [] (.ar 1 (t8.toList.map eU64)) 14 rfl (by decide) ok36 rfl rfl rfl trivial (byteset_Full_spec et8) ?_
     refine AO.c (x := .st [(1, (eI64 (1 : Int))), (4, (.ar 1 (t8.toList.map eU64)))]) (Calm.build (qs := [(0, (eI64 (1 : Int))), (1, (.ar 1 (t8.toList.map eU64)))]) rfl ⟨rfl, rfl, rfl, rfl, rfl, rfl, trivial⟩ Tryd.underlying40 rfl zr40 lay40 (.cons rfl rfl rfl rfl (Put.cast (Put.fld0 Put.here) rfl) (.cons rfl rfl (vec_size _ _) (vec_size _ _) (Put.cast (Put.fldS (Put.fld0 Put.here)) rfl) .nil)) rfl) ?_
     refine AO.lit (Z := (.st [(1, (eI64 (0 : Int))), (4, (.ar 1 ((Vector.replicate 4 (0 : Int)).toList.map eU64)))])) (xs := (([(S40.mk (1 : Int) t8)] : List S40).map e40)) (qs := [(0, (e40 (S40.mk (1 : Int) t8)))]) rfl 16 rfl (by decide) rfl ⟨rfl, rfl, rfl, trivial⟩ Tryd.underlying23 sz40 zr40 lay40 rfl (by decide) (litOK (z := 5) [(e40 (S40.mk (1 : Int) t8))] rfl ⟨⟨rfl, rfl⟩, trivial⟩) rfl fun n9 => ?_
     refine AO.c (Calm.assign rfl rfl) ?_
     refine AO.c (Calm.assign rfl rfl) ?_
     refine AO.nH [2, 3] (H' := ((q0, (.mem (e49 t5.2))) :: (n9, (.mem (.ar 5 (([(S40.mk (1 : Int) t8)] : List S40).map e40)))) :: T0)) (Sub.cons 1 rfl (Sub.cons 0 rfl (Sub.refl _))) ?_
     refine AW.freezeS 1 [(2, (.fz 5 (([(S40.mk (1 : Int) t8)] : List S40).map e40)))] rfl ⟨fz_all rfl, trivial⟩ ?_
     refine AW.rK [2, 3] ?_
     have hr := Option.some.inj h
     subst hr
     exact ⟨[(.fz 5 (([(S40.mk (1 : Int) t8)] : List S40).map e40)), (eBool true)], ⟨rfl, rfl, rfl, rfl, trivial⟩, rfl, (Sub.cons 0 rfl (Sub.refl _))⟩
    ·refine AW.condF' _ rfl hc7 ?_
     refine AW.sr ?_
     refine AO.c (Calm.move rfl rfl) ?_
     obtain ⟨t10, et10, h⟩ := of_bind h
     refine AO.callH [(.ptr q0 0), (eU8 (126 : Int))] ((q0, (.mem (e49 t5.2))) :: T0) _ rfl rfl rfl 19 rfl (by decide) ok31 ⟨rfl, rfl, rfl, rfl, trivial⟩ (Sub.cons 0 rfl (Sub.refl _)) (rex_reader_eat_spec et10) ?_
     rintro _ _ ⟨rfl, hs11⟩
     refine AO.wH [0, 11, 18, 19] hs11 ?_
     refine AO.c (Calm.assign rfl rfl) ?_
     refine AO.nK [0, 17] ?_
     rcases of_ite h with ⟨hc12, h⟩ | ⟨hc12, h⟩
     ·refine AW.condT' _ rfl hc12 ?_
      refine AW.sr ?_
      refine AO.c (x := .st [(1, (eI64 (0 : Int))), (4, (.ar 1 ((Vector.replicate 4 (0 : Int)).toList.map eU64)))]) (Calm.build (qs := [(0, (eI64 (0 : Int)))]) rfl ⟨rfl, rfl, rfl, trivial⟩ Tryd.underlying40 rfl zr40 lay40 (.cons rfl rfl rfl rfl (Put.cast (Put.fld0 Put.here) rfl) .nil) rfl) ?_
      refine AO.lit (Z := (.st [(1, (eI64 (0 : Int))), (4, (.ar 1 ((Vector.replicate 4 (0 : Int)).toList.map eU64)))])) (xs := (([(S40.mk (0 : Int) (Vector.replicate 4 (0 : Int)))] : List S40).map e40)) (qs := [(0, (e40 (S40.mk (0 : Int) (Vector.replicate 4 (0 : Int)))))]) rfl 21 rfl (by decide) rfl ⟨rfl, rfl, rfl, trivial⟩ Tryd.underlying23 sz40 zr40 lay40 rfl (by decide) (litOK (z := 5) [(e40 (S40.mk (0 : Int) (Vector.replicate 4 (0 : Int))))] rfl ⟨⟨rfl, rfl⟩, trivial⟩) rfl fun n13 => ?_
      refine AO.c (Calm.assign rfl rfl) ?_
      refine AO.c (Calm.assign rfl rfl) ?_
      refine AO.nH [2, 3] (H' := ((q0, (.mem (e49 t10.2))) :: (n13, (.mem (.ar 5 (([(S40.mk (0 : Int) (Vector.replicate 4 (0 : Int)))] : List S40).map e40)))) :: T0)) (Sub.cons 1 rfl (Sub.cons 0 rfl (Sub.refl _))) ?_
      refine AW.freezeS 1 [(2, (.fz 5 (([(S40.mk (0 : Int) (Vector.replicate 4 (0 : Int)))] : List S40).map e40)))] rfl ⟨fz_all rfl, trivial⟩ ?_
      refine AW.rK [2, 3] ?_
      have hr := Option.some.inj h
      subst hr
      exact ⟨[(.fz 5 (([(S40.mk (0 : Int) (Vector.replicate 4 (0 : Int)))] : List S40).map e40)), (eBool true)], ⟨rfl, rfl, rfl, rfl, trivial⟩, rfl, (Sub.cons 0 rfl (Sub.refl _))⟩
     ·refine AW.condF' _ rfl hc12 ?_
      refine AW.sr ?_
      refine AO.c (Calm.move rfl rfl) ?_
      obtain ⟨t14, et14, h⟩ := of_bind h
      refine AO.callH [(.ptr q0 0), (eU8 (40 : Int))] ((q0, (.mem (e49 t10.2))) :: T0) _ rfl rfl rfl 24 rfl (by decide) ok31 ⟨rfl, rfl, rfl, rfl, trivial⟩ (Sub.cons 0 rfl (Sub.refl _)) (rex_reader_eat_spec et14) ?_
      rintro _ _ ⟨rfl, hs15⟩
      refine AO.wH [0, 17, 23, 24] hs15 ?_
      refine AO.c (Calm.assign rfl rfl) ?_
      refine AO.nK [0, 22] ?_
      rcases of_ite h with ⟨hc16, h⟩ | ⟨hc16, h⟩
      ·refine AW.condT' _ rfl hc16 ?_
       refine AW.sr ?_
       refine AO.c (Calm.move rfl rfl) ?_
       refine AO.c (Calm.nilCheck rfl rfl) ?_
       refine AO.c (x := .ptr q0 2) (Calm.fldPtr rfl rfl Tryd.underlying49 rfl sz3 _ rfl) ?_
       refine AO.c (Calm.load 0 rfl rfl rfl (At.cast (At.fldS (At.fldS (At.fld0 At.here))) rfl) ag3 sz3) ?_
       refine AO.c (x := eI64 (w64 (t14.2.f2 + (1 : Int)))) (Calm.int rfl rfl rfl rfl) ?_
       refine AO.c (Calm.nilCheck rfl rfl) ?_
       refine AO.c (x := .ptr q0 2) (Calm.fldPtr rfl rfl Tryd.underlying49 rfl sz3 _ rfl) ?_
       refine AO.store (X' := (.st [(1, (eStr t14.2.f0)), (1, (eI64 t14.2.f1)), (1, (eI64 (w64 (t14.2.f2 + (1 : Int)))))])) 0 rfl rfl rfl rfl rfl rfl (Put.cast (Put.fldS (Put.fldS (Put.fld0 Put.here))) rfl) rfl rfl sz3 rfl ?_
       refine AO.nK [0] ?_
       refine AW.sr ?_
       refine AO.c (Calm.move rfl rfl) ?_
       obtain ⟨t17, et17, h⟩ := of_bind h
       refine AO.callH [(.ptr q0 0)] ((q0, (.mem (e49 (S49.mk t14.2.f0 t14.2.f1 (w64 (t14.2.f2 + (1 : Int))))))) :: T0) _ rfl rfl rfl 34 rfl (by decide) ok21 ⟨rfl, rfl, trivial⟩ (Sub.cons 0 rfl (Sub.refl _)) (hself21 _ _ et17 _ _) ?_
       rintro _ _ ⟨rfl, hs18⟩
       refine AO.wH [0, 33, 34] hs18 ?_
       refine AO.c (Calm.move rfl rfl) ?_
       refine AO.c (Calm.extract rfl rfl rfl) ?_
       refine AO.c (Calm.extract rfl rfl rfl) ?_
       refine AO.c (Calm.assign rfl rfl) ?_
       refine AO.c (Calm.assign rfl rfl) ?_
       refine AO.nK [0, 4, 5] ?_
       refine AW.sr ?_
       refine AO.c (Calm.move rfl rfl) ?_
       refine AO.c (Calm.nilCheck rfl rfl) ?_
       refine AO.c (x := .ptr q0 2) (Calm.fldPtr rfl rfl Tryd.underlying49 rfl sz3 _ rfl) ?_
       refine AO.c (Calm.load 0 rfl rfl rfl (At.cast (At.fldS (At.fldS (At.fld0 At.here))) rfl) ag3 sz3) ?_
       refine AO.c (x := eI64 (w64 (t17.2.2.f2 - (1 : Int)))) (Calm.int rfl rfl rfl rfl) ?_
       refine AO.c (Calm.nilCheck rfl rfl) ?_
       refine AO.c (x := .ptr q0 2) (Calm.fldPtr rfl rfl Tryd.underlying49 rfl sz3 _ rfl) ?_
       refine AO.store (X' := (.st [(1, (eStr t17.2.2.f0)), (1, (eI64 t17.2.2.f1)), (1, (eI64 (w64 (t17.2.2.f2 - (1 : Int)))))])) 0 rfl rfl rfl rfl rfl rfl (Put.cast (Put.fldS (Put.fldS (Put.fld0 Put.here))) rfl) rfl rfl sz3 rfl ?_
       refine AO.nK [0, 4, 5] ?_
       refine AW.seq ?_
       obtain ⟨⟨b19, x20, x21, x22⟩, hq23, h⟩ := of_bind h
       refine AW.regM [(2, (.fz 5 (t17.1.map e40))), (3, (eBool b19))] ((q0, (.mem (.st [(1, (eStr x20)), (1, (eI64 x21)), (1, (eI64 x22))]))) :: T0) ?_ ?_
       ·refine AO.c (Calm.move rfl rfl) ?_
        refine AO.c (Calm.move rfl rfl) ?_
        refine AO.c (Calm.move rfl rfl) ?_
        rcases of_ite hq23 with ⟨hc24, hq23⟩ | ⟨hc24, hq23⟩
        ·refine AO.cG rfl rfl (bD hc24) (Calm.move rfl rfl) ?_
         refine AO.cG rfl rfl (bD hc24) (Calm.nilCheck rfl rfl) ?_
         refine AO.cG (x := .ptr q0 2) rfl rfl (bD hc24) (Calm.fldPtr rfl rfl Tryd.underlying49 rfl sz3 _ rfl) ?_
         refine AO.cG rfl rfl (bD hc24) (Calm.load 0 rfl rfl rfl (At.cast (At.fldS (At.fldS (At.fld0 At.here))) rfl) ag3 sz3) ?_
         refine AO.cG (x := eBool (decide ((w64 (t17.2.2.f2 - (1 : Int))) < (99 : Int)))) rfl rfl (bD hc24) (Calm.int rfl rfl rfl rfl) ?_
         refine AO.c (Calm.pickT rfl (bD hc24) rfl) ?_
         refine AO.c (Calm.move rfl rfl) ?_
         rcases of_ite hq23 with ⟨hc25, hq23⟩ | ⟨hc25, hq23⟩
         ·refine AO.cG rfl rfl (bD (decide_eq_true hc25)) (Calm.move rfl rfl) ?_
          obtain ⟨t26, et26, hq23⟩ := of_bind hq23
          refine AO.unguard 9 true 53 rfl rfl (bD (decide_eq_true hc25)) ?_
          refine AO.callH [(.ptr q0 0), (eU8 (41 : Int))] ((q0, (.mem (e49 (S49.mk t17.2.2.f0 t17.2.2.f1 (w64 (t17.2.2.f2 - (1 : Int))))))) :: T0) _ rfl rfl rfl 55 rfl (by decide) ok31 ⟨rfl, rfl, rfl, rfl, trivial⟩ (Sub.cons 0 rfl (Sub.refl _)) (rex_reader_eat_spec et26) ?_
          rintro _ _ ⟨rfl, hs27⟩
          refine AO.wH [0, 4, 5, 44, 45, 46, 47, 48, 49, 50, 51, 52, 53, 54, 55] hs27 ?_
          refine AO.c (Calm.pickT rfl (bD (decide_eq_true hc25)) rfl) ?_
          refine AO.c (Calm.assign rfl rfl) ?_
          refine AO.c (Calm.assign rfl rfl) ?_
          cases hq23
          refine AO.nilE ⟨rfl, rfl⟩ ?_ ?_
          · exact ⟨rfl, rfl, trivial⟩
          · exact (Sub.refl _)
         ·refine AO.sT rfl rfl (bD (decide_eq_false hc25)) ?_
          refine AO.sT rfl rfl (bD (decide_eq_false hc25)) ?_
          refine AO.c (Calm.pickF rfl (bD (decide_eq_false hc25)) rfl) ?_
          refine AO.c (Calm.assign rfl rfl) ?_
          refine AO.c (Calm.assign rfl rfl) ?_
          cases hq23
          refine AO.nilE ⟨rfl, rfl⟩ ?_ ?_
          · exact ⟨rfl, rfl, trivial⟩
          · exact (Sub.refl _)
        ·refine AO.sT rfl rfl (bD (eq_false_of_ne_true hc24)) ?_
         refine AO.sT rfl rfl (bD (eq_false_of_ne_true hc24)) ?_
         refine AO.sT rfl rfl (bD (eq_false_of_ne_true hc24)) ?_
         refine AO.sT rfl rfl (bD (eq_false_of_ne_true hc24)) ?_
         refine AO.sT rfl rfl (bD (eq_false_of_ne_true hc24)) ?_
         refine AO.c (Calm.pickF rfl (bD (eq_false_of_ne_true hc24)) rfl) ?_
         refine AO.c (Calm.move rfl rfl) ?_
         refine AO.sT rfl rfl rfl ?_
         refine AO.sT rfl rfl rfl ?_
         refine AO.c (Calm.pickF rfl rfl rfl) ?_
         refine AO.c (Calm.assign rfl rfl) ?_
         refine AO.c (Calm.assign rfl rfl) ?_
         cases hq23
         refine AO.nilE ⟨rfl, rfl⟩ ?_ ?_
         · exact ⟨rfl, rfl, trivial⟩
         · exact (Sub.refl _)
       ·refine AW.rK [2, 3] ?_
        have hr := Option.some.inj h
        subst hr
        exact ⟨[(.fz 5 (t17.1.map e40)), (eBool b19)], ⟨rfl, rfl, rfl, rfl, trivial⟩, rfl, (Sub.cons 0 rfl (Sub.refl _))⟩
      ·refine AW.condF' _ rfl hc16 ?_
       refine AW.sr ?_
       refine AO.c (Calm.move rfl rfl) ?_
       obtain ⟨t28, et28, h⟩ := of_bind h
       refine AO.callH [(.ptr q0 0), (eU8 (91 : Int))] ((q0, (.mem (e49 t14.2))) :: T0) _ rfl rfl rfl 59 rfl (by decide) ok31 ⟨rfl, rfl, rfl, rfl, trivial⟩ (Sub.cons 0 rfl (Sub.refl _)) (rex_reader_eat_spec et28) ?_
       rintro _ _ ⟨rfl, hs29⟩
       refine AO.wH [0, 22, 58, 59] hs29 ?_
       refine AO.c (Calm.assign rfl rfl) ?_
       refine AO.nK [0, 57] ?_
       rcases of_ite h with ⟨hc30, h⟩ | ⟨hc30, h⟩
       ·refine AW.condT' _ rfl hc30 ?_
        refine AW.sr ?_
        refine AO.c (Calm.move rfl rfl) ?_
        obtain ⟨t31, et31, h⟩ := of_bind h
        refine AO.callH [(.ptr q0 0)] ((q0, (.mem (e49 t28.2))) :: T0) _ rfl rfl rfl 61 rfl (by decide) ok54 ⟨rfl, rfl, trivial⟩ (Sub.cons 0 rfl (Sub.refl _)) (rex_reader_brackets_spec et31) ?_
        rintro _ _ ⟨rfl, hs32⟩
        refine AO.wH [0, 57, 60, 61] hs32 ?_
        refine AO.c (Calm.extract rfl rfl rfl) ?_
        refine AO.c (Calm.extract rfl rfl rfl) ?_
        refine AO.c (Calm.assign rfl rfl) ?_
        refine AO.c (Calm.assign rfl rfl) ?_
        refine AO.nK [2, 3] ?_
        refine AW.rK [2, 3] ?_
        have hr := Option.some.inj h
        subst hr
        exact ⟨[(.fz 5 (t31.1.map e40)), (eBool t31.2.1)], ⟨rfl, rfl, rfl, rfl, trivial⟩, rfl, (Sub.cons 0 rfl (Sub.refl _))⟩
       ·refine AW.condF' _ rfl hc30 ?_
        refine AW.sK [0] ?_
        refine AW.sr ?_
        refine AO.c (Calm.move rfl rfl) ?_
        obtain ⟨t33, et33, h⟩ := of_bind h
        refine AO.callH [(.ptr q0 0)] ((q0, (.mem (e49 t28.2))) :: T0) _ rfl rfl rfl 66 rfl (by decide) ok55 ⟨rfl, rfl, trivial⟩ (Sub.cons 0 rfl (Sub.refl _)) (rex_reader_byte_spec et33) ?_
        rintro _ _ ⟨rfl, hs34⟩
        refine AO.wH [0, 65, 66] hs34 ?_
        refine AO.c (Calm.move rfl rfl) ?_
        refine AO.c (Calm.extract rfl rfl rfl) ?_
        refine AO.c (Calm.extract rfl rfl rfl) ?_
        refine AO.c (Calm.assign rfl rfl) ?_
        refine AO.c (Calm.assign rfl rfl) ?_
        refine AO.nK [6, 7] ?_
        refine AW.sr ?_
        refine AO.c (Calm.move rfl rfl) ?_
        refine AO.lit (Z := (eU8 (0 : Int))) (xs := (([t33.1] : List Int).map eU8)) (qs := [(0, (eU8 t33.1))]) rfl 70 rfl (by decide) rfl ⟨rfl, rfl, rfl, trivial⟩ Tryd.underlying60 sz5 zr5 lay5 rfl (by decide) (litOK (z := 1) [(eU8 t33.1)] rfl ⟨⟨rfl, rfl⟩, trivial⟩) rfl fun n35 => ?_
        obtain ⟨t36, et36, h⟩ := of_bind h
        refine AO.freezeS 0 [(70, (.fz 1 (([t33.1] : List Int).map eU8)))] rfl ⟨fz_all rfl, trivial⟩ ?_
        refine AO.callS [(.fz 1 (([t33.1] : List Int).map eU8))] (.ar 1 (t36.toList.map eU64)) 71 rfl (by decide) ok56 rfl rfl rfl ⟨rfl, rfl, trivial⟩ (byteset_Of_spec et36) ?_
        refine AO.c (x := .st [(1, (eI64 (1 : Int))), (4, (.ar 1 (t36.toList.map eU64)))]) (Calm.build (qs := [(0, (eI64 (1 : Int))), (1, (.ar 1 (t36.toList.map eU64)))]) rfl ⟨rfl, rfl, rfl, rfl, rfl, rfl, trivial⟩ Tryd.underlying40 rfl zr40 lay40 (.cons rfl rfl rfl rfl (Put.cast (Put.fld0 Put.here) rfl) (.cons rfl rfl (vec_size _ _) (vec_size _ _) (Put.cast (Put.fldS (Put.fld0 Put.here)) rfl) .nil)) rfl) ?_
        refine AO.lit (Z := (.st [(1, (eI64 (0 : Int))), (4, (.ar 1 ((Vector.replicate 4 (0 : Int)).toList.map eU64)))])) (xs := (([(S40.mk (1 : Int) t36)] : List S40).map e40)) (qs := [(0, (e40 (S40.mk (1 : Int) t36)))]) rfl 73 rfl (by decide) rfl ⟨rfl, rfl, rfl, trivial⟩ Tryd.underlying23 sz40 zr40 lay40 rfl (by decide) (litOK (z := 5) [(e40 (S40.mk (1 : Int) t36))] rfl ⟨⟨rfl, rfl⟩, trivial⟩) rfl fun n37 => ?_
        refine AO.c (Calm.move rfl rfl) ?_
        refine AO.c (Calm.assign rfl rfl) ?_
        refine AO.c (Calm.assign rfl rfl) ?_
        refine AO.nH [2, 3] (H' := ((q0, (.mem (e49 t33.2.2))) :: (n37, (.mem (.ar 5 (([(S40.mk (1 : Int) t36)] : List S40).map e40)))) :: T0)) (Sub.cons 1 rfl (Sub.cons 0 rfl (Sub.refl _))) ?_
        refine AW.freezeS 1 [(2, (.fz 5 (([(S40.mk (1 : Int) t36)] : List S40).map e40)))] rfl ⟨fz_all rfl, trivial⟩ ?_
        refine AW.rK [2, 3] ?_
        have hr := Option.some.inj h
        subst hr
        exact ⟨[(.fz 5 (([(S40.mk (1 : Int) t36)] : List S40).map e40)), (eBool t33.2.1)], ⟨rfl, rfl, rfl, rfl, trivial⟩, rfl, (Sub.cons 0 rfl (Sub.refl _))⟩
theorem rex_reader_alt_spec {k : Nat} {p0 : S49} {r : ((List S40) × Bool × S49)} (h : rex_reader_alt k p0 = some r) {q0 : Nat} {T0 : Heap} : SpecH Tryd.prog 21 [(.ptr q0 0)] ((q0, (.mem (e49 p0))) :: T0) (fun x H' => x = .tup [(.fz 5 (r.1.map e40)), (eBool r.2.1)] ∧ Sub ((q0, (.mem (e49 r.2.2))) :: T0) H') := (rex_reader_alt_all k k).1 p0 r h q0 T0
end Go.Avl.TE
/- bosket/rex.Parse; printed by avmain.py. -/
namespace Go.Avl.TE
open Go Go.RowKit Go.Proofs Go.Avl
set_option linter.unusedVariables false
set_option maxRecDepth 100000
set_option maxHeartbeats 4000000
attribute [local irreducible] AW AO AQ Spec SpecH Calm

def rex_Parse (k : Nat) (p0 : ByteArray) : Option ((List S40) × Int) :=
  if (1600 : Int) < (p0.size : Int) then some ([], (6 : Int))
  else (rex_reader_alt k (S49.mk p0 (0 : Int) (0 : Int))).bind fun t4 =>
  Option.bind (α := Bool) (if (!t4.2.1) = true then some (true)
  else some (decide (t4.2.2.f1 < (p0.size : Int)))) fun b6 =>
  if b6 = true then some ([], (5 : Int))
  else if (400 : Int) < (t4.1.length : Int) then some ([], (6 : Int))
  else some (t4.1, (0 : Int))
theorem rex_Parse_spec {k : Nat} {p0 : ByteArray} {r : ((List S40) × Int)} (h : rex_Parse k p0 = some r) : Spec Tryd.prog 8 [(eStr p0)] (.tup [(.fz 5 (r.1.map e40)), (eI64 r.2)]) := by
  rw [rex_Parse.eq_1] at h
  refine Spec.intro (res := [.tmp 2, .tmp 3]) Tryd.func8 rfl rfl rfl (Nat.le_of_ble_eq_true rfl) ?_
  refine AW.sr ?_
  refine AO.c (Calm.assign rfl rfl) ?_
  refine AO.c (Calm.assign rfl rfl) ?_
  refine AO.nK [0] ?_
  refine AW.seq ?_
  refine AW.sr ?_
  refine AO.c (Calm.move rfl rfl) ?_
  refine AO.c (Calm.lenStr rfl rfl Tryd.underlying9) ?_
  refine AO.c (x := eBool (decide ((1600 : Int) < (p0.size : Int)))) (Calm.int rfl rfl rfl rfl) ?_
  refine AO.nK [0, 9] ?_
  rcases of_ite h with ⟨hc2, h⟩ | ⟨hc2, h⟩
  ·refine AW.condP _ rfl hc2 ?_
   refine AW.sr ?_
   refine AO.c (Calm.assign rfl rfl) ?_
   refine AO.c (Calm.assign rfl rfl) ?_
   refine AO.nK [2, 3] ?_
   refine AW.coeC 2 (y' := (.fz 5 (([] : List S40).map e40))) rfl Coe.nil ?_
   refine AW.rK [2, 3] ?_
   have hr := Option.some.inj h
   subst hr
   exact ⟨[(.fz 5 (([] : List S40).map e40)), (eI64 (6 : Int))], ⟨rfl, rfl, rfl, rfl, trivial⟩, rfl⟩
  ·refine AW.condN _ rfl hc2 ?_
   refine AW.sK [0] ?_
   refine AW.sr ?_
   refine AO.c (Calm.move rfl rfl) ?_
   refine AO.c (x := .st [(1, (eStr p0)), (1, (eI64 (0 : Int))), (1, (eI64 (0 : Int)))]) (Calm.build (qs := [(0, (eStr p0))]) rfl ⟨rfl, rfl, rfl, trivial⟩ Tryd.underlying49 rfl zr49 lay49 (.cons rfl rfl rfl rfl (Put.cast (Put.fld0 Put.here) rfl) .nil) rfl) ?_
   refine AO.box rfl 12 rfl (by decide) rfl rfl rfl fun n3 => ?_
   refine AO.c (Calm.assign rfl rfl) ?_
   refine AO.nK [0, 4] ?_
   refine AW.sr ?_
   refine AO.c (Calm.move rfl rfl) ?_
   obtain ⟨t4, et4, h⟩ := of_bind h
   refine AO.callH [(.ptr n3 0)] [(n3, (.mem (e49 (S49.mk p0 (0 : Int) (0 : Int)))))] _ rfl rfl rfl 15 rfl (by decide) ok21 ⟨rfl, rfl, trivial⟩ (Sub.cons 0 rfl (Sub.refl _)) (rex_reader_alt_spec et4) ?_
   rintro _ _ ⟨rfl, hs5⟩
   refine AO.wH [0, 4, 14, 15] hs5 ?_
   refine AO.c (Calm.move rfl rfl) ?_
   refine AO.c (Calm.extract rfl rfl rfl) ?_
   refine AO.c (Calm.extract rfl rfl rfl) ?_
   refine AO.c (Calm.assign rfl rfl) ?_
   refine AO.c (Calm.assign rfl rfl) ?_
   refine AO.nK [0, 4, 5, 6] ?_
   refine AW.seq ?_
   refine AW.block ?_
   refine AW.seq ?_
   obtain ⟨b6, hq7, h⟩ := of_bind h
   refine AW.regM [(5, (.fz 5 (t4.1.map e40))), (18, (eBool b6))] [] ?_ ?_
   ·refine AO.c (Calm.move rfl rfl) ?_
    refine AO.c (Calm.not rfl rfl) ?_
    refine AO.c (Calm.move rfl rfl) ?_
    rcases of_ite hq7 with ⟨hc8, hq7⟩ | ⟨hc8, hq7⟩
    ·refine AO.sF rfl rfl (bD hc8) ?_
     refine AO.sF rfl rfl (bD hc8) ?_
     refine AO.sF rfl rfl (bD hc8) ?_
     refine AO.sF rfl rfl (bD hc8) ?_
     refine AO.sF rfl rfl (bD hc8) ?_
     refine AO.sF rfl rfl (bD hc8) ?_
     refine AO.sF rfl rfl (bD hc8) ?_
     refine AO.c (Calm.pickT rfl (bD hc8) rfl) ?_
     refine AO.c (Calm.assign rfl rfl) ?_
     cases hq7
     refine AO.nilE ⟨rfl, rfl⟩ ?_ ?_
     · exact ⟨rfl, rfl, trivial⟩
     · exact (Sub.nil _)
    ·refine AO.cG rfl rfl (bD (eq_false_of_ne_true hc8)) (Calm.move rfl rfl) ?_
     refine AO.cG rfl rfl (bD (eq_false_of_ne_true hc8)) (Calm.nilCheck rfl rfl) ?_
     refine AO.cG (x := .ptr n3 1) rfl rfl (bD (eq_false_of_ne_true hc8)) (Calm.fldPtr rfl rfl Tryd.underlying49 rfl sz3 _ rfl) ?_
     refine AO.cG rfl rfl (bD (eq_false_of_ne_true hc8)) (Calm.load 0 rfl rfl rfl (At.cast (At.fldS (At.fld0 At.here)) rfl) ag3 sz3) ?_
     refine AO.cG rfl rfl (bD (eq_false_of_ne_true hc8)) (Calm.move rfl rfl) ?_
     refine AO.cG rfl rfl (bD (eq_false_of_ne_true hc8)) (Calm.lenStr rfl rfl Tryd.underlying9) ?_
     refine AO.cG (x := eBool (decide (t4.2.2.f1 < (p0.size : Int)))) rfl rfl (bD (eq_false_of_ne_true hc8)) (Calm.int rfl rfl rfl rfl) ?_
     refine AO.c (Calm.pickF rfl (bD (eq_false_of_ne_true hc8)) rfl) ?_
     refine AO.c (Calm.assign rfl rfl) ?_
     cases hq7
     refine AO.nilE ⟨rfl, rfl⟩ ?_ ?_
     · exact ⟨rfl, rfl, trivial⟩
     · exact (Sub.nil _)
   ·rcases of_ite h with ⟨hc9, h⟩ | ⟨hc9, h⟩
    ·refine AW.condT' _ rfl hc9 ?_
     refine AW.sr ?_
     refine AO.c (Calm.assign rfl rfl) ?_
     refine AO.c (Calm.assign rfl rfl) ?_
     refine AO.nK [2, 3] ?_
     refine AW.coeC 2 (y' := (.fz 5 (([] : List S40).map e40))) rfl Coe.nil ?_
     refine AW.rK [2, 3] ?_
     have hr := Option.some.inj h
     subst hr
     exact ⟨[(.fz 5 (([] : List S40).map e40)), (eI64 (5 : Int))], ⟨rfl, rfl, rfl, rfl, trivial⟩, rfl⟩
    ·refine AW.condF' _ rfl hc9 ?_
     refine AW.sr ?_
     refine AO.c (Calm.move rfl rfl) ?_
     refine AO.c (Calm.lenL rfl rfl Tryd.underlying23) ?_
     refine AO.c (x := eBool (decide ((400 : Int) < (t4.1.length : Int)))) (Calm.int rfl rfl rfl rfl) ?_
     refine AO.c (Calm.assign rfl rfl) ?_
     refine AO.nK [5, 30] ?_
     rcases of_ite h with ⟨hc10, h⟩ | ⟨hc10, h⟩
     ·refine AW.condP _ rfl hc10 ?_
      refine AW.sr ?_
      refine AO.c (Calm.assign rfl rfl) ?_
      refine AO.c (Calm.assign rfl rfl) ?_
      refine AO.nK [2, 3] ?_
      refine AW.coeC 2 (y' := (.fz 5 (([] : List S40).map e40))) rfl Coe.nil ?_
      refine AW.rK [2, 3] ?_
      have hr := Option.some.inj h
      subst hr
      exact ⟨[(.fz 5 (([] : List S40).map e40)), (eI64 (6 : Int))], ⟨rfl, rfl, rfl, rfl, trivial⟩, rfl⟩
     ·refine AW.condN _ rfl hc10 ?_
      refine AW.sK [5] ?_
      refine AW.sr ?_
      refine AO.c (Calm.move rfl rfl) ?_
      refine AO.c (Calm.assign rfl rfl) ?_
      refine AO.c (Calm.assign rfl rfl) ?_
      refine AO.nK [2, 3] ?_
      refine AW.rK [2, 3] ?_
      have hr := Option.some.inj h
      subst hr
      exact ⟨[(.fz 5 (t4.1.map e40)), (eI64 (0 : Int))], ⟨rfl, rfl, rfl, rfl, trivial⟩, rfl⟩
end Go.Avl.TE
/- bosket/rex.Check; printed by avmain.py. -/
namespace Go.Avl.TE
open Go Go.RowKit Go.Proofs Go.Avl
set_option linter.unusedVariables false
set_option maxRecDepth 100000
set_option maxHeartbeats 4000000
attribute [local irreducible] AW AO AQ Spec SpecH Calm

def rex_Check_c0 (k : Nat) (x3 : Int) : Option Int :=
  if x3 ≠ (1 : Int) then some ((5 : Int))
  else some ((0 : Int))
def rex_Check_l1 (k : Nat) (p0 : (List S40)) : Nat → Int → Int → Option Int
  | 0, _, _ => none
  | j + 1, x5, x6 =>
    if x6 < (p0.length : Int) then if 0 ≤ x6 ∧ x6 < (p0.length : Int) then (rex_Takes k ((lget p0 x6).f0)).bind fun t12 =>
    Option.bind (α := Bool) (if t12 < (0 : Int) then some (true)
    else if x5 < t12 then some (true)
    else (byteset_Empty k ((lget p0 x6).f1)).bind fun t17 =>
    some (((decide (((lget p0 x6).f0) = (1 : Int))) == t17))) fun b13 =>
    if b13 = true then some ((5 : Int))
    else (rex_Check_l1 k p0 j) (w64 (x5 + (w64 ((1 : Int) - t12)))) (w64 (x6 + (1 : Int)))
    else none
    else rex_Check_c0 k x5
def rex_Check (k : Nat) (p0 : (List S40)) : Option Int :=
  if (400 : Int) < (p0.length : Int) then some ((6 : Int))
  else rex_Check_l1 k p0 k (0 : Int) (0 : Int)
theorem rex_Check_spec {k : Nat} {p0 : (List S40)} {r : Int} (h : rex_Check k p0 = some r) : Spec Tryd.prog 12 [(.fz 5 (p0.map e40))] (eI64 r) := by
  rw [rex_Check.eq_1] at h
  refine Spec.intro (res := [.tmp 2]) Tryd.func12 rfl rfl rfl (Nat.le_of_ble_eq_true rfl) ?_
  refine AW.sr ?_
  refine AO.c (Calm.assign rfl rfl) ?_
  refine AO.nK [0] ?_
  refine AW.seq ?_
  refine AW.sr ?_
  refine AO.c (Calm.move rfl rfl) ?_
  refine AO.c (Calm.lenL rfl rfl Tryd.underlying23) ?_
  refine AO.c (x := eBool (decide ((400 : Int) < (p0.length : Int)))) (Calm.int rfl rfl rfl rfl) ?_
  refine AO.nK [0, 9] ?_
  rcases of_ite h with ⟨hc2, h⟩ | ⟨hc2, h⟩
  ·refine AW.condP _ rfl hc2 ?_
   refine AW.sr ?_
   refine AO.c (Calm.assign rfl rfl) ?_
   refine AO.nK [2] ?_
   refine AW.rK [2] ?_
   have hr := Option.some.inj h
   subst hr
   exact ⟨[(eI64 (6 : Int))], ⟨rfl, rfl, trivial⟩, rfl⟩
  ·refine AW.condN _ rfl hc2 ?_
   refine AW.sK [0] ?_
   refine AW.sr ?_
   refine AO.c (Calm.assign rfl rfl) ?_
   refine AO.nK [0, 3] ?_
   refine AW.seq_mid (fun ρ H => ∃ (x3 : Int), ρ = [(3, (eI64 x3))] ∧ H = [] ∧ rex_Check_c0 k x3 = some r) ?_ ?_
   ·refine AW.sr ?_
    refine AO.c (Calm.move rfl rfl) ?_
    refine AO.c (Calm.lenL rfl rfl Tryd.underlying23) ?_
    refine AO.c (Calm.move rfl rfl) ?_
    refine AO.nK [3, 10, 11, 12] ?_
    refine AW.block ?_
    refine AW.wK [3, 10, 11, 12] ?_
    refine AW.loop (fun kq ρ H => ∃ (x5 : Int) (x6 : Int), ρ = [(3, (eI64 x5)), (10, (.fz 5 (p0.map e40))), (11, (eI64 (p0.length : Int))), (12, (eI64 x6))] ∧ H = [] ∧ rex_Check_l1 k p0 kq x5 x6 = some r) k ⟨(0 : Int), (0 : Int), rfl, rfl, h⟩ ?_
    rintro kq8 _ _ ⟨x5, x6, rfl, rfl, h⟩
    cases kq8 with
    | zero => rw [rex_Check_l1.eq_1] at h; cases h
    | succ kq8 =>
    rw [rex_Check_l1.eq_2] at h
    generalize hrec7 : rex_Check_l1 k p0 kq8 = rec7 at h
    refine AW.sr ?_
    refine AO.c (x := eBool (decide (x6 < (p0.length : Int)))) (Calm.int rfl rfl rfl rfl) ?_
    refine AO.nK [3, 10, 11, 12, 13] ?_
    refine AW.seq ?_
    rcases of_ite h with ⟨hc9, h⟩ | ⟨hc9, h⟩
    ·refine AW.condP _ rfl hc9 ?_
     refine AW.sK [3, 10, 11, 12] ?_
     refine AW.seq ?_
     refine AW.block ?_
     refine AW.sr ?_
     obtain ⟨hg10, h⟩ := of_guard h
     refine AO.c (Calm.idxL (f := e40) rfl rfl rfl hg10 Tryd.underlying23 sz40) ?_
     refine AO.c (Calm.loadRp rfl rfl ag40 sz40) ?_
     refine AO.alloc rfl 5 rfl (by decide) rfl zr40 lay40 fun n11 => ?_
     refine AO.store (X' := (e40 (lget p0 x6))) 0 rfl rfl rfl rfl rfl rfl (Put.cast Put.here rfl) rfl rfl sz40 rfl ?_
     refine AO.nK [3, 5, 10, 11, 12] ?_
     refine AW.sr ?_
     refine AO.c (x := .ptr n11 0) (Calm.fldPtr rfl rfl Tryd.underlying40 rfl sz3 _ rfl) ?_
     refine AO.c (Calm.load 0 rfl rfl rfl (At.cast (At.fld0 At.here) rfl) ag3 sz3) ?_
     obtain ⟨t12, et12, h⟩ := of_bind h
     refine AO.callS [(eI64 ((lget p0 x6).f0))] (eI64 t12) 18 rfl (by decide) ok25 rfl rfl rfl ⟨rfl, rfl, trivial⟩ (rex_Takes_spec et12) ?_
     refine AO.c (Calm.assign rfl rfl) ?_
     refine AO.nK [3, 5, 6, 10, 11, 12] ?_
     refine AW.seq ?_
     refine AW.seq ?_
     obtain ⟨b13, hq14, h⟩ := of_bind h
     refine AW.regQM (by rfl) (by decide +kernel) [(3, (eI64 x5)), (6, (eI64 t12)), (10, (.fz 5 (p0.map e40))), (11, (eI64 (p0.length : Int))), (12, (eI64 x6)), (34, (eBool b13))] ?_ ?_
     ·refine AQ.c (Calm.move rfl rfl) ?_
      refine AQ.c (x := eBool (decide (t12 < (0 : Int)))) (Calm.int rfl rfl rfl rfl) ?_
      refine AQ.c (Calm.move rfl rfl) ?_
      rcases of_ite hq14 with ⟨hc15, hq14⟩ | ⟨hc15, hq14⟩
      ·refine AQ.sF rfl rfl (bD (decide_eq_true hc15)) ?_
       refine AQ.sF rfl rfl (bD (decide_eq_true hc15)) ?_
       refine AQ.sF rfl rfl (bD (decide_eq_true hc15)) ?_
       refine AQ.c (Calm.pickT rfl (bD (decide_eq_true hc15)) rfl) ?_
       refine AQ.c (Calm.move rfl rfl) ?_
       refine AQ.sF rfl rfl rfl ?_
       refine AQ.sF rfl rfl rfl ?_
       refine AQ.sF rfl rfl rfl ?_
       refine AQ.sF rfl rfl rfl ?_
       refine AQ.sF rfl rfl rfl ?_
       refine AQ.sF rfl rfl rfl ?_
       refine AQ.sF rfl rfl rfl ?_
       refine AQ.c (Calm.pickT rfl rfl rfl) ?_
       cases hq14
       refine AQ.nilE rfl ?_
       exact ⟨rfl, rfl, rfl, rfl, rfl, rfl, trivial⟩
      ·refine AQ.cG rfl rfl (bD (decide_eq_false hc15)) (Calm.move rfl rfl) ?_
       refine AQ.cG rfl rfl (bD (decide_eq_false hc15)) (Calm.move rfl rfl) ?_
       refine AQ.cG (x := eBool (decide (x5 < t12))) rfl rfl (bD (decide_eq_false hc15)) (Calm.int rfl rfl rfl rfl) ?_
       refine AQ.c (Calm.pickF rfl (bD (decide_eq_false hc15)) rfl) ?_
       refine AQ.c (Calm.move rfl rfl) ?_
       rcases of_ite hq14 with ⟨hc16, hq14⟩ | ⟨hc16, hq14⟩
       ·refine AQ.sF rfl rfl (bD (decide_eq_true hc16)) ?_
        refine AQ.sF rfl rfl (bD (decide_eq_true hc16)) ?_
        refine AQ.sF rfl rfl (bD (decide_eq_true hc16)) ?_
        refine AQ.sF rfl rfl (bD (decide_eq_true hc16)) ?_
        refine AQ.sF rfl rfl (bD (decide_eq_true hc16)) ?_
        refine AQ.sF rfl rfl (bD (decide_eq_true hc16)) ?_
        refine AQ.sF rfl rfl (bD (decide_eq_true hc16)) ?_
        refine AQ.c (Calm.pickT rfl (bD (decide_eq_true hc16)) rfl) ?_
        cases hq14
        refine AQ.nilE rfl ?_
        exact ⟨rfl, rfl, rfl, rfl, rfl, rfl, trivial⟩
       ·refine AQ.cG (x := .ptr n11 0) rfl rfl (bD (decide_eq_false hc16)) (Calm.fldPtr rfl rfl Tryd.underlying40 rfl sz3 _ rfl) ?_
        refine AQ.cG rfl rfl (bD (decide_eq_false hc16)) (Calm.load 0 rfl rfl rfl (At.cast (At.fld0 At.here) rfl) ag3 sz3) ?_
        refine AQ.cG (x := eBool (decide (((lget p0 x6).f0) = (1 : Int)))) rfl rfl (bD (decide_eq_false hc16)) (Calm.int rfl rfl rfl rfl) ?_
        refine AQ.cG (x := .ptr n11 1) rfl rfl (bD (decide_eq_false hc16)) (Calm.fldPtr rfl rfl Tryd.underlying40 rfl sz38 _ rfl) ?_
        refine AQ.cG rfl rfl (bD (decide_eq_false hc16)) (Calm.load 0 rfl rfl rfl (At.cast (At.fldS (At.fld0 At.here)) rfl) ag38 (by rw [sz38]; simp [AV.size])) ?_
        obtain ⟨t17, et17, hq14⟩ := of_bind hq14
        refine AQ.cG rfl rfl (bD (decide_eq_false hc16)) (Calm.call (args := [(.ar 1 (((lget p0 x6).f1).toList.map eU64))]) rfl rfl ok26 ⟨rfl, rfl, trivial⟩ rfl (byteset_Empty_spec et17)) ?_
        refine AQ.cG (x := eBool ((decide (((lget p0 x6).f0) = (1 : Int))) == t17)) rfl rfl (bD (decide_eq_false hc16)) (Calm.boolEq rfl rfl rfl Tryd.underlying4) ?_
        refine AQ.c (Calm.pickF rfl (bD (decide_eq_false hc16)) rfl) ?_
        cases hq14
        refine AQ.nilE rfl ?_
        exact ⟨rfl, rfl, rfl, rfl, rfl, rfl, trivial⟩
     ·rcases of_ite h with ⟨hc18, h⟩ | ⟨hc18, h⟩
      ·refine AW.condT' _ rfl hc18 ?_
       refine AW.sr ?_
       refine AO.c (Calm.assign rfl rfl) ?_
       refine AO.nH [2] (H' := []) (Sub.nil _) ?_
       refine AW.rK [2] ?_
       have hr := Option.some.inj h
       subst hr
       exact ⟨[(eI64 (5 : Int))], ⟨rfl, rfl, trivial⟩, rfl⟩
      ·refine AW.condF' _ rfl hc18 ?_
       refine AW.sH [3, 6, 10, 11, 12] (H' := []) (Sub.nil _) ?_
       refine AW.reg ?_
       refine AO.c (Calm.move rfl rfl) ?_
       refine AO.c (Calm.move rfl rfl) ?_
       refine AO.c (x := eI64 (w64 ((1 : Int) - t12))) (Calm.int rfl rfl rfl rfl) ?_
       refine AO.c (x := eI64 (w64 (x5 + (w64 ((1 : Int) - t12))))) (Calm.int rfl rfl rfl rfl) ?_
       refine AO.c (Calm.assign rfl rfl) ?_
       refine AO.nK [3, 10, 11, 12] ?_
       refine AW.reg ?_
       refine AO.c (x := eI64 (w64 (x6 + (1 : Int)))) (Calm.int rfl rfl rfl rfl) ?_
       refine AO.c (Calm.move rfl rfl) ?_
       refine AO.nK [3, 10, 11, 12] ?_
       exact ⟨kq8, Nat.lt_succ_self _, (w64 (x5 + (w64 ((1 : Int) - t12)))), (w64 (x6 + (1 : Int))), rfl, rfl, by rw [hrec7]; exact h⟩
    ·refine AW.condN _ rfl hc9 ?_
     refine AW.eK [3] ?_
     exact ⟨x5, rfl, rfl, h⟩
   ·rintro _ _ ⟨x3, rfl, rfl, h⟩
    rw [rex_Check_c0.eq_1] at h
    refine AW.seq ?_
    refine AW.sr ?_
    refine AO.c (Calm.move rfl rfl) ?_
    refine AO.c (x := eBool (decide (x3 ≠ (1 : Int)))) (Calm.int rfl rfl rfl rfl) ?_
    refine AO.nK [41] ?_
    rcases of_ite h with ⟨hc4, h⟩ | ⟨hc4, h⟩
    ·refine AW.condP _ rfl hc4 ?_
     refine AW.sr ?_
     refine AO.c (Calm.assign rfl rfl) ?_
     refine AO.nK [2] ?_
     refine AW.rK [2] ?_
     have hr := Option.some.inj h
     subst hr
     exact ⟨[(eI64 (5 : Int))], ⟨rfl, rfl, trivial⟩, rfl⟩
    ·refine AW.condN _ rfl hc4 ?_
     refine AW.sK [] ?_
     refine AW.sr ?_
     refine AO.c (Calm.assign rfl rfl) ?_
     refine AO.nK [2] ?_
     refine AW.rK [2] ?_
     have hr := Option.some.inj h
     subst hr
     exact ⟨[(eI64 (0 : Int))], ⟨rfl, rfl, trivial⟩, rfl⟩
end Go.Avl.TE
/- slices.Clone[bosket/api.Regex,bosket/api.Piece]; printed by avmain.py. -/
namespace Go.Avl.TE
open Go Go.RowKit Go.Proofs Go.Avl
set_option linter.unusedVariables false
set_option maxRecDepth 100000
set_option maxHeartbeats 4000000
attribute [local irreducible] AW AO AQ Spec SpecH Calm

def slices_Clone_api_Regex_api_Piece_ (k : Nat) (p0 : (List S40)) : Option (List S40) :=
  if (([] : List S40) ++ p0).length * 40 ≤ 140737488355328 then some ((([] : List S40) ++ p0))
  else none
def slices_Clone_api_Regex_api_Piece__own (k : Nat) (p0 : (List S40)) : Option (List S40) :=
  if (([] : List S40) ++ p0).length * 40 ≤ 140737488355328 then some ((([] : List S40) ++ p0))
  else none
theorem slices_Clone_api_Regex_api_Piece__spec {k : Nat} {p0 : (List S40)} {r : (List S40)} (h : slices_Clone_api_Regex_api_Piece_ k p0 = some r) : Spec Tryd.prog 27 [(.fz 5 (p0.map e40))] (e23 r) := by
  rw [slices_Clone_api_Regex_api_Piece_.eq_1] at h
  refine Spec.intro (res := [.tmp 2]) Tryd.func27 rfl rfl rfl (Nat.le_of_ble_eq_true rfl) ?_
  refine AW.sr ?_
  refine AO.c (Calm.assign rfl rfl) ?_
  refine AO.nK [0] ?_
  refine AW.seq ?_
  refine AW.sr ?_
  refine AO.c (Calm.move rfl rfl) ?_
  refine AO.nilFz rfl 4 rfl (by decide) rfl rfl Tryd.underlying23 fun gb2 hgb2 => ?_
  refine AO.nK [0, 4] ?_
  cases gb2
  ·refine AW.condF rfl ?_
   refine AW.sK [0] ?_
   refine AW.sr ?_
   refine AO.lit (Z := (.st [(1, (eI64 (0 : Int))), (4, (.ar 1 ((Vector.replicate 4 (0 : Int)).toList.map eU64)))])) (xs := (([] : List S40).map e40)) (qs := []) rfl 5 rfl (by decide) rfl trivial Tryd.underlying23 sz40 zr40 lay40 rfl (by decide) (litOK (z := 5) [] rfl trivial) rfl fun n3 => ?_
   refine AO.c (Calm.move rfl rfl) ?_
   obtain ⟨hg5, h⟩ := of_guard h
   refine AO.appendL (l := ([] : List S40)) (m := p0) 0 7 rfl (by decide) rfl rfl rfl rfl rfl Src.fz Tryd.underlying23 Tryd.underlying23 sz40 by40 zr40 rfl hg5 (by decide) fun n4 => ?_
   refine AO.c (Calm.assign rfl rfl) ?_
   refine AO.nK [2] ?_
   refine AW.freezeS 0 [(2, (.fz 5 ((([] : List S40) ++ p0).map e40)))] rfl ⟨fz_all rfl, trivial⟩ ?_
   refine AW.rK [2] ?_
   have hr := Option.some.inj h
   subst hr
   exact ⟨[(.fz 5 ((([] : List S40) ++ p0).map e40))], ⟨rfl, rfl, trivial⟩, rfl⟩
  ·have hn6 : p0 = [] := List.map_eq_nil_iff.1 (hgb2 rfl)
   have h : (some ([])) = some r := by simpa [hn6] using h
   refine AW.condT rfl ?_
   refine AW.sr ?_
   refine AO.c (Calm.assign rfl rfl) ?_
   refine AO.nK [2] ?_
   refine AW.coeC 2 (y' := (.fz 5 (([] : List S40).map e40))) rfl Coe.nil ?_
   refine AW.rK [2] ?_
   have hr := Option.some.inj h
   subst hr
   exact ⟨[(.fz 5 (([] : List S40).map e40))], ⟨rfl, rfl, trivial⟩, rfl⟩
theorem slices_Clone_api_Regex_api_Piece__own_spec {k : Nat} {p0 : (List S40)} {r : (List S40)} (h : slices_Clone_api_Regex_api_Piece__own k p0 = some r) {T0 : Heap} : SpecH Tryd.prog 27 [(.fz 5 (p0.map e40))] (T0) (fun x H' => ∃ m, x = .own m 0 r.length ∧ Sub ((m, .mem (.ar 5 (r.map e40))) :: T0) H') := by
  rw [slices_Clone_api_Regex_api_Piece__own.eq_1] at h
  refine SpecH.intro (res := [.tmp 2]) Tryd.func27 rfl rfl rfl (Nat.le_of_ble_eq_true rfl) ?_
  refine AW.sr ?_
  refine AO.c (Calm.assign rfl rfl) ?_
  refine AO.nK [0] ?_
  refine AW.seq ?_
  refine AW.sr ?_
  refine AO.c (Calm.move rfl rfl) ?_
  refine AO.nilFz rfl 4 rfl (by decide) rfl rfl Tryd.underlying23 fun gb2 hgb2 => ?_
  refine AO.nK [0, 4] ?_
  cases gb2
  ·refine AW.condF rfl ?_
   refine AW.sK [0] ?_
   refine AW.sr ?_
   refine AO.lit (Z := (.st [(1, (eI64 (0 : Int))), (4, (.ar 1 ((Vector.replicate 4 (0 : Int)).toList.map eU64)))])) (xs := (([] : List S40).map e40)) (qs := []) rfl 5 rfl (by decide) rfl trivial Tryd.underlying23 sz40 zr40 lay40 rfl (by decide) (litOK (z := 5) [] rfl trivial) rfl fun n4 => ?_
   refine AO.c (Calm.move rfl rfl) ?_
   obtain ⟨hg6, h⟩ := of_guard h
   refine AO.appendL (l := ([] : List S40)) (m := p0) 0 7 rfl (by decide) rfl rfl rfl rfl rfl Src.fz Tryd.underlying23 Tryd.underlying23 sz40 by40 zr40 rfl hg6 (by decide) fun n5 => ?_
   refine AO.c (Calm.assign rfl rfl) ?_
   refine AO.nK [2] ?_
   refine AW.rK [2] ?_
   have hr := Option.some.inj h
   subst hr
   exact ⟨[(.own n5 0 (([] : List S40) ++ p0).length)], ⟨rfl, rfl, trivial⟩, n5, rfl, (Sub.cons 0 rfl (Sub.refl _))⟩
  ·have hn7 : p0 = [] := List.map_eq_nil_iff.1 (hgb2 rfl)
   have h : (some ([])) = some r := by simpa [hn7] using h
   refine AW.condT rfl ?_
   refine AW.sr ?_
   refine AO.c (Calm.assign rfl rfl) ?_
   refine AO.nK [2] ?_
   refine AW.nilOwn 2 5 rfl fun n3 => ?_
   refine AW.rK [2] ?_
   have hr := Option.some.inj h
   subst hr
   exact ⟨[(.own n3 0 ([] : List S40).length)], ⟨rfl, rfl, trivial⟩, n3, rfl, (Sub.cons 0 rfl (Sub.refl _))⟩
end Go.Avl.TE
/- bosket/rex.Start; printed by avmain.py. -/
namespace Go.Avl.TE
open Go Go.RowKit Go.Proofs Go.Avl
set_option linter.unusedVariables false
set_option maxRecDepth 100000
set_option maxHeartbeats 4000000
attribute [local irreducible] AW AO AQ Spec SpecH Calm

def rex_Start_c0 (k : Nat) : Option Int :=
  some ((0 : Int))
def rex_Start_l1 (k : Nat) (p0 : (List S40)) : Nat → Int → Int → Option Int
  | 0, _, _ => none
  | j + 1, x3, x4 =>
    if (0 : Int) ≤ x4 then if 0 ≤ x4 ∧ x4 < (p0.length : Int) then (rex_Takes k ((lget p0 x4).f0)).bind fun t9 =>
    if (w64 (x3 + (w64 (t9 - (1 : Int))))) = (0 : Int) then some (x4)
    else (rex_Start_l1 k p0 j) (w64 (x3 + (w64 (t9 - (1 : Int))))) (w64 (x4 - (1 : Int)))
    else none
    else rex_Start_c0 k
def rex_Start (k : Nat) (p0 : (List S40)) (p1 : Int) : Option Int :=
  rex_Start_l1 k p0 k (1 : Int) p1
theorem rex_Start_spec {k : Nat} {p0 : (List S40)} {p1 : Int} {r : Int} (h : rex_Start k p0 p1 = some r) : Spec Tryd.prog 16 [(.fz 5 (p0.map e40)), (eI64 p1)] (eI64 r) := by
  rw [rex_Start.eq_1] at h
  refine Spec.intro (res := [.tmp 4]) Tryd.func16 rfl rfl rfl (Nat.le_of_ble_eq_true rfl) ?_
  refine AW.sr ?_
  refine AO.c (Calm.assign rfl rfl) ?_
  refine AO.nK [0, 1] ?_
  refine AW.sr ?_
  refine AO.c (Calm.assign rfl rfl) ?_
  refine AO.nK [0, 1, 5] ?_
  refine AW.seq_mid (fun ρ H => ρ = [] ∧ H = [] ∧ rex_Start_c0 k = some r) ?_ ?_
  ·refine AW.sr ?_
   refine AO.c (Calm.move rfl rfl) ?_
   refine AO.c (Calm.assign rfl rfl) ?_
   refine AO.nK [0, 5, 6] ?_
   refine AW.block ?_
   refine AW.wK [0, 5, 6] ?_
   refine AW.loop (fun kq ρ H => ∃ (x3 : Int) (x4 : Int), ρ = [(0, (.fz 5 (p0.map e40))), (5, (eI64 x3)), (6, (eI64 x4))] ∧ H = [] ∧ rex_Start_l1 k p0 kq x3 x4 = some r) k ⟨(1 : Int), p1, rfl, rfl, h⟩ ?_
   rintro kq6 _ _ ⟨x3, x4, rfl, rfl, h⟩
   cases kq6 with
   | zero => rw [rex_Start_l1.eq_1] at h; cases h
   | succ kq6 =>
   rw [rex_Start_l1.eq_2] at h
   generalize hrec5 : rex_Start_l1 k p0 kq6 = rec5 at h
   refine AW.seq ?_
   refine AW.sr ?_
   refine AO.c (Calm.move rfl rfl) ?_
   refine AO.c (x := eBool (decide ((0 : Int) ≤ x4))) (Calm.int rfl rfl rfl rfl) ?_
   refine AO.nK [0, 5, 6, 9] ?_
   rcases of_ite h with ⟨hc7, h⟩ | ⟨hc7, h⟩
   ·refine AW.condP _ rfl hc7 ?_
    refine AW.sK [0, 5, 6] ?_
    refine AW.seq ?_
    refine AW.block ?_
    refine AW.sr ?_
    refine AO.c (Calm.move rfl rfl) ?_
    refine AO.c (Calm.move rfl rfl) ?_
    refine AO.c (Calm.move rfl rfl) ?_
    obtain ⟨hg8, h⟩ := of_guard h
    refine AO.c (Calm.idxL (f := e40) rfl rfl rfl hg8 Tryd.underlying23 sz40) ?_
    refine AO.c (Calm.fldRp rfl rfl Tryd.underlying40 rfl sz3 (At.cast (At.fld0 At.here) rfl)) ?_
    refine AO.c (Calm.loadRp rfl rfl ag3 sz3) ?_
    obtain ⟨t9, et9, h⟩ := of_bind h
    refine AO.callS [(eI64 ((lget p0 x4).f0))] (eI64 t9) 18 rfl (by decide) ok25 rfl rfl rfl ⟨rfl, rfl, trivial⟩ (rex_Takes_spec et9) ?_
    refine AO.c (x := eI64 (w64 (t9 - (1 : Int)))) (Calm.int rfl rfl rfl rfl) ?_
    refine AO.c (x := eI64 (w64 (x3 + (w64 (t9 - (1 : Int)))))) (Calm.int rfl rfl rfl rfl) ?_
    refine AO.c (Calm.assign rfl rfl) ?_
    refine AO.nK [0, 5, 6] ?_
    refine AW.sr ?_
    refine AO.c (Calm.move rfl rfl) ?_
    refine AO.c (x := eBool (decide ((w64 (x3 + (w64 (t9 - (1 : Int))))) = (0 : Int)))) (Calm.int rfl rfl rfl rfl) ?_
    refine AO.nK [0, 5, 6, 22] ?_
    rcases of_ite h with ⟨hc10, h⟩ | ⟨hc10, h⟩
    ·refine AW.condP _ rfl hc10 ?_
     refine AW.sr ?_
     refine AO.c (Calm.move rfl rfl) ?_
     refine AO.c (Calm.assign rfl rfl) ?_
     refine AO.nK [4] ?_
     refine AW.rK [4] ?_
     have hr := Option.some.inj h
     subst hr
     exact ⟨[(eI64 x4)], ⟨rfl, rfl, trivial⟩, rfl⟩
    ·refine AW.condN _ rfl hc10 ?_
     refine AW.sK [0, 5, 6] ?_
     refine AW.reg ?_
     refine AO.c (Calm.move rfl rfl) ?_
     refine AO.c (x := eI64 (w64 (x4 - (1 : Int)))) (Calm.int rfl rfl rfl rfl) ?_
     refine AO.c (Calm.assign rfl rfl) ?_
     refine AO.nK [0, 5, 6] ?_
     exact ⟨kq6, Nat.lt_succ_self _, (w64 (x3 + (w64 (t9 - (1 : Int))))), (w64 (x4 - (1 : Int))), rfl, rfl, by rw [hrec5]; exact h⟩
   ·refine AW.condN _ rfl hc7 ?_
    refine AW.eK [] ?_
    exact ⟨rfl, rfl, h⟩
  ·rintro _ _ ⟨rfl, rfl, h⟩
   rw [rex_Start_c0.eq_1] at h
   refine AW.sr ?_
   refine AO.c (Calm.assign rfl rfl) ?_
   refine AO.nK [4] ?_
   refine AW.rK [4] ?_
   have hr := Option.some.inj h
   subst hr
   exact ⟨[(eI64 (0 : Int))], ⟨rfl, rfl, trivial⟩, rfl⟩
end Go.Avl.TE
/- bosket/rex.Parts; printed by avmain.py. -/
namespace Go.Avl.TE
open Go Go.RowKit Go.Proofs Go.Avl
set_option linter.unusedVariables false
set_option maxRecDepth 100000
set_option maxHeartbeats 4000000
attribute [local irreducible] AW AO AQ Spec SpecH Calm

def rex_Parts (k : Nat) (p0 : (List S40)) : Option (List (List S40)) :=
  if (p0.length : Int) = (0 : Int) then some ([])
  else if 0 ≤ (w64 ((p0.length : Int) - (1 : Int))) ∧ (w64 ((p0.length : Int) - (1 : Int))) < (p0.length : Int) then (rex_Takes k ((lget p0 (w64 ((p0.length : Int) - (1 : Int)))).f0)).bind fun t4 =>
  if t4 = (1 : Int) then if 0 ≤ (0 : Int) ∧ (0 : Int) ≤ (w64 ((p0.length : Int) - (1 : Int))) ∧ (w64 ((p0.length : Int) - (1 : Int))) ≤ (p0.length : Int) then (slices_Clone_api_Regex_api_Piece__own k (lcut p0 (0 : Int) (w64 ((p0.length : Int) - (1 : Int))))).bind fun t7 =>
  some ([t7])
  else none
  else if t4 = (2 : Int) then (rex_Start k p0 (w64 ((p0.length : Int) - (2 : Int)))).bind fun t12 =>
  if 0 ≤ (0 : Int) ∧ (0 : Int) ≤ t12 ∧ t12 ≤ (p0.length : Int) then (slices_Clone_api_Regex_api_Piece_ k (lcut p0 (0 : Int) t12)).bind fun t14 =>
  if 0 ≤ t12 ∧ t12 ≤ (w64 ((p0.length : Int) - (1 : Int))) ∧ (w64 ((p0.length : Int) - (1 : Int))) ≤ (p0.length : Int) then (slices_Clone_api_Regex_api_Piece_ k (lcut p0 t12 (w64 ((p0.length : Int) - (1 : Int))))).bind fun t16 =>
  some ([t14, t16])
  else none
  else none
  else some ([])
  else none
theorem rex_Parts_spec {k : Nat} {p0 : (List S40)} {r : (List (List S40))} (h : rex_Parts k p0 = some r) : Spec Tryd.prog 14 [(.fz 5 (p0.map e40))] (e41 r) := by
  rw [rex_Parts.eq_1] at h
  refine Spec.intro (res := [.tmp 2]) Tryd.func14 rfl rfl rfl (Nat.le_of_ble_eq_true rfl) ?_
  refine AW.sr ?_
  refine AO.c (Calm.assign rfl rfl) ?_
  refine AO.nK [0] ?_
  refine AW.seq ?_
  refine AW.sr ?_
  refine AO.c (Calm.move rfl rfl) ?_
  refine AO.c (Calm.lenL rfl rfl Tryd.underlying23) ?_
  refine AO.c (x := eBool (decide ((p0.length : Int) = (0 : Int)))) (Calm.int rfl rfl rfl rfl) ?_
  refine AO.nK [0, 6] ?_
  rcases of_ite h with ⟨hc2, h⟩ | ⟨hc2, h⟩
  ·refine AW.condP _ rfl hc2 ?_
   refine AW.sr ?_
   refine AO.c (Calm.assign rfl rfl) ?_
   refine AO.nK [2] ?_
   refine AW.coeC 2 (y' := (.fz 1 (([] : List (List S40)).map e23))) rfl Coe.nil ?_
   refine AW.rK [2] ?_
   have hr := Option.some.inj h
   subst hr
   exact ⟨[(.fz 1 (([] : List (List S40)).map e23))], ⟨rfl, rfl, trivial⟩, rfl⟩
  ·refine AW.condN _ rfl hc2 ?_
   refine AW.sK [0] ?_
   refine AW.seq ?_
   refine AW.sr ?_
   refine AO.c (Calm.move rfl rfl) ?_
   refine AO.c (Calm.move rfl rfl) ?_
   refine AO.c (Calm.lenL rfl rfl Tryd.underlying23) ?_
   refine AO.c (x := eI64 (w64 ((p0.length : Int) - (1 : Int)))) (Calm.int rfl rfl rfl rfl) ?_
   obtain ⟨hg3, h⟩ := of_guard h
   refine AO.c (Calm.idxL (f := e40) rfl rfl rfl hg3 Tryd.underlying23 sz40) ?_
   refine AO.c (Calm.fldRp rfl rfl Tryd.underlying40 rfl sz3 (At.cast (At.fld0 At.here) rfl)) ?_
   refine AO.c (Calm.loadRp rfl rfl ag3 sz3) ?_
   obtain ⟨t4, et4, h⟩ := of_bind h
   refine AO.callS [(eI64 ((lget p0 (w64 ((p0.length : Int) - (1 : Int)))).f0))] (eI64 t4) 14 rfl (by decide) ok25 rfl rfl rfl ⟨rfl, rfl, trivial⟩ (rex_Takes_spec et4) ?_
   refine AO.nK [0, 14] ?_
   refine AW.block ?_
   refine AW.sr ?_
   refine AO.c (x := eBool (decide (t4 = (1 : Int)))) (Calm.int rfl rfl rfl rfl) ?_
   refine AO.c (Calm.assign rfl rfl) ?_
   refine AO.nK [0, 14, 15] ?_
   rcases of_ite h with ⟨hc5, h⟩ | ⟨hc5, h⟩
   ·refine AW.condP _ rfl hc5 ?_
    refine AW.sr ?_
    refine AO.c (Calm.move rfl rfl) ?_
    refine AO.c (Calm.move rfl rfl) ?_
    refine AO.c (Calm.lenL rfl rfl Tryd.underlying23) ?_
    refine AO.c (x := eI64 (w64 ((p0.length : Int) - (1 : Int)))) (Calm.int rfl rfl rfl rfl) ?_
    obtain ⟨hg6, h⟩ := of_guard h
    refine AO.c (x := .fz 5 ((lcut p0 (0 : Int) (w64 ((p0.length : Int) - (1 : Int)))).map e40)) (Calm.sliceL rfl rfl rfl rfl hg6 Tryd.underlying23 sz40) ?_
    obtain ⟨t7, et7, h⟩ := of_bind h
    refine AO.callH [(.fz 5 ((lcut p0 (0 : Int) (w64 ((p0.length : Int) - (1 : Int)))).map e40))] [] _ rfl rfl rfl 22 rfl (by decide) ok27 ⟨rfl, rfl, trivial⟩ (Sub.refl _) (slices_Clone_api_Regex_api_Piece__own_spec et7) ?_
    rintro _ _ ⟨n9, rfl, hs8⟩
    refine AO.wH [0, 14, 15, 17, 18, 19, 20, 21, 22] hs8 ?_
    refine AO.freezeS 0 [(22, (.fz 5 (t7.map e40)))] rfl ⟨fz_all rfl, trivial⟩ ?_
    refine AO.lit (Z := (.fl (.slice none 0 0))) (xs := (([t7] : List (List S40)).map e23)) (qs := [(0, (.fz 5 (t7.map e40)))]) rfl 23 rfl (by decide) rfl ⟨rfl, rfl, rfl, trivial⟩ Tryd.underlying41 sz23 zr23 lay23 rfl (by decide) (litOK (z := 1) [(.fz 5 (t7.map e40))] rfl ⟨⟨rfl, rfl⟩, trivial⟩) rfl fun n10 => ?_
    refine AO.c (Calm.assign rfl rfl) ?_
    refine AO.nK [2] ?_
    refine AW.freezeS 0 [(2, (.fz 1 (([t7] : List (List S40)).map e23)))] rfl ⟨fz_all rfl, trivial⟩ ?_
    refine AW.rK [2] ?_
    have hr := Option.some.inj h
    subst hr
    exact ⟨[(.fz 1 (([t7] : List (List S40)).map e23))], ⟨rfl, rfl, trivial⟩, rfl⟩
   ·refine AW.condN _ rfl hc5 ?_
    refine AW.sr ?_
    refine AO.c (x := eBool (decide (t4 = (2 : Int)))) (Calm.int rfl rfl rfl rfl) ?_
    refine AO.c (Calm.assign rfl rfl) ?_
    refine AO.nK [0, 24] ?_
    rcases of_ite h with ⟨hc11, h⟩ | ⟨hc11, h⟩
    ·refine AW.condP _ rfl hc11 ?_
     refine AW.sr ?_
     refine AO.c (Calm.move rfl rfl) ?_
     refine AO.c (Calm.move rfl rfl) ?_
     refine AO.c (Calm.lenL rfl rfl Tryd.underlying23) ?_
     refine AO.c (x := eI64 (w64 ((p0.length : Int) - (2 : Int)))) (Calm.int rfl rfl rfl rfl) ?_
     obtain ⟨t12, et12, h⟩ := of_bind h
     refine AO.callS [(.fz 5 (p0.map e40)), (eI64 (w64 ((p0.length : Int) - (2 : Int))))] (eI64 t12) 30 rfl (by decide) ok16 rfl rfl rfl ⟨rfl, rfl, rfl, rfl, trivial⟩ (rex_Start_spec et12) ?_
     refine AO.c (Calm.assign rfl rfl) ?_
     refine AO.nK [0, 3] ?_
     refine AW.seq ?_
     obtain ⟨hg13, h⟩ := of_guard h
     obtain ⟨t14, et14, h⟩ := of_bind h
     obtain ⟨hg15, h⟩ := of_guard h
     obtain ⟨t16, et16, h⟩ := of_bind h
     refine AW.regAny (by rfl) (by decide +kernel) [(.fz 5 (p0.map e40)), (eI64 t12), (.fz 5 ((lcut p0 (0 : Int) t12).map e40)), (.fz 5 (t14.map e40)), (.fz 5 (p0.map e40)), (eI64 t12), (.fz 5 (p0.map e40)), (eI64 (p0.length : Int)), (eI64 (w64 ((p0.length : Int) - (1 : Int)))), (.fz 5 ((lcut p0 t12 (w64 ((p0.length : Int) - (1 : Int)))).map e40)), (.fz 5 (t16.map e40)), (.fz 1 (([t14, t16] : List (List S40)).map e23)), (.fz 1 (([t14, t16] : List (List S40)).map e23))] [(0, (.fz 5 (p0.map e40))), (3, (eI64 t12))] ⟨rfl, rfl, trivial⟩ rfl ?_ [(2, (.fz 1 (([t14, t16] : List (List S40)).map e23)))] [] ⟨rfl, trivial⟩ (Sub.refl _) ?_
     ·refine ⟨?_, ?_, ?_, ?_, ?_, ?_, ?_, ?_, ?_, ?_, ?_, ?_, ?_, trivial⟩
      ·refine AO.wK [0] ?_
       refine AO.c (Calm.move rfl rfl) ?_
       exact AO.nE (d := 31) rfl ⟨⟨_, rfl, rfl⟩, Sub.refl _⟩
      ·refine AO.wK [3] ?_
       refine AO.c (Calm.move rfl rfl) ?_
       exact AO.nE (d := 32) rfl ⟨⟨_, rfl, rfl⟩, Sub.refl _⟩
      ·refine AO.wK [31, 32] ?_
       refine AO.c (x := .fz 5 ((lcut p0 (0 : Int) t12).map e40)) (Calm.sliceL rfl rfl rfl rfl hg13 Tryd.underlying23 sz40) ?_
       exact AO.nE (d := 33) rfl ⟨⟨_, rfl, rfl⟩, Sub.refl _⟩
      ·refine AO.wK [33] ?_
       refine AO.callS [(.fz 5 ((lcut p0 (0 : Int) t12).map e40))] (.fz 5 (t14.map e40)) 34 rfl (by decide) ok27 rfl rfl rfl ⟨rfl, rfl, trivial⟩ (slices_Clone_api_Regex_api_Piece__spec et14) ?_
       exact AO.nE (d := 34) rfl ⟨⟨_, rfl, rfl⟩, Sub.refl _⟩
      ·refine AO.wK [0] ?_
       refine AO.c (Calm.move rfl rfl) ?_
       exact AO.nE (d := 35) rfl ⟨⟨_, rfl, rfl⟩, Sub.refl _⟩
      ·refine AO.wK [3] ?_
       refine AO.c (Calm.move rfl rfl) ?_
       exact AO.nE (d := 36) rfl ⟨⟨_, rfl, rfl⟩, Sub.refl _⟩
      ·refine AO.wK [0] ?_
       refine AO.c (Calm.move rfl rfl) ?_
       exact AO.nE (d := 37) rfl ⟨⟨_, rfl, rfl⟩, Sub.refl _⟩
      ·refine AO.wK [37] ?_
       refine AO.c (Calm.lenL rfl rfl Tryd.underlying23) ?_
       exact AO.nE (d := 38) rfl ⟨⟨_, rfl, rfl⟩, Sub.refl _⟩
      ·refine AO.wK [38] ?_
       refine AO.c (x := eI64 (w64 ((p0.length : Int) - (1 : Int)))) (Calm.int rfl rfl rfl rfl) ?_
       exact AO.nE (d := 39) rfl ⟨⟨_, rfl, rfl⟩, Sub.refl _⟩
      ·refine AO.wK [35, 36, 39] ?_
       refine AO.c (x := .fz 5 ((lcut p0 t12 (w64 ((p0.length : Int) - (1 : Int)))).map e40)) (Calm.sliceL rfl rfl rfl rfl hg15 Tryd.underlying23 sz40) ?_
       exact AO.nE (d := 40) rfl ⟨⟨_, rfl, rfl⟩, Sub.refl _⟩
      ·refine AO.wK [40] ?_
       refine AO.callS [(.fz 5 ((lcut p0 t12 (w64 ((p0.length : Int) - (1 : Int)))).map e40))] (.fz 5 (t16.map e40)) 41 rfl (by decide) ok27 rfl rfl rfl ⟨rfl, rfl, trivial⟩ (slices_Clone_api_Regex_api_Piece__spec et16) ?_
       exact AO.nE (d := 41) rfl ⟨⟨_, rfl, rfl⟩, Sub.refl _⟩
      ·refine AO.wK [34, 41] ?_
       refine AO.lit (Z := (.fl (.slice none 0 0))) (xs := (([t14, t16] : List (List S40)).map e23)) (qs := [(0, (.fz 5 (t14.map e40))), (1, (.fz 5 (t16.map e40)))]) rfl 42 rfl (by decide) rfl ⟨rfl, rfl, rfl, rfl, rfl, rfl, trivial⟩ Tryd.underlying41 sz23 zr23 lay23 rfl (by decide) (litOK (z := 1) [(.fz 5 (t14.map e40)), (.fz 5 (t16.map e40))] rfl ⟨⟨rfl, rfl⟩, ⟨rfl, rfl⟩, trivial⟩) rfl fun n17 => ?_
       refine AO.freezeS 0 [(42, (.fz 1 (([t14, t16] : List (List S40)).map e23)))] rfl ⟨fz_all rfl, trivial⟩ ?_
       exact AO.nE (d := 42) rfl ⟨⟨_, rfl, rfl⟩, Sub.refl _⟩
      ·refine AO.wK [42] ?_
       refine AO.c (Calm.assign rfl rfl) ?_
       exact AO.nE (d := 2) rfl ⟨⟨_, rfl, rfl⟩, Sub.refl _⟩
     ·refine AW.rK [2] ?_
      have hr := Option.some.inj h
      subst hr
      exact ⟨[(.fz 1 (([t14, t16] : List (List S40)).map e23))], ⟨rfl, rfl, trivial⟩, rfl⟩
    ·refine AW.condN _ rfl hc11 ?_
     refine AW.sK [] ?_
     refine AW.sr ?_
     refine AO.c (Calm.assign rfl rfl) ?_
     refine AO.nK [2] ?_
     refine AW.coeC 2 (y' := (.fz 1 (([] : List (List S40)).map e23))) rfl Coe.nil ?_
     refine AW.rK [2] ?_
     have hr := Option.some.inj h
     subst hr
     exact ⟨[(.fz 1 (([] : List (List S40)).map e23))], ⟨rfl, rfl, trivial⟩, rfl⟩
end Go.Avl.TE
