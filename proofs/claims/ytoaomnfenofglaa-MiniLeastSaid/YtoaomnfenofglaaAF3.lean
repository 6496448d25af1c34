/- Parts: T5f67, T5f33, T5f32, T5f24, T5f60, T5f59. -/
import Derived.Test.YtoaomnfenofglaaAF1
import Derived.Test.YtoaomnfenofglaaAF2
/- bosket/mini.classes; printed by avmain.py. -/
namespace Go.Avl.T5
open Go Go.RowKit Go.Proofs Go.Avl
set_option linter.unusedVariables false
set_option maxRecDepth 100000
set_option maxHeartbeats 4000000
attribute [local irreducible] AW AO AQ Spec SpecH Calm

def mini_classes_c0 (k : Nat) (p0 : S30) (x11 : (Vector Int 256)) (x15 : (List (List Int))) : Option S30 :=
  some ((S30.mk x11 x15 p0.f2))
def mini_classes_c1 (k : Nat) (rec19 : ((List (List Int)) → Int → Option S30)) (x18 : Int) (x23 : (List (List Int))) : Option S30 :=
  rec19 x23 (w64 (x18 + (1 : Int)))
def mini_classes_c2 (k : Nat) (rec19 : ((List (List Int)) → Int → Option S30)) (x17 : (List (List Int))) (x18 : Int) (x26 : (List Int)) : Option S30 :=
  if (x17 ++ ([x26] : List (List Int))).length * 24 ≤ 140737488355328 then mini_classes_c1 k rec19 x18 (x17 ++ ([x26] : List (List Int)))
  else none
def mini_classes_l3 (k : Nat) (rec19 : ((List (List Int)) → Int → Option S30)) (p0 : S30) (x13 : (List Int)) (x17 : (List (List Int))) (x18 : Int) : Nat → (List Int) → Int → Option S30
  | 0, _, _ => none
  | j + 1, x31, x32 =>
    if x32 < (x13.length : Int) then if 0 ≤ x32 ∧ x32 < (x13.length : Int) then if 0 ≤ (lget x13 x32) ∧ (lget x13 x32) < ((lget p0.f1 x18).length : Int) then if (x31 ++ ([(lget (lget p0.f1 x18) (lget x13 x32))] : List Int)).length * 8 ≤ 140737488355328 then (mini_classes_l3 k rec19 p0 x13 x17 x18 j) (x31 ++ ([(lget (lget p0.f1 x18) (lget x13 x32))] : List Int)) (w64 (x32 + (1 : Int)))
    else none
    else none
    else none
    else mini_classes_c2 k rec19 x17 x18 x31
def mini_classes_l4 (k : Nat) (p0 : S30) (x11 : (Vector Int 256)) (x13 : (List Int)) : Nat → (List (List Int)) → Int → Option S30
  | 0, _, _ => none
  | j + 1, x17, x18 =>
    if x18 < (p0.f1.length : Int) then if 0 ≤ x18 ∧ x18 < (p0.f1.length : Int) then mini_classes_l3 k (mini_classes_l4 k p0 x11 x13 j) p0 x13 x17 x18 k ([] : List Int) (0 : Int)
    else none
    else mini_classes_c0 k p0 x11 x17
def mini_classes_c5 (k : Nat) (p0 : S30) (x11 : (Vector Int 256)) (x13 : (List Int)) : Option S30 :=
  mini_classes_l4 k p0 x11 x13 k ([] : List (List Int)) (0 : Int)
def mini_classes_c6 (k : Nat) (rec50 : ((Vector Int 256) → (List (ByteArray × Int)) → (List Int) → (List Int) → (List Bool) → Int → Option S30)) (p0 : S30) (x43 : (Vector Int 256)) (x49 : Int) (x54 : (List (ByteArray × Int))) (x56 : (List Int)) (x57 : (List Int)) (x58 : (List Bool)) : Option S30 :=
  if 0 ≤ (w64 (vget p0.f0 x49)) ∧ (w64 (vget p0.f0 x49)) < (x57.length : Int) then if 0 ≤ x49 ∧ x49 < (256 : Int) then rec50 (vset x43 x49 (w8 (lget x57 (w64 (vget p0.f0 x49))))) x54 x56 x57 x58 (w64 (x49 + (1 : Int)))
  else none
  else none
def mini_classes_c7 (k : Nat) (rec50 : ((Vector Int 256) → (List (ByteArray × Int)) → (List Int) → (List Int) → (List Bool) → Int → Option S30)) (p0 : S30) (x43 : (Vector Int 256)) (x47 : (List Int)) (x48 : (List Bool)) (x49 : Int) (x64 : (List (ByteArray × Int))) (x66 : (List Int)) (x67 : Int) : Option S30 :=
  if 0 ≤ (w64 (vget p0.f0 x49)) ∧ (w64 (vget p0.f0 x49)) < (x47.length : Int) then if 0 ≤ (w64 (vget p0.f0 x49)) ∧ (w64 (vget p0.f0 x49)) < (x48.length : Int) then mini_classes_c6 k rec50 p0 x43 x49 x64 x66 (lset x47 (w64 (vget p0.f0 x49)) x67) (lset x48 (w64 (vget p0.f0 x49)) true)
  else none
  else none
def mini_classes_l8 (k : Nat) (p0 : S30) : Nat → (Vector Int 256) → (List (ByteArray × Int)) → (List Int) → (List Int) → (List Bool) → Int → Option S30
  | 0, _, _, _, _, _, _ => none
  | j + 1, x43, x44, x46, x47, x48, x49 =>
    if x49 < (256 : Int) then if 0 ≤ x49 ∧ x49 < (256 : Int) then if 0 ≤ (w64 (vget p0.f0 x49)) ∧ (w64 (vget p0.f0 x49)) < (x48.length : Int) then if (!(lget x48 (w64 (vget p0.f0 x49)))) = true then (mini_column k p0 (w64 (vget p0.f0 x49))).bind fun t63 =>
    if (!((mget x44 t63).isSome)) = true then if (x46 ++ ([(w64 (vget p0.f0 x49))] : List Int)).length * 8 ≤ 140737488355328 then mini_classes_c7 k (mini_classes_l8 k p0 j) p0 x43 x47 x48 x49 (mput x44 t63 (x46.length : Int)) (x46 ++ ([(w64 (vget p0.f0 x49))] : List Int)) (x46.length : Int)
    else none
    else mini_classes_c7 k (mini_classes_l8 k p0 j) p0 x43 x47 x48 x49 x44 x46 ((mget x44 t63).getD (0 : Int))
    else mini_classes_c6 k (mini_classes_l8 k p0 j) p0 x43 x49 x44 x46 x47 x48
    else none
    else none
    else mini_classes_c5 k p0 x43 x46
def mini_classes (k : Nat) (p0 : S30) : Option S30 :=
  (byteset_Count k p0.f0).bind fun t6 =>
  if 0 ≤ t6 ∧ t6 * (8 : Int) ≤ 140737488355328 ∧ t6 ≤ 9223372036854775807 then if 0 ≤ ((List.replicate t6.toNat (0 : Int)).length : Int) ∧ ((List.replicate t6.toNat (0 : Int)).length : Int) * (1 : Int) ≤ 140737488355328 ∧ ((List.replicate t6.toNat (0 : Int)).length : Int) ≤ 9223372036854775807 then mini_classes_l8 k p0 k (Vector.replicate 256 (0 : Int)) ([] : List (ByteArray × Int)) ([] : List Int) (List.replicate t6.toNat (0 : Int)) (List.replicate ((List.replicate t6.toNat (0 : Int)).length : Int).toNat false) (0 : Int)
  else none
  else none
theorem mini_classes_spec {k : Nat} {p0 : S30} {r : S30} (h : mini_classes k p0 = some r) : Spec Try.prog 67 [(e30 p0)] (e30 r) := by
  rw [mini_classes.eq_1] at h
  refine Spec.intro (res := [.cell 2 30]) Try.func67 rfl rfl rfl (Nat.le_of_ble_eq_true rfl) ?_
  refine AW.sr ?_
  refine AO.box rfl 1 rfl (by decide) rfl rfl rfl fun n2 => ?_
  refine AO.alloc rfl 2 rfl (by decide) rfl zr30 lay30 fun n3 => ?_
  refine AO.nH [1, 2] (H' := [(n2, (.mem (e30 p0))), (n3, (.mem (.st [(256, (.ar 1 ((Vector.replicate 256 (0 : Int)).toList.map eU8))), (1, (.fl (.slice none 0 0))), (1, (.fl (.slice none 0 0)))])))]) (Sub.cons 1 rfl (Sub.cons 0 rfl (Sub.nil _))) ?_
  refine AW.sr ?_
  refine AO.c (x := .ptr n2 257) (Calm.fldPtr rfl rfl Try.underlying30 rfl sz25 _ rfl) ?_
  refine AO.c (Calm.load 0 rfl rfl rfl (At.cast (At.fldS (At.fldS (At.fld0 At.here))) rfl) ag25 sz25) ?_
  refine AO.c (x := .st [(256, (.ar 1 ((Vector.replicate 256 (0 : Int)).toList.map eU8))), (1, (.fl (.slice none 0 0))), (1, (.fz 1 (p0.f2.map eI64)))]) (Calm.build (qs := [(2, (.fz 1 (p0.f2.map eI64)))]) rfl ⟨rfl, rfl, rfl, trivial⟩ Try.underlying30 rfl zr30 lay30 (.cons rfl rfl rfl rfl (Put.cast (Put.fldS (Put.fldS (Put.fld0 Put.here))) rfl) .nil) rfl) ?_
  refine AO.alloc rfl 3 rfl (by decide) rfl zr30 lay30 fun n4 => ?_
  refine AO.store (X' := (.st [(256, (.ar 1 ((Vector.replicate 256 (0 : Int)).toList.map eU8))), (1, (.fl (.slice none 0 0))), (1, (.fz 1 (p0.f2.map eI64)))])) 0 rfl rfl rfl rfl rfl rfl (Put.cast Put.here rfl) rfl rfl sz30 rfl ?_
  refine AO.nH [1, 2, 3] (H' := [(n2, (.mem (e30 p0))), (n3, (.mem (.st [(256, (.ar 1 ((Vector.replicate 256 (0 : Int)).toList.map eU8))), (1, (.fl (.slice none 0 0))), (1, (.fl (.slice none 0 0)))]))), (n4, (.mem (.st [(256, (.ar 1 ((Vector.replicate 256 (0 : Int)).toList.map eU8))), (1, (.fl (.slice none 0 0))), (1, (.fz 1 (p0.f2.map eI64)))])))]) (Sub.cons 1 rfl (Sub.cons 1 rfl (Sub.cons 0 rfl (Sub.nil _)))) ?_
  refine AW.sr ?_
  refine AO.makeMap rfl 21 rfl (by decide) rfl fun n5 => ?_
  refine AO.c (Calm.assign rfl rfl) ?_
  refine AO.nH [1, 2, 3, 4] (H' := [(n2, (.mem (e30 p0))), (n3, (.mem (.st [(256, (.ar 1 ((Vector.replicate 256 (0 : Int)).toList.map eU8))), (1, (.fl (.slice none 0 0))), (1, (.fl (.slice none 0 0)))]))), (n4, (.mem (.st [(256, (.ar 1 ((Vector.replicate 256 (0 : Int)).toList.map eU8))), (1, (.fl (.slice none 0 0))), (1, (.fz 1 (p0.f2.map eI64)))]))), (n5, (.map (encM Value.string eI64 ([] : List (ByteArray × Int)))))]) (Sub.cons 1 rfl (Sub.cons 1 rfl (Sub.cons 1 rfl (Sub.cons 0 rfl (Sub.nil _))))) ?_
  refine AW.sr ?_
  refine AO.c (Calm.assign rfl rfl) ?_
  refine AO.nK [1, 2, 3, 4, 5] ?_
  refine AW.sr ?_
  refine AO.c (x := .ptr n2 0) (Calm.fldPtr rfl rfl Try.underlying30 rfl sz27 _ rfl) ?_
  refine AO.c (Calm.load 0 rfl rfl rfl (At.cast (At.fld0 At.here) rfl) ag27 (by rw [sz27]; simp [AV.size])) ?_
  obtain ⟨t6, et6, h⟩ := of_bind h
  refine AO.callS [(.ar 1 (p0.f0.toList.map eU8))] (eI64 t6) 24 rfl (by decide) ok90 rfl rfl rfl ⟨rfl, rfl, trivial⟩ (byteset_Count_spec et6) ?_
  obtain ⟨hg8, h⟩ := of_guard h
  refine AO.makeL (f := eI64) (0 : Int) rfl 25 rfl (by decide) rfl rfl rfl Try.underlying25 sz3 by3 zr3 lay3 rfl hg8 fun n7 => ?_
  refine AO.c (Calm.assign rfl rfl) ?_
  refine AO.nH [1, 2, 3, 4, 5, 6] (H' := [(n2, (.mem (e30 p0))), (n3, (.mem (.st [(256, (.ar 1 ((Vector.replicate 256 (0 : Int)).toList.map eU8))), (1, (.fl (.slice none 0 0))), (1, (.fl (.slice none 0 0)))]))), (n4, (.mem (.st [(256, (.ar 1 ((Vector.replicate 256 (0 : Int)).toList.map eU8))), (1, (.fl (.slice none 0 0))), (1, (.fz 1 (p0.f2.map eI64)))]))), (n5, (.map (encM Value.string eI64 ([] : List (ByteArray × Int))))), (n7, (.mem (.ar 1 ((List.replicate t6.toNat (0 : Int)).map eI64))))]) (Sub.cons 1 rfl (Sub.cons 1 rfl (Sub.cons 1 rfl (Sub.cons 1 rfl (Sub.cons 0 rfl (Sub.nil _)))))) ?_
  refine AW.sr ?_
  refine AO.c (Calm.move rfl rfl) ?_
  refine AO.c (Calm.lenOwn rfl rfl Try.underlying25) ?_
  obtain ⟨hg10, h⟩ := of_guard h
  refine AO.makeL (f := eBool) false rfl 28 rfl (by decide) rfl rfl rfl Try.underlying49 sz4 by4 zr4 lay4 rfl hg10 fun n9 => ?_
  refine AO.c (Calm.assign rfl rfl) ?_
  refine AO.nH [1, 2, 3, 4, 5, 6, 7] (H' := [(n2, (.mem (e30 p0))), (n3, (.mem (.st [(256, (.ar 1 ((Vector.replicate 256 (0 : Int)).toList.map eU8))), (1, (.fl (.slice none 0 0))), (1, (.fl (.slice none 0 0)))]))), (n4, (.mem (.st [(256, (.ar 1 ((Vector.replicate 256 (0 : Int)).toList.map eU8))), (1, (.fl (.slice none 0 0))), (1, (.fz 1 (p0.f2.map eI64)))]))), (n5, (.map (encM Value.string eI64 ([] : List (ByteArray × Int))))), (n7, (.mem (.ar 1 ((List.replicate t6.toNat (0 : Int)).map eI64)))), (n9, (.mem (.ar 1 ((List.replicate ((List.replicate t6.toNat (0 : Int)).length : Int).toNat false).map eBool))))]) (Sub.cons 1 rfl (Sub.cons 1 rfl (Sub.cons 1 rfl (Sub.cons 1 rfl (Sub.cons 1 rfl (Sub.cons 0 rfl (Sub.nil _))))))) ?_
  refine AW.seq_mid (fun ρ H => ∃ (n12 : Nat) (x11 : (Vector Int 256)) (x13 : (List Int)), ρ = [(1, (.ptr n2 0)), (2, (.ptr n3 0)), (3, (.ptr n4 0)), (5, (.own n12 0 x13.length))] ∧ H = [(n2, (.mem (e30 p0))), (n3, (.mem (.st [(256, (.ar 1 ((Vector.replicate 256 (0 : Int)).toList.map eU8))), (1, (.fl (.slice none 0 0))), (1, (.fl (.slice none 0 0)))]))), (n4, (.mem (.st [(256, (.ar 1 (x11.toList.map eU8))), (1, (.fl (.slice none 0 0))), (1, (.fz 1 (p0.f2.map eI64)))]))), (n12, (.mem (.ar 1 (x13.map eI64))))] ∧ mini_classes_c5 k p0 x11 x13 = some r) ?_ ?_
  ·refine AW.sr ?_
   refine AO.c (Calm.move rfl rfl) ?_
   refine AO.nK [1, 2, 3, 4, 5, 6, 7, 29] ?_
   refine AW.block ?_
   refine AW.nilOwn 5 1 rfl fun n74 => ?_
   refine AW.wH [1, 2, 3, 4, 5, 6, 7, 29] (H' := [(n2, (.mem (e30 p0))), (n3, (.mem (.st [(256, (.ar 1 ((Vector.replicate 256 (0 : Int)).toList.map eU8))), (1, (.fl (.slice none 0 0))), (1, (.fl (.slice none 0 0)))]))), (n4, (.mem (.st [(256, (.ar 1 ((Vector.replicate 256 (0 : Int)).toList.map eU8))), (1, (.fl (.slice none 0 0))), (1, (.fz 1 (p0.f2.map eI64)))]))), (n5, (.map (encM Value.string eI64 ([] : List (ByteArray × Int))))), (n74, (.mem (.ar 1 (([] : List Int).map eI64)))), (n7, (.mem (.ar 1 ((List.replicate t6.toNat (0 : Int)).map eI64)))), (n9, (.mem (.ar 1 ((List.replicate ((List.replicate t6.toNat (0 : Int)).length : Int).toNat false).map eBool))))]) (Sub.cons 1 rfl (Sub.cons 1 rfl (Sub.cons 1 rfl (Sub.cons 1 rfl (Sub.cons 0 rfl (Sub.cons 0 rfl (Sub.cons 0 rfl (Sub.nil _)))))))) ?_
   refine AW.loop (fun kq ρ H => ∃ (n45 : Nat) (x43 : (Vector Int 256)) (x44 : (List (ByteArray × Int))) (x46 : (List Int)) (x47 : (List Int)) (x48 : (List Bool)) (x49 : Int), ρ = [(1, (.ptr n2 0)), (2, (.ptr n3 0)), (3, (.ptr n4 0)), (4, (.mp n5)), (5, (.own n45 0 x46.length)), (6, (.own n7 0 x47.length)), (7, (.own n9 0 x48.length)), (29, (eI64 x49))] ∧ H = [(n2, (.mem (e30 p0))), (n3, (.mem (.st [(256, (.ar 1 ((Vector.replicate 256 (0 : Int)).toList.map eU8))), (1, (.fl (.slice none 0 0))), (1, (.fl (.slice none 0 0)))]))), (n4, (.mem (.st [(256, (.ar 1 (x43.toList.map eU8))), (1, (.fl (.slice none 0 0))), (1, (.fz 1 (p0.f2.map eI64)))]))), (n5, (.map (encM Value.string eI64 x44))), (n45, (.mem (.ar 1 (x46.map eI64)))), (n7, (.mem (.ar 1 (x47.map eI64)))), (n9, (.mem (.ar 1 (x48.map eBool))))] ∧ mini_classes_l8 k p0 kq x43 x44 x46 x47 x48 x49 = some r) k ⟨n74, (Vector.replicate 256 (0 : Int)), ([] : List (ByteArray × Int)), ([] : List Int), (List.replicate t6.toNat (0 : Int)), (List.replicate ((List.replicate t6.toNat (0 : Int)).length : Int).toNat false), (0 : Int), rfl, rfl, h⟩ ?_
   rintro kq51 _ _ ⟨n45, x43, x44, x46, x47, x48, x49, rfl, rfl, h⟩
   cases kq51 with
   | zero => rw [mini_classes_l8.eq_1] at h; cases h
   | succ kq51 =>
   rw [mini_classes_l8.eq_2] at h
   generalize hrec50 : mini_classes_l8 k p0 kq51 = rec50 at h
   refine AW.sr ?_
   refine AO.c (x := eBool (decide (x49 < (256 : Int)))) (Calm.int rfl rfl rfl rfl) ?_
   refine AO.nK [1, 2, 3, 4, 5, 6, 7, 29, 30] ?_
   refine AW.seq ?_
   rcases of_ite h with ⟨hc52, h⟩ | ⟨hc52, h⟩
   ·refine AW.condP _ rfl hc52 ?_
    refine AW.sK [1, 2, 3, 4, 5, 6, 7, 29] ?_
    refine AW.seq ?_
    refine AW.block ?_
    refine AW.sr ?_
    refine AO.c (Calm.move rfl rfl) ?_
    refine AO.c (Calm.assign rfl rfl) ?_
    refine AO.nK [1, 2, 3, 4, 5, 6, 7, 8, 29] ?_
    refine AW.sr ?_
    refine AO.c (Calm.move rfl rfl) ?_
    refine AO.c (x := .ptr n2 0) (Calm.fldPtr rfl rfl Try.underlying30 rfl sz27 _ rfl) ?_
    obtain ⟨hg53, h⟩ := of_guard h
    refine AO.c (Calm.idxP rfl rfl rfl hg53 Try.underlying27 sz5) ?_
    refine AO.c (Calm.load 0 rfl rfl rfl (At.cast (At.fld0 (At.vidx x49 hg53.1 hg53.2 At.here)) (by omega)) ag5 sz5) ?_
    refine AO.c (x := eI64 (w64 (vget p0.f0 x49))) (Calm.conv rfl rfl Try.underlying5 Try.underlying3) ?_
    refine AO.c (Calm.assign rfl rfl) ?_
    refine AO.nK [1, 2, 3, 4, 5, 6, 7, 8, 9, 29] ?_
    refine AW.seq_mid (fun ρ H => ∃ (n55 : Nat) (x54 : (List (ByteArray × Int))) (x56 : (List Int)) (x57 : (List Int)) (x58 : (List Bool)), ρ = [(1, (.ptr n2 0)), (2, (.ptr n3 0)), (3, (.ptr n4 0)), (4, (.mp n5)), (5, (.own n55 0 x56.length)), (6, (.own n7 0 x57.length)), (7, (.own n9 0 x58.length)), (8, (eI64 x49)), (9, (eI64 (w64 (vget p0.f0 x49)))), (29, (eI64 x49))] ∧ H = [(n2, (.mem (e30 p0))), (n3, (.mem (.st [(256, (.ar 1 ((Vector.replicate 256 (0 : Int)).toList.map eU8))), (1, (.fl (.slice none 0 0))), (1, (.fl (.slice none 0 0)))]))), (n4, (.mem (.st [(256, (.ar 1 (x43.toList.map eU8))), (1, (.fl (.slice none 0 0))), (1, (.fz 1 (p0.f2.map eI64)))]))), (n5, (.map (encM Value.string eI64 x54))), (n55, (.mem (.ar 1 (x56.map eI64)))), (n7, (.mem (.ar 1 (x57.map eI64)))), (n9, (.mem (.ar 1 (x58.map eBool))))] ∧ mini_classes_c6 k rec50 p0 x43 x49 x54 x56 x57 x58 = some r) ?_ ?_
    ·refine AW.sr ?_
     refine AO.c (Calm.move rfl rfl) ?_
     refine AO.c (Calm.move rfl rfl) ?_
     obtain ⟨hg61, h⟩ := of_guard h
     refine AO.c (Calm.idxO 6 rfl rfl rfl rfl hg61 Try.underlying49 sz4) ?_
     refine AO.c (Calm.load 6 rfl rfl rfl (At.cast (At.lidx (w64 (vget p0.f0 x49)) hg61.1 hg61.2 At.here) (by omega)) ag4 sz4) ?_
     refine AO.c (Calm.not rfl rfl) ?_
     refine AO.nK [1, 2, 3, 4, 5, 6, 7, 8, 9, 29, 41] ?_
     rcases of_ite h with ⟨hc62, h⟩ | ⟨hc62, h⟩
     ·refine AW.condT' _ rfl hc62 ?_
      refine AW.sr ?_
      refine AO.c (Calm.load 0 rfl rfl rfl (At.cast At.here rfl) ag30 sz30) ?_
      refine AO.c (Calm.move rfl rfl) ?_
      obtain ⟨t63, et63, h⟩ := of_bind h
      refine AO.callS [(e30 p0), (eI64 (w64 (vget p0.f0 x49)))] (eStr t63) 44 rfl (by decide) ok94 rfl rfl rfl ⟨rfl, rfl, rfl, rfl, trivial⟩ (mini_column_spec et63) ?_
      refine AO.c (Calm.assign rfl rfl) ?_
      refine AO.nK [1, 2, 3, 4, 5, 6, 7, 8, 9, 10, 29] ?_
      refine AW.sr ?_
      refine AO.c (Calm.move rfl rfl) ?_
      refine AO.c (Calm.move rfl rfl) ?_
      refine AO.c (x := .tup [(eI64 ((mget x44 t63).getD (0 : Int))), (eBool ((mget x44 t63).isSome))]) (Calm.look2 (f := eI64) string_inj string_key (0 : Int) 3 rfl rfl rfl rfl Try.underlying76 Try.underlying9 mz3) ?_
      refine AO.c (Calm.move rfl rfl) ?_
      refine AO.c (Calm.extract rfl rfl rfl) ?_
      refine AO.c (Calm.extract rfl rfl rfl) ?_
      refine AO.c (Calm.assign rfl rfl) ?_
      refine AO.c (Calm.assign rfl rfl) ?_
      refine AO.nK [1, 2, 3, 4, 5, 6, 7, 8, 9, 10, 11, 12, 29] ?_
      refine AW.seq_mid (fun ρ H => ∃ (n65 : Nat) (x64 : (List (ByteArray × Int))) (x66 : (List Int)) (x67 : Int), ρ = [(1, (.ptr n2 0)), (2, (.ptr n3 0)), (3, (.ptr n4 0)), (4, (.mp n5)), (5, (.own n65 0 x66.length)), (6, (.own n7 0 x47.length)), (7, (.own n9 0 x48.length)), (8, (eI64 x49)), (9, (eI64 (w64 (vget p0.f0 x49)))), (11, (eI64 x67)), (29, (eI64 x49))] ∧ H = [(n2, (.mem (e30 p0))), (n3, (.mem (.st [(256, (.ar 1 ((Vector.replicate 256 (0 : Int)).toList.map eU8))), (1, (.fl (.slice none 0 0))), (1, (.fl (.slice none 0 0)))]))), (n4, (.mem (.st [(256, (.ar 1 (x43.toList.map eU8))), (1, (.fl (.slice none 0 0))), (1, (.fz 1 (p0.f2.map eI64)))]))), (n5, (.map (encM Value.string eI64 x64))), (n65, (.mem (.ar 1 (x66.map eI64)))), (n7, (.mem (.ar 1 (x47.map eI64)))), (n9, (.mem (.ar 1 (x48.map eBool))))] ∧ mini_classes_c7 k rec50 p0 x43 x47 x48 x49 x64 x66 x67 = some r) ?_ ?_
      ·refine AW.sr ?_
       refine AO.c (Calm.move rfl rfl) ?_
       refine AO.c (Calm.not rfl rfl) ?_
       refine AO.nK [1, 2, 3, 4, 5, 6, 7, 8, 9, 10, 11, 29, 52] ?_
       rcases of_ite h with ⟨hc70, h⟩ | ⟨hc70, h⟩
       ·refine AW.condT' _ rfl hc70 ?_
        refine AW.sr ?_
        refine AO.c (Calm.move rfl rfl) ?_
        refine AO.c (Calm.lenOwn rfl rfl Try.underlying25) ?_
        refine AO.c (Calm.assign rfl rfl) ?_
        refine AO.nK [1, 2, 3, 4, 5, 6, 7, 8, 9, 10, 11, 29] ?_
        refine AW.sr ?_
        refine AO.c (Calm.move rfl rfl) ?_
        refine AO.c (Calm.move rfl rfl) ?_
        refine AO.c (Calm.move rfl rfl) ?_
        refine AO.mapPut (f := eI64) string_inj string_key 3 rfl rfl rfl rfl rfl rfl rfl rfl Try.underlying76 Try.underlying9 ?_
        refine AO.nK [1, 2, 3, 4, 5, 6, 7, 8, 9, 11, 29] ?_
        refine AW.reg ?_
        refine AO.c (Calm.move rfl rfl) ?_
        refine AO.c (Calm.move rfl rfl) ?_
        refine AO.lit (Z := (eI64 (0 : Int))) (xs := (([(w64 (vget p0.f0 x49))] : List Int).map eI64)) (qs := [(0, (eI64 (w64 (vget p0.f0 x49))))]) rfl 60 rfl (by decide) rfl ⟨rfl, rfl, rfl, trivial⟩ Try.underlying25 sz3 zr3 lay3 rfl (by decide) (litOK (z := 1) [(eI64 (w64 (vget p0.f0 x49)))] rfl ⟨⟨rfl, rfl⟩, trivial⟩) rfl fun n71 => ?_
        obtain ⟨hg73, h⟩ := of_guard h
        refine AO.appendL (l := x46) (m := ([(w64 (vget p0.f0 x49))] : List Int)) 5 61 rfl (by decide) rfl rfl rfl rfl rfl (Src.ownL (f := eI64) (l := ([(w64 (vget p0.f0 x49))] : List Int)) 0 rfl) Try.underlying25 Try.underlying25 sz3 by3 zr3 rfl hg73 (by decide) fun n72 => ?_
        refine AO.c (Calm.assign rfl rfl) ?_
        refine AO.nH [1, 2, 3, 4, 5, 6, 7, 8, 9, 11, 29] (H' := [(n2, (.mem (e30 p0))), (n3, (.mem (.st [(256, (.ar 1 ((Vector.replicate 256 (0 : Int)).toList.map eU8))), (1, (.fl (.slice none 0 0))), (1, (.fl (.slice none 0 0)))]))), (n4, (.mem (.st [(256, (.ar 1 (x43.toList.map eU8))), (1, (.fl (.slice none 0 0))), (1, (.fz 1 (p0.f2.map eI64)))]))), (n5, (.map (encM Value.string eI64 (mput x44 t63 (x46.length : Int))))), (n72, (.mem (.ar 1 ((x46 ++ ([(w64 (vget p0.f0 x49))] : List Int)).map eI64)))), (n7, (.mem (.ar 1 (x47.map eI64)))), (n9, (.mem (.ar 1 (x48.map eBool))))]) (Sub.cons 1 rfl (Sub.cons 1 rfl (Sub.cons 1 rfl (Sub.cons 1 rfl (Sub.cons 1 rfl (Sub.cons 1 rfl (Sub.cons 1 rfl (Sub.nil _)))))))) ?_
        exact ⟨n72, (mput x44 t63 (x46.length : Int)), (x46 ++ ([(w64 (vget p0.f0 x49))] : List Int)), (x46.length : Int), rfl, rfl, h⟩
       ·refine AW.condF' _ rfl hc70 ?_
        refine AW.sK [1, 2, 3, 4, 5, 6, 7, 8, 9, 11, 29] ?_
        exact ⟨n45, x44, x46, ((mget x44 t63).getD (0 : Int)), rfl, rfl, h⟩
      ·rintro _ _ ⟨n65, x64, x66, x67, rfl, rfl, h⟩
       rw [mini_classes_c7.eq_1] at h
       refine AW.reg ?_
       refine AO.c (Calm.move rfl rfl) ?_
       refine AO.c (Calm.move rfl rfl) ?_
       refine AO.c (Calm.move rfl rfl) ?_
       refine AO.c (Calm.move rfl rfl) ?_
       refine AO.c (Calm.move rfl rfl) ?_
       obtain ⟨hg68, h⟩ := of_guard h
       refine AO.c (Calm.idxO 5 rfl rfl rfl rfl hg68 Try.underlying25 sz3) ?_
       refine AO.store (X' := (.ar 1 ((lset x47 (w64 (vget p0.f0 x49)) x67).map eI64))) 5 rfl rfl rfl rfl rfl rfl (Put.cast (Put.lidx (w64 (vget p0.f0 x49)) x67 hg68.1 hg68.2 Put.here) (by omega)) rfl rfl sz3 rfl ?_
       refine AO.coe 6 (y' := (.own n7 0 (lset x47 (w64 (vget p0.f0 x49)) x67).length)) rfl (fun _ _ h => lset_own h) ?_
       refine AO.coe 62 (y' := (.own n7 0 (lset x47 (w64 (vget p0.f0 x49)) x67).length)) rfl (fun _ _ h => lset_own h) ?_
       obtain ⟨hg69, h⟩ := of_guard h
       refine AO.c (Calm.idxO 6 rfl rfl rfl rfl hg69 Try.underlying49 sz4) ?_
       refine AO.store (X' := (.ar 1 ((lset x48 (w64 (vget p0.f0 x49)) true).map eBool))) 6 rfl rfl rfl rfl rfl rfl (Put.cast (Put.lidx (w64 (vget p0.f0 x49)) true hg69.1 hg69.2 Put.here) (by omega)) rfl rfl sz4 rfl ?_
       refine AO.coe 7 (y' := (.own n9 0 (lset x48 (w64 (vget p0.f0 x49)) true).length)) rfl (fun _ _ h => lset_own h) ?_
       refine AO.coe 64 (y' := (.own n9 0 (lset x48 (w64 (vget p0.f0 x49)) true).length)) rfl (fun _ _ h => lset_own h) ?_
       refine AO.nK [1, 2, 3, 4, 5, 6, 7, 8, 9, 29] ?_
       exact ⟨n65, x64, x66, (lset x47 (w64 (vget p0.f0 x49)) x67), (lset x48 (w64 (vget p0.f0 x49)) true), rfl, rfl, h⟩
     ·refine AW.condF' _ rfl hc62 ?_
      refine AW.sK [1, 2, 3, 4, 5, 6, 7, 8, 9, 29] ?_
      exact ⟨n45, x44, x46, x47, x48, rfl, rfl, h⟩
    ·rintro _ _ ⟨n55, x54, x56, x57, x58, rfl, rfl, h⟩
     rw [mini_classes_c6.eq_1] at h
     refine AW.reg ?_
     refine AO.c (Calm.move rfl rfl) ?_
     refine AO.c (Calm.move rfl rfl) ?_
     refine AO.c (Calm.move rfl rfl) ?_
     obtain ⟨hg59, h⟩ := of_guard h
     refine AO.c (Calm.idxO 5 rfl rfl rfl rfl hg59 Try.underlying25 sz3) ?_
     refine AO.c (Calm.load 5 rfl rfl rfl (At.cast (At.lidx (w64 (vget p0.f0 x49)) hg59.1 hg59.2 At.here) (by omega)) ag3 sz3) ?_
     refine AO.c (x := eU8 (w8 (lget x57 (w64 (vget p0.f0 x49))))) (Calm.conv rfl rfl Try.underlying3 Try.underlying5) ?_
     refine AO.c (x := .ptr n4 0) (Calm.fldPtr rfl rfl Try.underlying30 rfl sz27 _ rfl) ?_
     obtain ⟨hg60, h⟩ := of_guard h
     refine AO.c (Calm.idxP rfl rfl rfl hg60 Try.underlying27 sz5) ?_
     refine AO.store (X' := (.st [(256, (.ar 1 ((vset x43 x49 (w8 (lget x57 (w64 (vget p0.f0 x49))))).toList.map eU8))), (1, (.fl (.slice none 0 0))), (1, (.fz 1 (p0.f2.map eI64)))])) 2 rfl rfl rfl rfl rfl rfl (Put.cast (Put.fld0 (Put.vidx x49 (w8 (lget x57 (w64 (vget p0.f0 x49)))) hg60.1 hg60.2 Put.here)) (by omega)) rfl rfl sz5 rfl ?_
     refine AO.nK [1, 2, 3, 4, 5, 6, 7, 29] ?_
     refine AW.reg ?_
     refine AO.c (x := eI64 (w64 (x49 + (1 : Int)))) (Calm.int rfl rfl rfl rfl) ?_
     refine AO.c (Calm.move rfl rfl) ?_
     refine AO.nK [1, 2, 3, 4, 5, 6, 7, 29] ?_
     exact ⟨kq51, Nat.lt_succ_self _, n55, (vset x43 x49 (w8 (lget x57 (w64 (vget p0.f0 x49))))), x54, x56, x57, x58, (w64 (x49 + (1 : Int))), rfl, rfl, by rw [hrec50]; exact h⟩
   ·refine AW.condN _ rfl hc52 ?_
    refine AW.eH [1, 2, 3, 5] (H' := [(n2, (.mem (e30 p0))), (n3, (.mem (.st [(256, (.ar 1 ((Vector.replicate 256 (0 : Int)).toList.map eU8))), (1, (.fl (.slice none 0 0))), (1, (.fl (.slice none 0 0)))]))), (n4, (.mem (.st [(256, (.ar 1 (x43.toList.map eU8))), (1, (.fl (.slice none 0 0))), (1, (.fz 1 (p0.f2.map eI64)))]))), (n45, (.mem (.ar 1 (x46.map eI64))))]) (Sub.cons 0 rfl (Sub.cons 0 rfl (Sub.cons 0 rfl (Sub.cons 1 rfl (Sub.nil _))))) ?_
    exact ⟨n45, x43, x46, rfl, rfl, h⟩
  ·rintro _ _ ⟨n12, x11, x13, rfl, rfl, h⟩
   rw [mini_classes_c5.eq_1] at h
   refine AW.seq_mid (fun ρ H => ∃ (n14 : Nat) (x15 : (List (List Int))), ρ = [(2, (.ptr n3 0)), (3, (.ptr n4 0))] ∧ H = [(n3, (.mem (.st [(256, (.ar 1 ((Vector.replicate 256 (0 : Int)).toList.map eU8))), (1, (.fl (.slice none 0 0))), (1, (.fl (.slice none 0 0)))]))), (n4, (.mem (.st [(256, (.ar 1 (x11.toList.map eU8))), (1, (.own n14 0 x15.length)), (1, (.fz 1 (p0.f2.map eI64)))]))), (n14, (.mem (.ar 1 (x15.map e25))))] ∧ mini_classes_c0 k p0 x11 x15 = some r) ?_ ?_
   ·refine AW.sr ?_
    refine AO.c (x := .ptr n2 256) (Calm.fldPtr rfl rfl Try.underlying30 rfl sz28 _ rfl) ?_
    refine AO.c (Calm.load 0 rfl rfl rfl (At.cast (At.fldS (At.fld0 At.here)) rfl) ag28 sz28) ?_
    refine AO.c (Calm.lenL rfl rfl Try.underlying28) ?_
    refine AO.c (Calm.move rfl rfl) ?_
    refine AO.nH [2, 3, 5, 79, 80, 81] (H' := [(n3, (.mem (.st [(256, (.ar 1 ((Vector.replicate 256 (0 : Int)).toList.map eU8))), (1, (.fl (.slice none 0 0))), (1, (.fl (.slice none 0 0)))]))), (n4, (.mem (.st [(256, (.ar 1 (x11.toList.map eU8))), (1, (.fl (.slice none 0 0))), (1, (.fz 1 (p0.f2.map eI64)))]))), (n12, (.mem (.ar 1 (x13.map eI64))))]) (Sub.cons 1 rfl (Sub.cons 1 rfl (Sub.cons 1 rfl (Sub.nil _)))) ?_
    refine AW.block ?_
    refine AW.nilOwnFld 1 1 (fun n42 => (.st [(256, (.ar 1 (x11.toList.map eU8))), (1, (.own n42 0 0)), (1, (.fz 1 (p0.f2.map eI64)))])) rfl (fun _ => (Put.cast (Put.fldS (Put.fld0 Put.here)) rfl)) (fun _ => rfl) (fun _ => rfl) fun n42 => ?_
    refine AW.wH [2, 3, 5, 79, 80, 81] (H' := [(n3, (.mem (.st [(256, (.ar 1 ((Vector.replicate 256 (0 : Int)).toList.map eU8))), (1, (.fl (.slice none 0 0))), (1, (.fl (.slice none 0 0)))]))), (n4, (.mem (.st [(256, (.ar 1 (x11.toList.map eU8))), (1, (.own n42 0 ([] : List (List Int)).length)), (1, (.fz 1 (p0.f2.map eI64)))]))), (n42, (.mem (.ar 1 (([] : List (List Int)).map e25)))), (n12, (.mem (.ar 1 (x13.map eI64))))]) (Sub.cons 1 rfl (Sub.cons 1 rfl (Sub.cons 0 rfl (Sub.cons 0 rfl (Sub.nil _))))) ?_
    refine AW.loop (fun kq ρ H => ∃ (n16 : Nat) (x17 : (List (List Int))) (x18 : Int), ρ = [(2, (.ptr n3 0)), (3, (.ptr n4 0)), (5, (.own n12 0 x13.length)), (79, (.fz 1 (p0.f1.map e25))), (80, (eI64 (p0.f1.length : Int))), (81, (eI64 x18))] ∧ H = [(n3, (.mem (.st [(256, (.ar 1 ((Vector.replicate 256 (0 : Int)).toList.map eU8))), (1, (.fl (.slice none 0 0))), (1, (.fl (.slice none 0 0)))]))), (n4, (.mem (.st [(256, (.ar 1 (x11.toList.map eU8))), (1, (.own n16 0 x17.length)), (1, (.fz 1 (p0.f2.map eI64)))]))), (n16, (.mem (.ar 1 (x17.map e25)))), (n12, (.mem (.ar 1 (x13.map eI64))))] ∧ mini_classes_l4 k p0 x11 x13 kq x17 x18 = some r) k ⟨n42, ([] : List (List Int)), (0 : Int), rfl, rfl, h⟩ ?_
    rintro kq20 _ _ ⟨n16, x17, x18, rfl, rfl, h⟩
    cases kq20 with
    | zero => rw [mini_classes_l4.eq_1] at h; cases h
    | succ kq20 =>
    rw [mini_classes_l4.eq_2] at h
    generalize hrec19 : mini_classes_l4 k p0 x11 x13 kq20 = rec19 at h
    refine AW.sr ?_
    refine AO.c (x := eBool (decide (x18 < (p0.f1.length : Int)))) (Calm.int rfl rfl rfl rfl) ?_
    refine AO.nK [2, 3, 5, 79, 80, 81, 82] ?_
    refine AW.seq ?_
    rcases of_ite h with ⟨hc21, h⟩ | ⟨hc21, h⟩
    ·refine AW.condP _ rfl hc21 ?_
     refine AW.sK [2, 3, 5, 79, 80, 81] ?_
     refine AW.seq_mid (fun ρ H => ∃ (n22 : Nat) (x23 : (List (List Int))), ρ = [(2, (.ptr n3 0)), (3, (.ptr n4 0)), (5, (.own n12 0 x13.length)), (79, (.fz 1 (p0.f1.map e25))), (80, (eI64 (p0.f1.length : Int))), (81, (eI64 x18))] ∧ H = [(n3, (.mem (.st [(256, (.ar 1 ((Vector.replicate 256 (0 : Int)).toList.map eU8))), (1, (.fl (.slice none 0 0))), (1, (.fl (.slice none 0 0)))]))), (n4, (.mem (.st [(256, (.ar 1 (x11.toList.map eU8))), (1, (.own n22 0 x23.length)), (1, (.fz 1 (p0.f2.map eI64)))]))), (n22, (.mem (.ar 1 (x23.map e25)))), (n12, (.mem (.ar 1 (x13.map eI64))))] ∧ mini_classes_c1 k rec19 x18 x23 = some r) ?_ ?_
     ·refine AW.block ?_
      refine AW.sr ?_
      obtain ⟨hg24, h⟩ := of_guard h
      refine AO.c (Calm.idxL (f := e25) rfl rfl rfl hg24 Try.underlying28 sz25) ?_
      refine AO.c (Calm.loadRp rfl rfl ag25 sz25) ?_
      refine AO.c (Calm.assign rfl rfl) ?_
      refine AO.nK [2, 3, 5, 14, 79, 80, 81] ?_
      refine AW.sr ?_
      refine AO.c (Calm.assign rfl rfl) ?_
      refine AO.nK [2, 3, 5, 14, 15, 79, 80, 81] ?_
      refine AW.seq_mid (fun ρ H => ∃ (n25 : Nat) (x26 : (List Int)), ρ = [(2, (.ptr n3 0)), (3, (.ptr n4 0)), (5, (.own n12 0 x13.length)), (15, (.own n25 0 x26.length)), (79, (.fz 1 (p0.f1.map e25))), (80, (eI64 (p0.f1.length : Int))), (81, (eI64 x18))] ∧ H = [(n3, (.mem (.st [(256, (.ar 1 ((Vector.replicate 256 (0 : Int)).toList.map eU8))), (1, (.fl (.slice none 0 0))), (1, (.fl (.slice none 0 0)))]))), (n4, (.mem (.st [(256, (.ar 1 (x11.toList.map eU8))), (1, (.own n16 0 x17.length)), (1, (.fz 1 (p0.f2.map eI64)))]))), (n16, (.mem (.ar 1 (x17.map e25)))), (n12, (.mem (.ar 1 (x13.map eI64)))), (n25, (.mem (.ar 1 (x26.map eI64))))] ∧ mini_classes_c2 k rec19 x17 x18 x26 = some r) ?_ ?_
      ·refine AW.sr ?_
       refine AO.c (Calm.move rfl rfl) ?_
       refine AO.c (Calm.lenOwn rfl rfl Try.underlying25) ?_
       refine AO.c (Calm.move rfl rfl) ?_
       refine AO.nK [2, 3, 5, 14, 15, 79, 80, 81, 85, 86, 87] ?_
       refine AW.block ?_
       refine AW.nilOwn 15 1 rfl fun n41 => ?_
       refine AW.wH [2, 3, 5, 14, 15, 79, 80, 81, 85, 86, 87] (H' := [(n3, (.mem (.st [(256, (.ar 1 ((Vector.replicate 256 (0 : Int)).toList.map eU8))), (1, (.fl (.slice none 0 0))), (1, (.fl (.slice none 0 0)))]))), (n4, (.mem (.st [(256, (.ar 1 (x11.toList.map eU8))), (1, (.own n16 0 x17.length)), (1, (.fz 1 (p0.f2.map eI64)))]))), (n16, (.mem (.ar 1 (x17.map e25)))), (n12, (.mem (.ar 1 (x13.map eI64)))), (n41, (.mem (.ar 1 (([] : List Int).map eI64))))]) (Sub.cons 1 rfl (Sub.cons 1 rfl (Sub.cons 1 rfl (Sub.cons 1 rfl (Sub.cons 0 rfl (Sub.nil _)))))) ?_
       refine AW.loop (fun kq ρ H => ∃ (n30 : Nat) (x31 : (List Int)) (x32 : Int), ρ = [(2, (.ptr n3 0)), (3, (.ptr n4 0)), (5, (.own n12 0 x13.length)), (14, (.fz 1 ((lget p0.f1 x18).map eI64))), (15, (.own n30 0 x31.length)), (79, (.fz 1 (p0.f1.map e25))), (80, (eI64 (p0.f1.length : Int))), (81, (eI64 x18)), (85, (.own n12 0 x13.length)), (86, (eI64 (x13.length : Int))), (87, (eI64 x32))] ∧ H = [(n3, (.mem (.st [(256, (.ar 1 ((Vector.replicate 256 (0 : Int)).toList.map eU8))), (1, (.fl (.slice none 0 0))), (1, (.fl (.slice none 0 0)))]))), (n4, (.mem (.st [(256, (.ar 1 (x11.toList.map eU8))), (1, (.own n16 0 x17.length)), (1, (.fz 1 (p0.f2.map eI64)))]))), (n16, (.mem (.ar 1 (x17.map e25)))), (n12, (.mem (.ar 1 (x13.map eI64)))), (n30, (.mem (.ar 1 (x31.map eI64))))] ∧ mini_classes_l3 k rec19 p0 x13 x17 x18 kq x31 x32 = some r) k ⟨n41, ([] : List Int), (0 : Int), rfl, rfl, h⟩ ?_
       rintro kq34 _ _ ⟨n30, x31, x32, rfl, rfl, h⟩
       cases kq34 with
       | zero => rw [mini_classes_l3.eq_1] at h; cases h
       | succ kq34 =>
       rw [mini_classes_l3.eq_2] at h
       generalize hrec33 : mini_classes_l3 k rec19 p0 x13 x17 x18 kq34 = rec33 at h
       refine AW.sr ?_
       refine AO.c (x := eBool (decide (x32 < (x13.length : Int)))) (Calm.int rfl rfl rfl rfl) ?_
       refine AO.nK [2, 3, 5, 14, 15, 79, 80, 81, 85, 86, 87, 88] ?_
       refine AW.seq ?_
       rcases of_ite h with ⟨hc35, h⟩ | ⟨hc35, h⟩
       ·refine AW.condP _ rfl hc35 ?_
        refine AW.sK [2, 3, 5, 14, 15, 79, 80, 81, 85, 86, 87] ?_
        refine AW.seq ?_
        refine AW.block ?_
        refine AW.sr ?_
        obtain ⟨hg36, h⟩ := of_guard h
        refine AO.c (Calm.idxO 3 rfl rfl rfl rfl hg36 Try.underlying25 sz3) ?_
        refine AO.c (Calm.load 3 rfl rfl rfl (At.cast (At.lidx x32 hg36.1 hg36.2 At.here) (by omega)) ag3 sz3) ?_
        refine AO.c (Calm.assign rfl rfl) ?_
        refine AO.nK [2, 3, 5, 14, 15, 17, 79, 80, 81, 85, 86, 87] ?_
        refine AW.reg ?_
        refine AO.c (Calm.move rfl rfl) ?_
        refine AO.c (Calm.move rfl rfl) ?_
        refine AO.c (Calm.move rfl rfl) ?_
        obtain ⟨hg37, h⟩ := of_guard h
        refine AO.c (Calm.idxL (f := eI64) rfl rfl rfl hg37 Try.underlying25 sz3) ?_
        refine AO.c (Calm.loadRp rfl rfl ag3 sz3) ?_
        refine AO.lit (Z := (eI64 (0 : Int))) (xs := (([(lget (lget p0.f1 x18) (lget x13 x32))] : List Int).map eI64)) (qs := [(0, (eI64 (lget (lget p0.f1 x18) (lget x13 x32))))]) rfl 96 rfl (by decide) rfl ⟨rfl, rfl, rfl, trivial⟩ Try.underlying25 sz3 zr3 lay3 rfl (by decide) (litOK (z := 1) [(eI64 (lget (lget p0.f1 x18) (lget x13 x32)))] rfl ⟨⟨rfl, rfl⟩, trivial⟩) rfl fun n38 => ?_
        obtain ⟨hg40, h⟩ := of_guard h
        refine AO.appendL (l := x31) (m := ([(lget (lget p0.f1 x18) (lget x13 x32))] : List Int)) 5 97 rfl (by decide) rfl rfl rfl rfl rfl (Src.ownL (f := eI64) (l := ([(lget (lget p0.f1 x18) (lget x13 x32))] : List Int)) 0 rfl) Try.underlying25 Try.underlying25 sz3 by3 zr3 rfl hg40 (by decide) fun n39 => ?_
        refine AO.c (Calm.assign rfl rfl) ?_
        refine AO.nH [2, 3, 5, 14, 15, 79, 80, 81, 85, 86, 87] (H' := [(n3, (.mem (.st [(256, (.ar 1 ((Vector.replicate 256 (0 : Int)).toList.map eU8))), (1, (.fl (.slice none 0 0))), (1, (.fl (.slice none 0 0)))]))), (n4, (.mem (.st [(256, (.ar 1 (x11.toList.map eU8))), (1, (.own n16 0 x17.length)), (1, (.fz 1 (p0.f2.map eI64)))]))), (n16, (.mem (.ar 1 (x17.map e25)))), (n12, (.mem (.ar 1 (x13.map eI64)))), (n39, (.mem (.ar 1 ((x31 ++ ([(lget (lget p0.f1 x18) (lget x13 x32))] : List Int)).map eI64))))]) (Sub.cons 1 rfl (Sub.cons 1 rfl (Sub.cons 1 rfl (Sub.cons 1 rfl (Sub.cons 1 rfl (Sub.nil _)))))) ?_
        refine AW.reg ?_
        refine AO.c (x := eI64 (w64 (x32 + (1 : Int)))) (Calm.int rfl rfl rfl rfl) ?_
        refine AO.c (Calm.move rfl rfl) ?_
        refine AO.nK [2, 3, 5, 14, 15, 79, 80, 81, 85, 86, 87] ?_
        exact ⟨kq34, Nat.lt_succ_self _, n39, (x31 ++ ([(lget (lget p0.f1 x18) (lget x13 x32))] : List Int)), (w64 (x32 + (1 : Int))), rfl, rfl, by rw [hrec33]; exact h⟩
       ·refine AW.condN _ rfl hc35 ?_
        refine AW.eK [2, 3, 5, 15, 79, 80, 81] ?_
        exact ⟨n30, x31, rfl, rfl, h⟩
      ·rintro _ _ ⟨n25, x26, rfl, rfl, h⟩
       rw [mini_classes_c2.eq_1] at h
       refine AW.reg ?_
       refine AO.c (x := .ptr n4 256) (Calm.fldPtr rfl rfl Try.underlying30 rfl sz28 _ rfl) ?_
       refine AO.c (Calm.load 1 rfl rfl rfl (At.cast (At.fldS (At.fld0 At.here)) rfl) ag28 sz28) ?_
       refine AO.c (Calm.move rfl rfl) ?_
       refine AO.freezeS 4 [(15, (.fz 1 (x26.map eI64))), (101, (.fz 1 (x26.map eI64)))] rfl ⟨fz_all rfl, fz_all rfl, trivial⟩ ?_
       refine AO.lit (Z := (.fl (.slice none 0 0))) (xs := (([x26] : List (List Int)).map e25)) (qs := [(0, (.fz 1 (x26.map eI64)))]) rfl 102 rfl (by decide) rfl ⟨rfl, rfl, rfl, trivial⟩ Try.underlying28 sz25 zr25 lay25 rfl (by decide) (litOK (z := 1) [(.fz 1 (x26.map eI64))] rfl ⟨⟨rfl, rfl⟩, trivial⟩) rfl fun n27 => ?_
       obtain ⟨hg29, h⟩ := of_guard h
       refine AO.appendL (l := x17) (m := ([x26] : List (List Int))) 3 103 rfl (by decide) rfl rfl rfl rfl rfl (Src.ownL (f := e25) (l := ([x26] : List (List Int))) 0 rfl) Try.underlying28 Try.underlying28 sz25 by25 zr25 rfl hg29 (by decide) fun n28 => ?_
       refine AO.c (x := .ptr n4 256) (Calm.fldPtr rfl rfl Try.underlying30 rfl sz28 _ rfl) ?_
       refine AO.store (X' := (.st [(256, (.ar 1 (x11.toList.map eU8))), (1, (.own n28 0 (x17 ++ ([x26] : List (List Int))).length)), (1, (.fz 1 (p0.f2.map eI64)))])) 2 rfl rfl rfl rfl rfl rfl (Put.cast (Put.fldS (Put.fld0 Put.here)) rfl) rfl rfl sz28 rfl ?_
       refine AO.nH [2, 3, 5, 79, 80, 81] (H' := [(n3, (.mem (.st [(256, (.ar 1 ((Vector.replicate 256 (0 : Int)).toList.map eU8))), (1, (.fl (.slice none 0 0))), (1, (.fl (.slice none 0 0)))]))), (n4, (.mem (.st [(256, (.ar 1 (x11.toList.map eU8))), (1, (.own n28 0 (x17 ++ ([x26] : List (List Int))).length)), (1, (.fz 1 (p0.f2.map eI64)))]))), (n28, (.mem (.ar 1 ((x17 ++ ([x26] : List (List Int))).map e25)))), (n12, (.mem (.ar 1 (x13.map eI64))))]) (Sub.cons 1 rfl (Sub.cons 1 rfl (Sub.cons 1 rfl (Sub.cons 1 rfl (Sub.nil _))))) ?_
       exact ⟨n28, (x17 ++ ([x26] : List (List Int))), rfl, rfl, h⟩
     ·rintro _ _ ⟨n22, x23, rfl, rfl, h⟩
      rw [mini_classes_c1.eq_1] at h
      refine AW.reg ?_
      refine AO.c (x := eI64 (w64 (x18 + (1 : Int)))) (Calm.int rfl rfl rfl rfl) ?_
      refine AO.c (Calm.move rfl rfl) ?_
      refine AO.nK [2, 3, 5, 79, 80, 81] ?_
      exact ⟨kq20, Nat.lt_succ_self _, n22, x23, (w64 (x18 + (1 : Int))), rfl, rfl, by rw [hrec19]; exact h⟩
    ·refine AW.condN _ rfl hc21 ?_
     refine AW.eH [2, 3] (H' := [(n3, (.mem (.st [(256, (.ar 1 ((Vector.replicate 256 (0 : Int)).toList.map eU8))), (1, (.fl (.slice none 0 0))), (1, (.fl (.slice none 0 0)))]))), (n4, (.mem (.st [(256, (.ar 1 (x11.toList.map eU8))), (1, (.own n16 0 x17.length)), (1, (.fz 1 (p0.f2.map eI64)))]))), (n16, (.mem (.ar 1 (x17.map e25))))]) (Sub.cons 0 rfl (Sub.cons 0 rfl (Sub.cons 0 rfl (Sub.nil _)))) ?_
     exact ⟨n16, x17, rfl, rfl, h⟩
   ·rintro _ _ ⟨n14, x15, rfl, rfl, h⟩
    rw [mini_classes_c0.eq_1] at h
    refine AW.sr ?_
    refine AO.freezeFld (X' := (.st [(256, (.ar 1 (x11.toList.map eU8))), (1, (.fz 1 (x15.map e25))), (1, (.fz 1 (p0.f2.map eI64)))])) (els' := (x15.map e25)) 2 1 rfl rfl (Put.cast (Put.fldS (Put.fld0 Put.here)) rfl) (by simp) (by rw [own_all]) rfl rfl (by decide) ?_
    refine AO.c (x := e30 (S30.mk x11 x15 p0.f2)) (Calm.load 1 rfl rfl rfl (At.cast At.here rfl) ag30 sz30) ?_
    refine AO.store (X' := (e30 (S30.mk x11 x15 p0.f2))) 0 rfl rfl rfl rfl rfl rfl (Put.cast Put.here rfl) rfl rfl sz30 rfl ?_
    refine AO.nH [2] (H' := [(n3, (.mem (e30 (S30.mk x11 x15 p0.f2))))]) (Sub.cons 0 rfl (Sub.nil _)) ?_
    refine AW.rK [2] ?_
    have hr := Option.some.inj h
    subst hr
    exact ⟨[(e30 (S30.mk x11 x15 p0.f2))], ⟨⟨_, 0, rfl, rfl, ag30, sz30⟩, trivial⟩, rfl⟩
end Go.Avl.T5
/- bosket/mini.Of; printed by avmain.py. -/
namespace Go.Avl.T5
open Go Go.RowKit Go.Proofs Go.Avl
set_option linter.unusedVariables false
set_option maxRecDepth 100000
set_option maxHeartbeats 4000000
set_option linter.unusedSimpArgs false
attribute [local irreducible] AW AO AQ Spec SpecH Calm

def mini_Of_c0 (k : Nat) (t7 : S30) (x11 : (List (List Int))) (x13 : (List Int)) : Option (S30 × Int) :=
  (mini_classes k (S30.mk t7.f0 x11 x13)).bind fun t14 =>
  (dfa_Order k t14).bind fun t15 =>
  some (t15, (0 : Int))
def mini_Of_c1 (k : Nat) (rec21 : ((List (List Int)) → (List Int) → Int → Option (S30 × Int))) (x20 : Int) (x25 : (List (List Int))) (x27 : (List Int)) : Option (S30 × Int) :=
  rec21 x25 x27 (w64 (x20 + (1 : Int)))
def mini_Of_c2 (k : Nat) (rec21 : ((List (List Int)) → (List Int) → Int → Option (S30 × Int))) (t7 : S30) (x17 : (List (List Int))) (x19 : (List Int)) (x20 : Int) (x31 : (List Int)) : Option (S30 × Int) :=
  if (x17 ++ ([x31] : List (List Int))).length * 24 ≤ 140737488355328 then if 0 ≤ x20 ∧ x20 < (t7.f2.length : Int) then if (x19 ++ ([(lget t7.f2 x20)] : List Int)).length * 8 ≤ 140737488355328 then mini_Of_c1 k rec21 x20 (x17 ++ ([x31] : List (List Int))) (x19 ++ ([(lget t7.f2 x20)] : List Int))
  else none
  else none
  else none
def mini_Of_c3 (k : Nat) (rec43 : ((List Int) → Int → Option (S30 × Int))) (x41 : (List Int)) (x42 : Int) (x47 : Int) : Option (S30 × Int) :=
  if (x41 ++ ([x47] : List Int)).length * 8 ≤ 140737488355328 then rec43 (x41 ++ ([x47] : List Int)) (w64 (x42 + (1 : Int)))
  else none
def mini_Of_l4 (k : Nat) (rec21 : ((List (List Int)) → (List Int) → Int → Option (S30 × Int))) (t7 : S30) (t8 : (List Int)) (x17 : (List (List Int))) (x19 : (List Int)) (x20 : Int) : Nat → (List Int) → Int → Option (S30 × Int)
  | 0, _, _ => none
  | j + 1, x41, x42 =>
    if x42 < ((lget t7.f1 x20).length : Int) then if 0 ≤ x42 ∧ x42 < ((lget t7.f1 x20).length : Int) then if (0 : Int) ≤ (lget (lget t7.f1 x20) x42) then if 0 ≤ (lget (lget t7.f1 x20) x42) ∧ (lget (lget t7.f1 x20) x42) < (t8.length : Int) then mini_Of_c3 k (mini_Of_l4 k rec21 t7 t8 x17 x19 x20 j) x41 x42 (lget t8 (lget (lget t7.f1 x20) x42))
    else none
    else mini_Of_c3 k (mini_Of_l4 k rec21 t7 t8 x17 x19 x20 j) x41 x42 (lget (lget t7.f1 x20) x42)
    else none
    else mini_Of_c2 k rec21 t7 x17 x19 x20 x41
def mini_Of_l5 (k : Nat) (t7 : S30) (t8 : (List Int)) : Nat → (List (List Int)) → (List Int) → Int → Option (S30 × Int)
  | 0, _, _, _ => none
  | j + 1, x17, x19, x20 =>
    if x20 < (t7.f1.length : Int) then if 0 ≤ x20 ∧ x20 < (t8.length : Int) then if (lget t8 x20) ≠ (x17.length : Int) then mini_Of_c1 k (mini_Of_l5 k t7 t8 j) x20 x17 x19
    else if 0 ≤ x20 ∧ x20 < (t7.f1.length : Int) then mini_Of_l4 k (mini_Of_l5 k t7 t8 j) t7 t8 x17 x19 x20 k ([] : List Int) (0 : Int)
    else none
    else none
    else mini_Of_c0 k t7 x17 x19
def mini_Of (k : Nat) (p0 : S30) : Option (S30 × Int) :=
  (dfa_Right k p0).bind fun t4 =>
  if (!t4) = true then some ((S30.mk (Vector.replicate 256 (0 : Int)) ([] : List (List Int)) ([] : List Int)), (1 : Int))
  else (dfa_Trim k p0).bind fun t6 =>
  (dfa_Order k t6).bind fun t7 =>
  (mini_Blocks k t7).bind fun t8 =>
  mini_Of_l5 k t7 t8 k ([] : List (List Int)) ([] : List Int) (0 : Int)
theorem mini_Of_spec {k : Nat} {p0 : S30} {r : (S30 × Int)} (h : mini_Of k p0 = some r) : Spec Try.prog 33 [(e30 p0)] (.tup [(e30 r.1), (eI64 r.2)]) := by
  rw [mini_Of.eq_1] at h
  refine Spec.intro (res := [.cell 2 30, .tmp 3]) Try.func33 rfl rfl rfl (Nat.le_of_ble_eq_true rfl) ?_
  refine AW.sr ?_
  refine AO.box rfl 1 rfl (by decide) rfl rfl rfl fun n2 => ?_
  refine AO.alloc rfl 2 rfl (by decide) rfl zr30 lay30 fun n3 => ?_
  refine AO.c (Calm.assign rfl rfl) ?_
  refine AO.nH [1, 2] (H' := [(n2, (.mem (e30 p0))), (n3, (.mem (.st [(256, (.ar 1 ((Vector.replicate 256 (0 : Int)).toList.map eU8))), (1, (.fl (.slice none 0 0))), (1, (.fl (.slice none 0 0)))])))]) (Sub.cons 1 rfl (Sub.cons 0 rfl (Sub.nil _))) ?_
  refine AW.seq ?_
  refine AW.sr ?_
  refine AO.c (Calm.load 0 rfl rfl rfl (At.cast At.here rfl) ag30 sz30) ?_
  obtain ⟨t4, et4, h⟩ := of_bind h
  refine AO.callS [(e30 p0)] (eBool t4) 11 rfl (by decide) ok64 rfl rfl rfl ⟨rfl, rfl, trivial⟩ (dfa_Right_spec et4) ?_
  refine AO.c (Calm.not rfl rfl) ?_
  refine AO.nK [1, 2, 12] ?_
  rcases of_ite h with ⟨hc5, h⟩ | ⟨hc5, h⟩
  ·refine AW.condT' _ rfl hc5 ?_
   refine AW.sr ?_
   refine AO.c (x := .st [(256, (.ar 1 ((Vector.replicate 256 (0 : Int)).toList.map eU8))), (1, (.fl (.slice none 0 0))), (1, (.fl (.slice none 0 0)))]) (Calm.build (qs := []) rfl trivial Try.underlying30 rfl zr30 lay30 .nil rfl) ?_
   refine AO.store (X' := (.st [(256, (.ar 1 ((Vector.replicate 256 (0 : Int)).toList.map eU8))), (1, (.fl (.slice none 0 0))), (1, (.fl (.slice none 0 0)))])) 1 rfl rfl rfl rfl rfl rfl (Put.cast Put.here rfl) rfl rfl sz30 rfl ?_
   refine AO.c (Calm.assign rfl rfl) ?_
   refine AO.nH [2, 3] (H' := [(n3, (.mem (.st [(256, (.ar 1 ((Vector.replicate 256 (0 : Int)).toList.map eU8))), (1, (.fl (.slice none 0 0))), (1, (.fl (.slice none 0 0)))])))]) (Sub.cons 1 rfl (Sub.nil _)) ?_
   refine AW.coeFld (X' := (.st [(256, (.ar 1 ((Vector.replicate 256 (0 : Int)).toList.map eU8))), (1, (.fz 1 (([] : List (List Int)).map e25))), (1, (.fl (.slice none 0 0)))])) 0 rfl (Put.cast (Put.fldS (Put.fld0 Put.here)) rfl) rfl (nil_fz 1) rfl rfl ?_
   refine AW.coeFld (X' := (.st [(256, (.ar 1 ((Vector.replicate 256 (0 : Int)).toList.map eU8))), (1, (.fz 1 (([] : List (List Int)).map e25))), (1, (.fz 1 (([] : List Int).map eI64)))])) 0 rfl (Put.cast (Put.fldS (Put.fldS (Put.fld0 Put.here))) rfl) rfl (nil_fz 1) rfl rfl ?_
   refine AW.rK [2, 3] ?_
   have hr := Option.some.inj h
   subst hr
   exact ⟨[(e30 (S30.mk (Vector.replicate 256 (0 : Int)) ([] : List (List Int)) ([] : List Int))), (eI64 (1 : Int))], ⟨⟨_, 0, rfl, rfl, ag30, sz30⟩, rfl, rfl, trivial⟩, rfl⟩
  ·refine AW.condF' _ rfl hc5 ?_
   refine AW.sK [1, 2] ?_
   refine AW.sr ?_
   refine AO.c (Calm.load 0 rfl rfl rfl (At.cast At.here rfl) ag30 sz30) ?_
   obtain ⟨t6, et6, h⟩ := of_bind h
   refine AO.callS [(e30 p0)] (e30 t6) 15 rfl (by decide) ok66 rfl rfl rfl ⟨rfl, rfl, trivial⟩ (dfa_Trim_spec et6) ?_
   obtain ⟨t7, et7, h⟩ := of_bind h
   refine AO.callS [(e30 t6)] (e30 t7) 16 rfl (by decide) ok65 rfl rfl rfl ⟨rfl, rfl, trivial⟩ (dfa_Order_spec et7) ?_
   refine AO.store (X' := (e30 t7)) 0 rfl rfl rfl rfl rfl rfl (Put.cast Put.here rfl) rfl rfl sz30 rfl ?_
   refine AO.nK [1, 2] ?_
   refine AW.sr ?_
   refine AO.c (Calm.load 0 rfl rfl rfl (At.cast At.here rfl) ag30 sz30) ?_
   obtain ⟨t8, et8, h⟩ := of_bind h
   refine AO.callS [(e30 t7)] (.fz 1 (t8.map eI64)) 18 rfl (by decide) ok34 rfl rfl rfl ⟨rfl, rfl, trivial⟩ (mini_Blocks_spec et8) ?_
   refine AO.c (Calm.assign rfl rfl) ?_
   refine AO.nK [1, 2, 4] ?_
   refine AW.sr ?_
   refine AO.c (x := .ptr n2 0) (Calm.fldPtr rfl rfl Try.underlying30 rfl sz27 _ rfl) ?_
   refine AO.c (Calm.load 0 rfl rfl rfl (At.cast (At.fld0 At.here) rfl) ag27 (by rw [sz27]; simp [AV.size])) ?_
   refine AO.c (x := .st [(256, (.ar 1 (t7.f0.toList.map eU8))), (1, (.fl (.slice none 0 0))), (1, (.fl (.slice none 0 0)))]) (Calm.build (qs := [(0, (.ar 1 (t7.f0.toList.map eU8)))]) rfl ⟨rfl, rfl, rfl, trivial⟩ Try.underlying30 rfl zr30 lay30 (.cons rfl rfl (vec_size _ _) (vec_size _ _) (Put.cast (Put.fld0 Put.here) rfl) .nil) rfl) ?_
   refine AO.alloc rfl 5 rfl (by decide) rfl zr30 lay30 fun n9 => ?_
   refine AO.store (X' := (.st [(256, (.ar 1 (t7.f0.toList.map eU8))), (1, (.fl (.slice none 0 0))), (1, (.fl (.slice none 0 0)))])) 0 rfl rfl rfl rfl rfl rfl (Put.cast Put.here rfl) rfl rfl sz30 rfl ?_
   refine AO.nH [1, 2, 4, 5] (H' := [(n2, (.mem (e30 t7))), (n3, (.mem (.st [(256, (.ar 1 ((Vector.replicate 256 (0 : Int)).toList.map eU8))), (1, (.fl (.slice none 0 0))), (1, (.fl (.slice none 0 0)))]))), (n9, (.mem (.st [(256, (.ar 1 (t7.f0.toList.map eU8))), (1, (.fl (.slice none 0 0))), (1, (.fl (.slice none 0 0)))])))]) (Sub.cons 1 rfl (Sub.cons 1 rfl (Sub.cons 0 rfl (Sub.nil _)))) ?_
   refine AW.seq_mid (fun ρ H => ∃ (n10 : Nat) (n12 : Nat) (x11 : (List (List Int))) (x13 : (List Int)), ρ = [(2, (.ptr n3 0)), (5, (.ptr n9 0))] ∧ H = [(n3, (.mem (.st [(256, (.ar 1 ((Vector.replicate 256 (0 : Int)).toList.map eU8))), (1, (.fl (.slice none 0 0))), (1, (.fl (.slice none 0 0)))]))), (n9, (.mem (.st [(256, (.ar 1 (t7.f0.toList.map eU8))), (1, (.own n10 0 x11.length)), (1, (.own n12 0 x13.length))]))), (n10, (.mem (.ar 1 (x11.map e25)))), (n12, (.mem (.ar 1 (x13.map eI64))))] ∧ mini_Of_c0 k t7 x11 x13 = some r) ?_ ?_
   ·refine AW.sr ?_
    refine AO.c (x := .ptr n2 256) (Calm.fldPtr rfl rfl Try.underlying30 rfl sz28 _ rfl) ?_
    refine AO.c (Calm.load 0 rfl rfl rfl (At.cast (At.fldS (At.fld0 At.here)) rfl) ag28 sz28) ?_
    refine AO.c (Calm.lenL rfl rfl Try.underlying28) ?_
    refine AO.c (Calm.move rfl rfl) ?_
    refine AO.nK [1, 2, 4, 5, 24, 25] ?_
    refine AW.block ?_
    refine AW.nilOwnFld 2 1 (fun n54 => (.st [(256, (.ar 1 (t7.f0.toList.map eU8))), (1, (.own n54 0 0)), (1, (.fl (.slice none 0 0)))])) rfl (fun _ => (Put.cast (Put.fldS (Put.fld0 Put.here)) rfl)) (fun _ => rfl) (fun _ => rfl) fun n54 => ?_
    refine AW.nilOwnFld 3 1 (fun n55 => (.st [(256, (.ar 1 (t7.f0.toList.map eU8))), (1, (.own n54 0 ([] : List (List Int)).length)), (1, (.own n55 0 0))])) rfl (fun _ => (Put.cast (Put.fldS (Put.fldS (Put.fld0 Put.here))) rfl)) (fun _ => rfl) (fun _ => rfl) fun n55 => ?_
    refine AW.wH [1, 2, 4, 5, 24, 25] (H' := [(n2, (.mem (e30 t7))), (n3, (.mem (.st [(256, (.ar 1 ((Vector.replicate 256 (0 : Int)).toList.map eU8))), (1, (.fl (.slice none 0 0))), (1, (.fl (.slice none 0 0)))]))), (n9, (.mem (.st [(256, (.ar 1 (t7.f0.toList.map eU8))), (1, (.own n54 0 ([] : List (List Int)).length)), (1, (.own n55 0 ([] : List Int).length))]))), (n54, (.mem (.ar 1 (([] : List (List Int)).map e25)))), (n55, (.mem (.ar 1 (([] : List Int).map eI64))))]) (Sub.cons 2 rfl (Sub.cons 2 rfl (Sub.cons 2 rfl (Sub.cons 1 rfl (Sub.cons 0 rfl (Sub.nil _)))))) ?_
    refine AW.loop (fun kq ρ H => ∃ (n16 : Nat) (n18 : Nat) (x17 : (List (List Int))) (x19 : (List Int)) (x20 : Int), ρ = [(1, (.ptr n2 0)), (2, (.ptr n3 0)), (4, (.fz 1 (t8.map eI64))), (5, (.ptr n9 0)), (24, (eI64 (t7.f1.length : Int))), (25, (eI64 x20))] ∧ H = [(n2, (.mem (e30 t7))), (n3, (.mem (.st [(256, (.ar 1 ((Vector.replicate 256 (0 : Int)).toList.map eU8))), (1, (.fl (.slice none 0 0))), (1, (.fl (.slice none 0 0)))]))), (n9, (.mem (.st [(256, (.ar 1 (t7.f0.toList.map eU8))), (1, (.own n16 0 x17.length)), (1, (.own n18 0 x19.length))]))), (n16, (.mem (.ar 1 (x17.map e25)))), (n18, (.mem (.ar 1 (x19.map eI64))))] ∧ mini_Of_l5 k t7 t8 kq x17 x19 x20 = some r) k ⟨n54, n55, ([] : List (List Int)), ([] : List Int), (0 : Int), rfl, rfl, h⟩ ?_
    rintro kq22 _ _ ⟨n16, n18, x17, x19, x20, rfl, rfl, h⟩
    cases kq22 with
    | zero => rw [mini_Of_l5.eq_1] at h; cases h
    | succ kq22 =>
    rw [mini_Of_l5.eq_2] at h
    generalize hrec21 : mini_Of_l5 k t7 t8 kq22 = rec21 at h
    refine AW.sr ?_
    refine AO.c (x := eBool (decide (x20 < (t7.f1.length : Int)))) (Calm.int rfl rfl rfl rfl) ?_
    refine AO.nK [1, 2, 4, 5, 24, 25, 26] ?_
    refine AW.seq ?_
    rcases of_ite h with ⟨hc23, h⟩ | ⟨hc23, h⟩
    ·refine AW.condP _ rfl hc23 ?_
     refine AW.sK [1, 2, 4, 5, 24, 25] ?_
     refine AW.seq_mid (fun ρ H => ∃ (n24 : Nat) (n26 : Nat) (x25 : (List (List Int))) (x27 : (List Int)), ρ = [(1, (.ptr n2 0)), (2, (.ptr n3 0)), (4, (.fz 1 (t8.map eI64))), (5, (.ptr n9 0)), (24, (eI64 (t7.f1.length : Int))), (25, (eI64 x20))] ∧ H = [(n2, (.mem (e30 t7))), (n3, (.mem (.st [(256, (.ar 1 ((Vector.replicate 256 (0 : Int)).toList.map eU8))), (1, (.fl (.slice none 0 0))), (1, (.fl (.slice none 0 0)))]))), (n9, (.mem (.st [(256, (.ar 1 (t7.f0.toList.map eU8))), (1, (.own n24 0 x25.length)), (1, (.own n26 0 x27.length))]))), (n24, (.mem (.ar 1 (x25.map e25)))), (n26, (.mem (.ar 1 (x27.map eI64))))] ∧ mini_Of_c1 k rec21 x20 x25 x27 = some r) ?_ ?_
     ·refine AW.block ?_
      refine AW.sr ?_
      refine AO.c (Calm.move rfl rfl) ?_
      refine AO.c (Calm.assign rfl rfl) ?_
      refine AO.nK [1, 2, 4, 5, 6, 24, 25] ?_
      refine AW.seq ?_
      refine AW.seq ?_
      refine AW.regQ (by rfl) (by decide +kernel) ?_
      refine AQ.c (Calm.move rfl rfl) ?_
      refine AQ.c (Calm.move rfl rfl) ?_
      obtain ⟨hg28, h⟩ := of_guard h
      refine AQ.c (Calm.idxL (f := eI64) rfl rfl rfl hg28 Try.underlying25 sz3) ?_
      refine AQ.c (Calm.loadRp rfl rfl ag3 sz3) ?_
      refine AQ.c (x := .ptr n9 256) (Calm.fldPtr rfl rfl Try.underlying30 rfl sz28 _ rfl) ?_
      refine AQ.c (Calm.load 2 rfl rfl rfl (At.cast (At.fldS (At.fld0 At.here)) rfl) ag28 sz28) ?_
      refine AQ.c (Calm.lenOwn rfl rfl Try.underlying28) ?_
      refine AQ.c (x := eBool (decide ((lget t8 x20) ≠ (x17.length : Int)))) (Calm.int rfl rfl rfl rfl) ?_
      refine AQ.nK [1, 2, 4, 5, 6, 24, 25, 35] ?_
      rcases of_ite h with ⟨hc29, h⟩ | ⟨hc29, h⟩
      ·refine AW.condP _ rfl hc29 ?_
       refine AW.eK [1, 2, 4, 5, 24, 25] ?_
       exact ⟨n16, n18, x17, x19, rfl, rfl, h⟩
      ·refine AW.condN _ rfl hc29 ?_
       refine AW.sK [1, 2, 4, 5, 6, 24, 25] ?_
       refine AW.sr ?_
       refine AO.c (Calm.assign rfl rfl) ?_
       refine AO.nK [1, 2, 4, 5, 6, 7, 24, 25] ?_
       refine AW.seq_mid (fun ρ H => ∃ (n30 : Nat) (x31 : (List Int)), ρ = [(1, (.ptr n2 0)), (2, (.ptr n3 0)), (4, (.fz 1 (t8.map eI64))), (5, (.ptr n9 0)), (6, (eI64 x20)), (7, (.own n30 0 x31.length)), (24, (eI64 (t7.f1.length : Int))), (25, (eI64 x20))] ∧ H = [(n2, (.mem (e30 t7))), (n3, (.mem (.st [(256, (.ar 1 ((Vector.replicate 256 (0 : Int)).toList.map eU8))), (1, (.fl (.slice none 0 0))), (1, (.fl (.slice none 0 0)))]))), (n9, (.mem (.st [(256, (.ar 1 (t7.f0.toList.map eU8))), (1, (.own n16 0 x17.length)), (1, (.own n18 0 x19.length))]))), (n16, (.mem (.ar 1 (x17.map e25)))), (n18, (.mem (.ar 1 (x19.map eI64)))), (n30, (.mem (.ar 1 (x31.map eI64))))] ∧ mini_Of_c2 k rec21 t7 x17 x19 x20 x31 = some r) ?_ ?_
       ·refine AW.sr ?_
        refine AO.c (x := .ptr n2 256) (Calm.fldPtr rfl rfl Try.underlying30 rfl sz28 _ rfl) ?_
        refine AO.c (Calm.load 0 rfl rfl rfl (At.cast (At.fldS (At.fld0 At.here)) rfl) ag28 sz28) ?_
        refine AO.c (Calm.move rfl rfl) ?_
        obtain ⟨hg39, h⟩ := of_guard h
        refine AO.c (Calm.idxL (f := e25) rfl rfl rfl hg39 Try.underlying28 sz25) ?_
        refine AO.c (Calm.loadRp rfl rfl ag25 sz25) ?_
        refine AO.c (Calm.lenL rfl rfl Try.underlying25) ?_
        refine AO.c (Calm.move rfl rfl) ?_
        refine AO.nK [1, 2, 4, 5, 6, 7, 24, 25, 40, 41, 42] ?_
        refine AW.block ?_
        refine AW.nilOwn 7 1 rfl fun n53 => ?_
        refine AW.wH [1, 2, 4, 5, 6, 7, 24, 25, 40, 41, 42] (H' := [(n2, (.mem (e30 t7))), (n3, (.mem (.st [(256, (.ar 1 ((Vector.replicate 256 (0 : Int)).toList.map eU8))), (1, (.fl (.slice none 0 0))), (1, (.fl (.slice none 0 0)))]))), (n9, (.mem (.st [(256, (.ar 1 (t7.f0.toList.map eU8))), (1, (.own n16 0 x17.length)), (1, (.own n18 0 x19.length))]))), (n16, (.mem (.ar 1 (x17.map e25)))), (n18, (.mem (.ar 1 (x19.map eI64)))), (n53, (.mem (.ar 1 (([] : List Int).map eI64))))]) (Sub.cons 1 rfl (Sub.cons 1 rfl (Sub.cons 1 rfl (Sub.cons 1 rfl (Sub.cons 1 rfl (Sub.cons 0 rfl (Sub.nil _))))))) ?_
        refine AW.loop (fun kq ρ H => ∃ (n40 : Nat) (x41 : (List Int)) (x42 : Int), ρ = [(1, (.ptr n2 0)), (2, (.ptr n3 0)), (4, (.fz 1 (t8.map eI64))), (5, (.ptr n9 0)), (6, (eI64 x20)), (7, (.own n40 0 x41.length)), (24, (eI64 (t7.f1.length : Int))), (25, (eI64 x20)), (40, (.fz 1 ((lget t7.f1 x20).map eI64))), (41, (eI64 ((lget t7.f1 x20).length : Int))), (42, (eI64 x42))] ∧ H = [(n2, (.mem (e30 t7))), (n3, (.mem (.st [(256, (.ar 1 ((Vector.replicate 256 (0 : Int)).toList.map eU8))), (1, (.fl (.slice none 0 0))), (1, (.fl (.slice none 0 0)))]))), (n9, (.mem (.st [(256, (.ar 1 (t7.f0.toList.map eU8))), (1, (.own n16 0 x17.length)), (1, (.own n18 0 x19.length))]))), (n16, (.mem (.ar 1 (x17.map e25)))), (n18, (.mem (.ar 1 (x19.map eI64)))), (n40, (.mem (.ar 1 (x41.map eI64))))] ∧ mini_Of_l4 k rec21 t7 t8 x17 x19 x20 kq x41 x42 = some r) k ⟨n53, ([] : List Int), (0 : Int), rfl, rfl, h⟩ ?_
        rintro kq44 _ _ ⟨n40, x41, x42, rfl, rfl, h⟩
        cases kq44 with
        | zero => rw [mini_Of_l4.eq_1] at h; cases h
        | succ kq44 =>
        rw [mini_Of_l4.eq_2] at h
        generalize hrec43 : mini_Of_l4 k rec21 t7 t8 x17 x19 x20 kq44 = rec43 at h
        refine AW.sr ?_
        refine AO.c (x := eBool (decide (x42 < ((lget t7.f1 x20).length : Int)))) (Calm.int rfl rfl rfl rfl) ?_
        refine AO.nK [1, 2, 4, 5, 6, 7, 24, 25, 40, 41, 42, 43] ?_
        refine AW.seq ?_
        rcases of_ite h with ⟨hc45, h⟩ | ⟨hc45, h⟩
        ·refine AW.condP _ rfl hc45 ?_
         refine AW.sK [1, 2, 4, 5, 6, 7, 24, 25, 40, 41, 42] ?_
         refine AW.seq ?_
         refine AW.block ?_
         refine AW.sr ?_
         obtain ⟨hg46, h⟩ := of_guard h
         refine AO.c (Calm.idxL (f := eI64) rfl rfl rfl hg46 Try.underlying25 sz3) ?_
         refine AO.c (Calm.loadRp rfl rfl ag3 sz3) ?_
         refine AO.c (Calm.assign rfl rfl) ?_
         refine AO.nK [1, 2, 4, 5, 6, 7, 9, 24, 25, 40, 41, 42] ?_
         refine AW.seq_mid (fun ρ H => ∃ (x47 : Int), ρ = [(1, (.ptr n2 0)), (2, (.ptr n3 0)), (4, (.fz 1 (t8.map eI64))), (5, (.ptr n9 0)), (6, (eI64 x20)), (7, (.own n40 0 x41.length)), (9, (eI64 x47)), (24, (eI64 (t7.f1.length : Int))), (25, (eI64 x20)), (40, (.fz 1 ((lget t7.f1 x20).map eI64))), (41, (eI64 ((lget t7.f1 x20).length : Int))), (42, (eI64 x42))] ∧ H = [(n2, (.mem (e30 t7))), (n3, (.mem (.st [(256, (.ar 1 ((Vector.replicate 256 (0 : Int)).toList.map eU8))), (1, (.fl (.slice none 0 0))), (1, (.fl (.slice none 0 0)))]))), (n9, (.mem (.st [(256, (.ar 1 (t7.f0.toList.map eU8))), (1, (.own n16 0 x17.length)), (1, (.own n18 0 x19.length))]))), (n16, (.mem (.ar 1 (x17.map e25)))), (n18, (.mem (.ar 1 (x19.map eI64)))), (n40, (.mem (.ar 1 (x41.map eI64))))] ∧ mini_Of_c3 k rec43 x41 x42 x47 = some r) ?_ ?_
         ·refine AW.sr ?_
          refine AO.c (Calm.move rfl rfl) ?_
          refine AO.c (x := eBool (decide ((0 : Int) ≤ (lget (lget t7.f1 x20) x42)))) (Calm.int rfl rfl rfl rfl) ?_
          refine AO.nK [1, 2, 4, 5, 6, 7, 9, 24, 25, 40, 41, 42, 47] ?_
          rcases of_ite h with ⟨hc51, h⟩ | ⟨hc51, h⟩
          ·refine AW.condP _ rfl hc51 ?_
           refine AW.reg ?_
           refine AO.c (Calm.move rfl rfl) ?_
           refine AO.c (Calm.move rfl rfl) ?_
           obtain ⟨hg52, h⟩ := of_guard h
           refine AO.c (Calm.idxL (f := eI64) rfl rfl rfl hg52 Try.underlying25 sz3) ?_
           refine AO.c (Calm.loadRp rfl rfl ag3 sz3) ?_
           refine AO.c (Calm.assign rfl rfl) ?_
           refine AO.nK [1, 2, 4, 5, 6, 7, 9, 24, 25, 40, 41, 42] ?_
           exact ⟨(lget t8 (lget (lget t7.f1 x20) x42)), rfl, rfl, h⟩
          ·refine AW.condN _ rfl hc51 ?_
           refine AW.sK [1, 2, 4, 5, 6, 7, 9, 24, 25, 40, 41, 42] ?_
           exact ⟨(lget (lget t7.f1 x20) x42), rfl, rfl, h⟩
         ·rintro _ _ ⟨x47, rfl, rfl, h⟩
          rw [mini_Of_c3.eq_1] at h
          refine AW.reg ?_
          refine AO.c (Calm.move rfl rfl) ?_
          refine AO.c (Calm.move rfl rfl) ?_
          refine AO.lit (Z := (eI64 (0 : Int))) (xs := (([x47] : List Int).map eI64)) (qs := [(0, (eI64 x47))]) rfl 54 rfl (by decide) rfl ⟨rfl, rfl, rfl, trivial⟩ Try.underlying25 sz3 zr3 lay3 rfl (by decide) (litOK (z := 1) [(eI64 x47)] rfl ⟨⟨rfl, rfl⟩, trivial⟩) rfl fun n48 => ?_
          obtain ⟨hg50, h⟩ := of_guard h
          refine AO.appendL (l := x41) (m := ([x47] : List Int)) 6 55 rfl (by decide) rfl rfl rfl rfl rfl (Src.ownL (f := eI64) (l := ([x47] : List Int)) 0 rfl) Try.underlying25 Try.underlying25 sz3 by3 zr3 rfl hg50 (by decide) fun n49 => ?_
          refine AO.c (Calm.assign rfl rfl) ?_
          refine AO.nH [1, 2, 4, 5, 6, 7, 24, 25, 40, 41, 42] (H' := [(n2, (.mem (e30 t7))), (n3, (.mem (.st [(256, (.ar 1 ((Vector.replicate 256 (0 : Int)).toList.map eU8))), (1, (.fl (.slice none 0 0))), (1, (.fl (.slice none 0 0)))]))), (n9, (.mem (.st [(256, (.ar 1 (t7.f0.toList.map eU8))), (1, (.own n16 0 x17.length)), (1, (.own n18 0 x19.length))]))), (n16, (.mem (.ar 1 (x17.map e25)))), (n18, (.mem (.ar 1 (x19.map eI64)))), (n49, (.mem (.ar 1 ((x41 ++ ([x47] : List Int)).map eI64))))]) (Sub.cons 1 rfl (Sub.cons 1 rfl (Sub.cons 1 rfl (Sub.cons 1 rfl (Sub.cons 1 rfl (Sub.cons 1 rfl (Sub.nil _))))))) ?_
          refine AW.reg ?_
          refine AO.c (x := eI64 (w64 (x42 + (1 : Int)))) (Calm.int rfl rfl rfl rfl) ?_
          refine AO.c (Calm.move rfl rfl) ?_
          refine AO.nK [1, 2, 4, 5, 6, 7, 24, 25, 40, 41, 42] ?_
          exact ⟨kq44, Nat.lt_succ_self _, n49, (x41 ++ ([x47] : List Int)), (w64 (x42 + (1 : Int))), rfl, rfl, by rw [hrec43]; exact h⟩
        ·refine AW.condN _ rfl hc45 ?_
         refine AW.eK [1, 2, 4, 5, 6, 7, 24, 25] ?_
         exact ⟨n40, x41, rfl, rfl, h⟩
       ·rintro _ _ ⟨n30, x31, rfl, rfl, h⟩
        rw [mini_Of_c2.eq_1] at h
        refine AW.sr ?_
        refine AO.c (x := .ptr n9 256) (Calm.fldPtr rfl rfl Try.underlying30 rfl sz28 _ rfl) ?_
        refine AO.c (Calm.load 2 rfl rfl rfl (At.cast (At.fldS (At.fld0 At.here)) rfl) ag28 sz28) ?_
        refine AO.c (Calm.move rfl rfl) ?_
        refine AO.freezeS 5 [(7, (.fz 1 (x31.map eI64))), (59, (.fz 1 (x31.map eI64)))] rfl ⟨fz_all rfl, fz_all rfl, trivial⟩ ?_
        refine AO.lit (Z := (.fl (.slice none 0 0))) (xs := (([x31] : List (List Int)).map e25)) (qs := [(0, (.fz 1 (x31.map eI64)))]) rfl 60 rfl (by decide) rfl ⟨rfl, rfl, rfl, trivial⟩ Try.underlying28 sz25 zr25 lay25 rfl (by decide) (litOK (z := 1) [(.fz 1 (x31.map eI64))] rfl ⟨⟨rfl, rfl⟩, trivial⟩) rfl fun n32 => ?_
        obtain ⟨hg34, h⟩ := of_guard h
        refine AO.appendL (l := x17) (m := ([x31] : List (List Int))) 4 61 rfl (by decide) rfl rfl rfl rfl rfl (Src.ownL (f := e25) (l := ([x31] : List (List Int))) 0 rfl) Try.underlying28 Try.underlying28 sz25 by25 zr25 rfl hg34 (by decide) fun n33 => ?_
        refine AO.c (x := .ptr n9 256) (Calm.fldPtr rfl rfl Try.underlying30 rfl sz28 _ rfl) ?_
        refine AO.store (X' := (.st [(256, (.ar 1 (t7.f0.toList.map eU8))), (1, (.own n33 0 (x17 ++ ([x31] : List (List Int))).length)), (1, (.own n18 0 x19.length))])) 3 rfl rfl rfl rfl rfl rfl (Put.cast (Put.fldS (Put.fld0 Put.here)) rfl) rfl rfl sz28 rfl ?_
        refine AO.nH [1, 2, 4, 5, 6, 24, 25] (H' := [(n2, (.mem (e30 t7))), (n3, (.mem (.st [(256, (.ar 1 ((Vector.replicate 256 (0 : Int)).toList.map eU8))), (1, (.fl (.slice none 0 0))), (1, (.fl (.slice none 0 0)))]))), (n9, (.mem (.st [(256, (.ar 1 (t7.f0.toList.map eU8))), (1, (.own n33 0 (x17 ++ ([x31] : List (List Int))).length)), (1, (.own n18 0 x19.length))]))), (n33, (.mem (.ar 1 ((x17 ++ ([x31] : List (List Int))).map e25)))), (n18, (.mem (.ar 1 (x19.map eI64))))]) (Sub.cons 1 rfl (Sub.cons 1 rfl (Sub.cons 1 rfl (Sub.cons 1 rfl (Sub.cons 1 rfl (Sub.nil _)))))) ?_
        obtain ⟨hg35, h⟩ := of_guard h
        obtain ⟨hg38, h⟩ := of_guard h
        refine AW.regEff (by rfl) (by decide +kernel) (fun (σ : Nat → Nat) => ([(.ptr n9 257), (.own n18 0 x19.length), (.ptr n2 257), (.fz 1 (t7.f2.map eI64)), (eI64 x20), (.rp (eI64 (lget t7.f2 x20))), (eI64 (lget t7.f2 x20)), (.fz 1 (([(lget t7.f2 x20)] : List Int).map eI64)), (.own (σ 8) 0 (x19 ++ ([(lget t7.f2 x20)] : List Int)).length), (.ptr n9 257), (.fl undef)] : List AV)) (fun (L : Nat → Bool) (σ : Nat → Nat) => ((n2, (.mem (e30 t7))) :: (n3, (.mem (.st [(256, (.ar 1 ((Vector.replicate 256 (0 : Int)).toList.map eU8))), (1, (.fl (.slice none 0 0))), (1, (.fl (.slice none 0 0)))]))) :: (n33, (.mem (.ar 1 ((x17 ++ ([x31] : List (List Int))).map e25)))) :: (bif L 8 then (bif L 10 then ((n9, (.mem (.st [(256, (.ar 1 (t7.f0.toList.map eU8))), (1, (.own n33 0 (x17 ++ ([x31] : List (List Int))).length)), (1, (.own (σ 8) 0 (x19 ++ ([(lget t7.f2 x20)] : List Int)).length))]))) :: ((σ 8), (.mem (.ar 1 ((x19 ++ ([(lget t7.f2 x20)] : List Int)).map eI64)))) :: []) else ((n9, (.mem (.st [(256, (.ar 1 (t7.f0.toList.map eU8))), (1, (.own n33 0 (x17 ++ ([x31] : List (List Int))).length)), (1, (.own n18 0 x19.length))]))) :: ((σ 8), (.mem (.ar 1 ((x19 ++ ([(lget t7.f2 x20)] : List Int)).map eI64)))) :: [])) else ((n9, (.mem (.st [(256, (.ar 1 (t7.f0.toList.map eU8))), (1, (.own n33 0 (x17 ++ ([x31] : List (List Int))).length)), (1, (.own n18 0 x19.length))]))) :: (n18, (.mem (.ar 1 (x19.map eI64)))) :: [])) : Heap)) [(1, (.ptr n2 0)), (2, (.ptr n3 0)), (4, (.fz 1 (t8.map eI64))), (5, (.ptr n9 0)), (6, (eI64 x20)), (24, (eI64 (t7.f1.length : Int))), (25, (eI64 x20))] ⟨rfl, rfl, rfl, rfl, rfl, rfl, rfl, trivial⟩ (fun _ => rfl) (fun σ => (Sub.cons 0 rfl (Sub.cons 0 rfl (Sub.cons 1 rfl (Sub.cons 0 rfl (Sub.cons 0 rfl (Sub.refl _))))))) ⟨?_, ?_, ?_, ?_, ?_, ?_, ?_, ?_, ?_, ?_, ?_, trivial⟩ (fun σ => [(1, (.ptr n2 0)), (2, (.ptr n3 0)), (4, (.fz 1 (t8.map eI64))), (5, (.ptr n9 0)), (24, (eI64 (t7.f1.length : Int))), (25, (eI64 x20))]) (fun σ => ((n2, (.mem (e30 t7))) :: (n3, (.mem (.st [(256, (.ar 1 ((Vector.replicate 256 (0 : Int)).toList.map eU8))), (1, (.fl (.slice none 0 0))), (1, (.fl (.slice none 0 0)))]))) :: (n33, (.mem (.ar 1 ((x17 ++ ([x31] : List (List Int))).map e25)))) :: (n9, (.mem (.st [(256, (.ar 1 (t7.f0.toList.map eU8))), (1, (.own n33 0 (x17 ++ ([x31] : List (List Int))).length)), (1, (.own (σ 8) 0 (x19 ++ ([(lget t7.f2 x20)] : List Int)).length))]))) :: ((σ 8), (.mem (.ar 1 ((x19 ++ ([(lget t7.f2 x20)] : List Int)).map eI64)))) :: [])) (fun σ => ⟨rfl, rfl, rfl, rfl, rfl, rfl, trivial⟩) (fun σ => Sub.refl _) (fun σ => ?_)
        ·refine StepE.calm (fun _ _ => rfl) fun L σ hc hi hd => ?_
         have m1 : L 1 = false := hc.neg (i := 0) (j := 1) rfl (by rfl) hi
         have m8 : L 8 = false := hc.neg (i := 1) (j := 8) rfl (by rfl) m1
         have m10 : L 10 = false := hc.neg (i := 0) (j := 10) rfl (by rfl) hi
         refine AO.heq (H' := ((n2, (.mem (e30 t7))) :: (n3, (.mem (.st [(256, (.ar 1 ((Vector.replicate 256 (0 : Int)).toList.map eU8))), (1, (.fl (.slice none 0 0))), (1, (.fl (.slice none 0 0)))]))) :: (n33, (.mem (.ar 1 ((x17 ++ ([x31] : List (List Int))).map e25)))) :: (n9, (.mem (.st [(256, (.ar 1 (t7.f0.toList.map eU8))), (1, (.own n33 0 (x17 ++ ([x31] : List (List Int))).length)), (1, (.own n18 0 x19.length))]))) :: (n18, (.mem (.ar 1 (x19.map eI64)))) :: [])) (by first | rfl | simp only [m8, m10, cond_true, cond_false]) ?_
         refine AO.wK [5] ?_
         refine AO.c (x := .ptr n9 257) (Calm.fldPtr rfl rfl Try.underlying30 rfl sz25 _ rfl) ?_
         exact AO.nE (d := 63) rfl ⟨⟨63, _, rfl, rfl, rfl⟩, Sub.of_eq (by first | rfl | simp only [m8, m10, cond_true, cond_false]) (Sub.refl _)⟩
        ·refine StepE.calm (fun _ _ => rfl) fun L σ hc hi hd => ?_
         have m8 : L 8 = false := hc.neg (i := 1) (j := 8) rfl (by rfl) hi
         have m10 : L 10 = false := hc.neg (i := 1) (j := 10) rfl (by rfl) hi
         refine AO.heq (H' := ((n2, (.mem (e30 t7))) :: (n3, (.mem (.st [(256, (.ar 1 ((Vector.replicate 256 (0 : Int)).toList.map eU8))), (1, (.fl (.slice none 0 0))), (1, (.fl (.slice none 0 0)))]))) :: (n33, (.mem (.ar 1 ((x17 ++ ([x31] : List (List Int))).map e25)))) :: (n9, (.mem (.st [(256, (.ar 1 (t7.f0.toList.map eU8))), (1, (.own n33 0 (x17 ++ ([x31] : List (List Int))).length)), (1, (.own n18 0 x19.length))]))) :: (n18, (.mem (.ar 1 (x19.map eI64)))) :: [])) (by first | rfl | simp only [m8, m10, cond_true, cond_false]) ?_
         refine AO.wK [63] ?_
         refine AO.c (Calm.load 3 rfl rfl rfl (At.cast (At.fldS (At.fldS (At.fld0 At.here))) rfl) ag25 sz25) ?_
         exact AO.nE (d := 64) rfl ⟨⟨64, _, rfl, rfl, rfl⟩, Sub.of_eq (by first | rfl | simp only [m8, m10, cond_true, cond_false]) (Sub.refl _)⟩
        ·refine StepE.calm (fun _ _ => rfl) fun L σ hc hi hd => ?_
         refine AO.wK [1] ?_
         refine AO.c (x := .ptr n2 257) (Calm.fldPtr rfl rfl Try.underlying30 rfl sz25 _ rfl) ?_
         exact AO.nE (d := 65) rfl ⟨⟨65, _, rfl, rfl, rfl⟩, Sub.refl _⟩
        ·refine StepE.calm (fun _ _ => rfl) fun L σ hc hi hd => ?_
         refine AO.wK [65] ?_
         refine AO.c (Calm.load 0 rfl rfl rfl (At.cast (At.fldS (At.fldS (At.fld0 At.here))) rfl) ag25 sz25) ?_
         exact AO.nE (d := 66) rfl ⟨⟨66, _, rfl, rfl, rfl⟩, Sub.refl _⟩
        ·refine StepE.calm (fun _ _ => rfl) fun L σ hc hi hd => ?_
         refine AO.wK [6] ?_
         refine AO.c (Calm.move rfl rfl) ?_
         exact AO.nE (d := 67) rfl ⟨⟨67, _, rfl, rfl, rfl⟩, Sub.refl _⟩
        ·refine StepE.calm (fun _ _ => rfl) fun L σ hc hi hd => ?_
         refine AO.wK [66, 67] ?_
         refine AO.c (Calm.idxL (f := eI64) rfl rfl rfl hg35 Try.underlying25 sz3) ?_
         exact AO.nE (d := 68) rfl ⟨⟨68, _, rfl, rfl, rfl⟩, Sub.refl _⟩
        ·refine StepE.calm (fun _ _ => rfl) fun L σ hc hi hd => ?_
         refine AO.wK [68] ?_
         refine AO.c (Calm.loadRp rfl rfl ag3 sz3) ?_
         exact AO.nE (d := 69) rfl ⟨⟨69, _, rfl, rfl, rfl⟩, Sub.refl _⟩
        ·refine StepE.calm (fun _ _ => rfl) fun L σ hc hi hd => ?_
         refine AO.wK [69] ?_
         refine AO.lit (Z := (eI64 (0 : Int))) (xs := (([(lget t7.f2 x20)] : List Int).map eI64)) (qs := [(0, (eI64 (lget t7.f2 x20)))]) rfl 70 rfl (by decide) rfl ⟨rfl, rfl, rfl, trivial⟩ Try.underlying25 sz3 zr3 lay3 rfl (by decide) (litOK (z := 1) [(eI64 (lget t7.f2 x20))] rfl ⟨⟨rfl, rfl⟩, trivial⟩) rfl fun n36 => ?_
         refine AO.freezeS 0 [(70, (.fz 1 (([(lget t7.f2 x20)] : List Int).map eI64)))] rfl ⟨fz_all rfl, trivial⟩ ?_
         exact AO.nE (d := 70) rfl ⟨⟨70, _, rfl, rfl, rfl⟩, Sub.refl _⟩
        ·intro L σ hc hi hd
         have m10 : L 10 = false := hc.neg (i := 8) (j := 10) rfl (by rfl) hi
         refine AO.heq (H' := ((n2, (.mem (e30 t7))) :: (n3, (.mem (.st [(256, (.ar 1 ((Vector.replicate 256 (0 : Int)).toList.map eU8))), (1, (.fl (.slice none 0 0))), (1, (.fl (.slice none 0 0)))]))) :: (n33, (.mem (.ar 1 ((x17 ++ ([x31] : List (List Int))).map e25)))) :: (n9, (.mem (.st [(256, (.ar 1 (t7.f0.toList.map eU8))), (1, (.own n33 0 (x17 ++ ([x31] : List (List Int))).length)), (1, (.own n18 0 x19.length))]))) :: (n18, (.mem (.ar 1 (x19.map eI64)))) :: [])) (by first | rfl | simp only [hi, m10, cond_true, cond_false]) ?_
         refine AO.wK [64, 70] ?_
         refine AO.appendL (l := x19) (m := ([(lget t7.f2 x20)] : List Int)) 4 71 rfl (by decide) rfl rfl rfl rfl rfl Src.fz Try.underlying25 Try.underlying25 sz3 by3 zr3 rfl hg38 (by decide) fun n37 => ?_
         have a8 : addL L 8 8 = true := rfl
         have a10 : addL L 8 10 = false := m10
         have u8 : upd σ 8 n37 8 = n37 := rfl
         exact AO.nE (d := 71) rfl ⟨(upd σ 8 n37), (fun j hj => match j, hj with | 0, _ => rfl | 1, _ => rfl | 2, _ => rfl | 3, _ => rfl | 4, _ => rfl | 5, _ => rfl | 6, _ => rfl | 7, _ => rfl | 8, hj => Bool.noConfusion (hj.symm.trans hi) | 9, _ => rfl | 10, _ => rfl | _ + 11, _ => rfl), (fun d' hd' => ⟨_, rfl, by cases hd'; rfl⟩), Sub.of_eq (B := ((n2, (.mem (e30 t7))) :: (n3, (.mem (.st [(256, (.ar 1 ((Vector.replicate 256 (0 : Int)).toList.map eU8))), (1, (.fl (.slice none 0 0))), (1, (.fl (.slice none 0 0)))]))) :: (n33, (.mem (.ar 1 ((x17 ++ ([x31] : List (List Int))).map e25)))) :: (n9, (.mem (.st [(256, (.ar 1 (t7.f0.toList.map eU8))), (1, (.own n33 0 (x17 ++ ([x31] : List (List Int))).length)), (1, (.own n18 0 x19.length))]))) :: (n37, (.mem (.ar 1 ((x19 ++ ([(lget t7.f2 x20)] : List Int)).map eI64)))) :: [])) (by simp only [a8, a10, u8, cond_true, cond_false]) (Sub.refl _)⟩
        ·refine StepE.calm (fun _ _ => rfl) fun L σ hc hi hd => ?_
         have y8 : L 8 = true := on_get hd (i := 8) (by rfl)
         have m10 : L 10 = false := hc.neg (i := 9) (j := 10) rfl (by rfl) hi
         refine AO.heq (H' := ((n2, (.mem (e30 t7))) :: (n3, (.mem (.st [(256, (.ar 1 ((Vector.replicate 256 (0 : Int)).toList.map eU8))), (1, (.fl (.slice none 0 0))), (1, (.fl (.slice none 0 0)))]))) :: (n33, (.mem (.ar 1 ((x17 ++ ([x31] : List (List Int))).map e25)))) :: (n9, (.mem (.st [(256, (.ar 1 (t7.f0.toList.map eU8))), (1, (.own n33 0 (x17 ++ ([x31] : List (List Int))).length)), (1, (.own n18 0 x19.length))]))) :: ((σ 8), (.mem (.ar 1 ((x19 ++ ([(lget t7.f2 x20)] : List Int)).map eI64)))) :: [])) (by first | rfl | simp only [y8, m10, cond_true, cond_false]) ?_
         refine AO.wK [5] ?_
         refine AO.c (x := .ptr n9 257) (Calm.fldPtr rfl rfl Try.underlying30 rfl sz25 _ rfl) ?_
         exact AO.nE (d := 72) rfl ⟨⟨72, _, rfl, rfl, rfl⟩, Sub.of_eq (by first | rfl | simp only [y8, m10, cond_true, cond_false]) (Sub.refl _)⟩
        ·intro L σ hc hi hd
         have y8 : L 8 = true := on_get hd (i := 8) (by rfl)
         refine AO.heq (H' := ((n2, (.mem (e30 t7))) :: (n3, (.mem (.st [(256, (.ar 1 ((Vector.replicate 256 (0 : Int)).toList.map eU8))), (1, (.fl (.slice none 0 0))), (1, (.fl (.slice none 0 0)))]))) :: (n33, (.mem (.ar 1 ((x17 ++ ([x31] : List (List Int))).map e25)))) :: (n9, (.mem (.st [(256, (.ar 1 (t7.f0.toList.map eU8))), (1, (.own n33 0 (x17 ++ ([x31] : List (List Int))).length)), (1, (.own n18 0 x19.length))]))) :: ((σ 8), (.mem (.ar 1 ((x19 ++ ([(lget t7.f2 x20)] : List Int)).map eI64)))) :: [])) (by first | rfl | simp only [hi, y8, cond_true, cond_false]) ?_
         refine AO.wK [71, 72] ?_
         refine AO.store (X' := (.st [(256, (.ar 1 (t7.f0.toList.map eU8))), (1, (.own n33 0 (x17 ++ ([x31] : List (List Int))).length)), (1, (.own (σ 8) 0 (x19 ++ ([(lget t7.f2 x20)] : List Int)).length))])) 3 rfl rfl rfl rfl rfl rfl (Put.cast (Put.fldS (Put.fldS (Put.fld0 Put.here))) rfl) rfl rfl sz25 rfl ?_
         have a8 : addL L 10 8 = true := y8
         have a10 : addL L 10 10 = true := rfl
         exact AO.n0 ⟨σ, (fun _ _ => rfl), (fun d' hd' => by cases hd'), Sub.of_eq (B := ((n2, (.mem (e30 t7))) :: (n3, (.mem (.st [(256, (.ar 1 ((Vector.replicate 256 (0 : Int)).toList.map eU8))), (1, (.fl (.slice none 0 0))), (1, (.fl (.slice none 0 0)))]))) :: (n33, (.mem (.ar 1 ((x17 ++ ([x31] : List (List Int))).map e25)))) :: (n9, (.mem (.st [(256, (.ar 1 (t7.f0.toList.map eU8))), (1, (.own n33 0 (x17 ++ ([x31] : List (List Int))).length)), (1, (.own (σ 8) 0 (x19 ++ ([(lget t7.f2 x20)] : List Int)).length))]))) :: ((σ 8), (.mem (.ar 1 ((x19 ++ ([(lget t7.f2 x20)] : List Int)).map eI64)))) :: [])) (by simp only [a8, a10, cond_true, cond_false]) (Sub.refl _)⟩
        ·generalize σ 8 = n37
         refine AO.nH [1, 2, 4, 5, 24, 25] (H' := [(n2, (.mem (e30 t7))), (n3, (.mem (.st [(256, (.ar 1 ((Vector.replicate 256 (0 : Int)).toList.map eU8))), (1, (.fl (.slice none 0 0))), (1, (.fl (.slice none 0 0)))]))), (n9, (.mem (.st [(256, (.ar 1 (t7.f0.toList.map eU8))), (1, (.own n33 0 (x17 ++ ([x31] : List (List Int))).length)), (1, (.own n37 0 (x19 ++ ([(lget t7.f2 x20)] : List Int)).length))]))), (n33, (.mem (.ar 1 ((x17 ++ ([x31] : List (List Int))).map e25)))), (n37, (.mem (.ar 1 ((x19 ++ ([(lget t7.f2 x20)] : List Int)).map eI64))))]) (Sub.cons 0 rfl (Sub.cons 0 rfl (Sub.cons 1 rfl (Sub.cons 0 rfl (Sub.cons 0 rfl (Sub.nil _)))))) ?_
         exact ⟨n33, n37, (x17 ++ ([x31] : List (List Int))), (x19 ++ ([(lget t7.f2 x20)] : List Int)), rfl, rfl, h⟩
     ·rintro _ _ ⟨n24, n26, x25, x27, rfl, rfl, h⟩
      rw [mini_Of_c1.eq_1] at h
      refine AW.reg ?_
      refine AO.c (x := eI64 (w64 (x20 + (1 : Int)))) (Calm.int rfl rfl rfl rfl) ?_
      refine AO.c (Calm.move rfl rfl) ?_
      refine AO.nK [1, 2, 4, 5, 24, 25] ?_
      exact ⟨kq22, Nat.lt_succ_self _, n24, n26, x25, x27, (w64 (x20 + (1 : Int))), rfl, rfl, by rw [hrec21]; exact h⟩
    ·refine AW.condN _ rfl hc23 ?_
     refine AW.eH [2, 5] (H' := [(n3, (.mem (.st [(256, (.ar 1 ((Vector.replicate 256 (0 : Int)).toList.map eU8))), (1, (.fl (.slice none 0 0))), (1, (.fl (.slice none 0 0)))]))), (n9, (.mem (.st [(256, (.ar 1 (t7.f0.toList.map eU8))), (1, (.own n16 0 x17.length)), (1, (.own n18 0 x19.length))]))), (n16, (.mem (.ar 1 (x17.map e25)))), (n18, (.mem (.ar 1 (x19.map eI64))))]) (Sub.cons 1 rfl (Sub.cons 1 rfl (Sub.cons 1 rfl (Sub.cons 1 rfl (Sub.nil _))))) ?_
     exact ⟨n16, n18, x17, x19, rfl, rfl, h⟩
   ·rintro _ _ ⟨n10, n12, x11, x13, rfl, rfl, h⟩
    rw [mini_Of_c0.eq_1] at h
    refine AW.sr ?_
    refine AO.freezeFld (X' := (.st [(256, (.ar 1 (t7.f0.toList.map eU8))), (1, (.fz 1 (x11.map e25))), (1, (.own n12 0 x13.length))])) (els' := (x11.map e25)) 2 1 rfl rfl (Put.cast (Put.fldS (Put.fld0 Put.here)) rfl) (by simp) (by rw [own_all]) rfl rfl (by decide) ?_
    refine AO.freezeFld (X' := (.st [(256, (.ar 1 (t7.f0.toList.map eU8))), (1, (.fz 1 (x11.map e25))), (1, (.fz 1 (x13.map eI64)))])) (els' := (x13.map eI64)) 2 1 rfl rfl (Put.cast (Put.fldS (Put.fldS (Put.fld0 Put.here))) rfl) (by simp) (by rw [own_all]) rfl rfl (by decide) ?_
    refine AO.c (x := e30 (S30.mk t7.f0 x11 x13)) (Calm.load 1 rfl rfl rfl (At.cast At.here rfl) ag30 sz30) ?_
    obtain ⟨t14, et14, h⟩ := of_bind h
    refine AO.callS [(e30 (S30.mk t7.f0 x11 x13))] (e30 t14) 75 rfl (by decide) ok67 rfl rfl rfl ⟨rfl, rfl, trivial⟩ (mini_classes_spec et14) ?_
    obtain ⟨t15, et15, h⟩ := of_bind h
    refine AO.callS [(e30 t14)] (e30 t15) 76 rfl (by decide) ok65 rfl rfl rfl ⟨rfl, rfl, trivial⟩ (dfa_Order_spec et15) ?_
    refine AO.store (X' := (e30 t15)) 0 rfl rfl rfl rfl rfl rfl (Put.cast Put.here rfl) rfl rfl sz30 rfl ?_
    refine AO.c (Calm.assign rfl rfl) ?_
    refine AO.nH [2, 3] (H' := [(n3, (.mem (e30 t15)))]) (Sub.cons 0 rfl (Sub.nil _)) ?_
    refine AW.rK [2, 3] ?_
    have hr := Option.some.inj h
    subst hr
    exact ⟨[(e30 t15), (eI64 (0 : Int))], ⟨⟨_, 0, rfl, rfl, ag30, sz30⟩, rfl, rfl, trivial⟩, rfl⟩
end Go.Avl.T5
/- bosket/bosketlaw09.awake; printed by avmain.py. -/
namespace Go.Avl.T5
open Go Go.RowKit Go.Proofs Go.Avl
set_option linter.unusedVariables false
set_option maxRecDepth 100000
set_option maxHeartbeats 4000000
attribute [local irreducible] AW AO AQ Spec SpecH Calm

def bosketlaw09_awake (k : Nat) : Option Bool :=
  (mini_Of k (S30.mk (Vector.replicate 256 (0 : Int)) [[(0 : Int)]] [(-1 : Int)])).bind fun t4 =>
  Option.bind (α := Bool) (if t4.2 = (0 : Int) then if (t4.1.f1.length : Int) = (1 : Int) then if 0 ≤ (0 : Int) ∧ (0 : Int) < (t4.1.f1.length : Int) then if ((lget t4.1.f1 (0 : Int)).length : Int) = (1 : Int) then if 0 ≤ (0 : Int) ∧ (0 : Int) < (t4.1.f1.length : Int) then if 0 ≤ (0 : Int) ∧ (0 : Int) < ((lget t4.1.f1 (0 : Int)).length : Int) then some (decide ((lget (lget t4.1.f1 (0 : Int)) (0 : Int)) = (-1 : Int)))
  else none
  else none
  else some (false)
  else none
  else some (false)
  else some (false)) fun b6 =>
  some (b6)
theorem bosketlaw09_awake_spec {k : Nat}  {r : Bool} (h : bosketlaw09_awake k = some r) : Spec Try.prog 32 [] (eBool r) := by
  rw [bosketlaw09_awake.eq_1] at h
  refine Spec.intro (res := [.tmp 0]) Try.func32 rfl rfl rfl (Nat.le_of_ble_eq_true rfl) ?_
  refine AW.sr ?_
  refine AO.c (Calm.assign rfl rfl) ?_
  refine AO.nK [] ?_
  refine AW.sr ?_
  refine AO.lit (Z := (eI64 (0 : Int))) (xs := (([(0 : Int)] : List Int).map eI64)) (qs := [(0, (eI64 (0 : Int)))]) rfl 4 rfl (by decide) rfl ⟨rfl, rfl, rfl, trivial⟩ Try.underlying25 sz3 zr3 lay3 rfl (by decide) (litOK (z := 1) [(eI64 (0 : Int))] rfl ⟨⟨rfl, rfl⟩, trivial⟩) rfl fun n1 => ?_
  refine AO.freezeS 0 [(4, (.fz 1 (([(0 : Int)] : List Int).map eI64)))] rfl ⟨fz_all rfl, trivial⟩ ?_
  refine AO.lit (Z := (.fl (.slice none 0 0))) (xs := (([[(0 : Int)]] : List (List Int)).map e25)) (qs := [(0, (.fz 1 (([(0 : Int)] : List Int).map eI64)))]) rfl 5 rfl (by decide) rfl ⟨rfl, rfl, rfl, trivial⟩ Try.underlying28 sz25 zr25 lay25 rfl (by decide) (litOK (z := 1) [(.fz 1 (([(0 : Int)] : List Int).map eI64))] rfl ⟨⟨rfl, rfl⟩, trivial⟩) rfl fun n2 => ?_
  refine AO.lit (Z := (eI64 (0 : Int))) (xs := (([(-1 : Int)] : List Int).map eI64)) (qs := [(0, (eI64 (-1 : Int)))]) rfl 6 rfl (by decide) rfl ⟨rfl, rfl, rfl, trivial⟩ Try.underlying25 sz3 zr3 lay3 rfl (by decide) (litOK (z := 1) [(eI64 (-1 : Int))] rfl ⟨⟨rfl, rfl⟩, trivial⟩) rfl fun n3 => ?_
  refine AO.freezeS 1 [(5, (.fz 1 (([[(0 : Int)]] : List (List Int)).map e25)))] rfl ⟨fz_all rfl, trivial⟩ ?_
  refine AO.freezeS 0 [(6, (.fz 1 (([(-1 : Int)] : List Int).map eI64)))] rfl ⟨fz_all rfl, trivial⟩ ?_
  refine AO.c (x := .st [(256, (.ar 1 ((Vector.replicate 256 (0 : Int)).toList.map eU8))), (1, (.fz 1 (([[(0 : Int)]] : List (List Int)).map e25))), (1, (.fz 1 (([(-1 : Int)] : List Int).map eI64)))]) (Calm.build (qs := [(1, (.fz 1 (([[(0 : Int)]] : List (List Int)).map e25))), (2, (.fz 1 (([(-1 : Int)] : List Int).map eI64)))]) rfl ⟨rfl, rfl, rfl, rfl, rfl, rfl, trivial⟩ Try.underlying30 rfl zr30 lay30 (.cons rfl rfl rfl rfl (Put.cast (Put.fldS (Put.fld0 Put.here)) rfl) (.cons rfl rfl rfl rfl (Put.cast (Put.fldS (Put.fldS (Put.fld0 Put.here))) rfl) .nil)) rfl) ?_
  obtain ⟨t4, et4, h⟩ := of_bind h
  refine AO.callS [(e30 (S30.mk (Vector.replicate 256 (0 : Int)) [[(0 : Int)]] [(-1 : Int)]))] (.tup [(e30 t4.1), (eI64 t4.2)]) 8 rfl (by decide) ok33 rfl rfl rfl ⟨rfl, rfl, trivial⟩ (mini_Of_spec et4) ?_
  refine AO.c (Calm.move rfl rfl) ?_
  refine AO.c (Calm.extract rfl rfl rfl) ?_
  refine AO.c (Calm.extract rfl rfl rfl) ?_
  refine AO.alloc rfl 1 rfl (by decide) rfl zr30 lay30 fun n5 => ?_
  refine AO.store (X' := (e30 t4.1)) 0 rfl rfl rfl rfl rfl rfl (Put.cast Put.here rfl) rfl rfl sz30 rfl ?_
  refine AO.c (Calm.assign rfl rfl) ?_
  refine AO.nK [1, 2] ?_
  refine AW.seq ?_
  obtain ⟨b6, hq7, h⟩ := of_bind h
  refine AW.regM [(0, (eBool b6))] [] ?_ ?_
  ·refine AO.c (Calm.move rfl rfl) ?_
   refine AO.c (x := eBool (decide (t4.2 = (0 : Int)))) (Calm.int rfl rfl rfl rfl) ?_
   refine AO.c (Calm.move rfl rfl) ?_
   rcases of_ite hq7 with ⟨hc8, hq7⟩ | ⟨hc8, hq7⟩
   ·refine AO.cG (x := .ptr n5 256) rfl rfl (bD (decide_eq_true hc8)) (Calm.fldPtr rfl rfl Try.underlying30 rfl sz28 _ rfl) ?_
    refine AO.cG rfl rfl (bD (decide_eq_true hc8)) (Calm.load 0 rfl rfl rfl (At.cast (At.fldS (At.fld0 At.here)) rfl) ag28 sz28) ?_
    refine AO.cG rfl rfl (bD (decide_eq_true hc8)) (Calm.lenL rfl rfl Try.underlying28) ?_
    refine AO.cG (x := eBool (decide ((t4.1.f1.length : Int) = (1 : Int)))) rfl rfl (bD (decide_eq_true hc8)) (Calm.int rfl rfl rfl rfl) ?_
    refine AO.c (Calm.pickT rfl (bD (decide_eq_true hc8)) rfl) ?_
    refine AO.c (Calm.move rfl rfl) ?_
    rcases of_ite hq7 with ⟨hc9, hq7⟩ | ⟨hc9, hq7⟩
    ·refine AO.cG (x := .ptr n5 256) rfl rfl (bD (decide_eq_true hc9)) (Calm.fldPtr rfl rfl Try.underlying30 rfl sz28 _ rfl) ?_
     refine AO.cG rfl rfl (bD (decide_eq_true hc9)) (Calm.load 0 rfl rfl rfl (At.cast (At.fldS (At.fld0 At.here)) rfl) ag28 sz28) ?_
     obtain ⟨hg10, hq7⟩ := of_guard hq7
     refine AO.cG rfl rfl (bD (decide_eq_true hc9)) (Calm.idxL (f := e25) rfl rfl rfl hg10 Try.underlying28 sz25) ?_
     refine AO.cG rfl rfl (bD (decide_eq_true hc9)) (Calm.loadRp rfl rfl ag25 sz25) ?_
     refine AO.cG rfl rfl (bD (decide_eq_true hc9)) (Calm.lenL rfl rfl Try.underlying25) ?_
     refine AO.cG (x := eBool (decide (((lget t4.1.f1 (0 : Int)).length : Int) = (1 : Int)))) rfl rfl (bD (decide_eq_true hc9)) (Calm.int rfl rfl rfl rfl) ?_
     refine AO.c (Calm.pickT rfl (bD (decide_eq_true hc9)) rfl) ?_
     refine AO.c (Calm.move rfl rfl) ?_
     rcases of_ite hq7 with ⟨hc11, hq7⟩ | ⟨hc11, hq7⟩
     ·refine AO.cG (x := .ptr n5 256) rfl rfl (bD (decide_eq_true hc11)) (Calm.fldPtr rfl rfl Try.underlying30 rfl sz28 _ rfl) ?_
      refine AO.cG rfl rfl (bD (decide_eq_true hc11)) (Calm.load 0 rfl rfl rfl (At.cast (At.fldS (At.fld0 At.here)) rfl) ag28 sz28) ?_
      obtain ⟨hg12, hq7⟩ := of_guard hq7
      refine AO.cG rfl rfl (bD (decide_eq_true hc11)) (Calm.idxL (f := e25) rfl rfl rfl hg12 Try.underlying28 sz25) ?_
      refine AO.cG rfl rfl (bD (decide_eq_true hc11)) (Calm.loadRp rfl rfl ag25 sz25) ?_
      obtain ⟨hg13, hq7⟩ := of_guard hq7
      refine AO.cG rfl rfl (bD (decide_eq_true hc11)) (Calm.idxL (f := eI64) rfl rfl rfl hg13 Try.underlying25 sz3) ?_
      refine AO.cG rfl rfl (bD (decide_eq_true hc11)) (Calm.loadRp rfl rfl ag3 sz3) ?_
      refine AO.cG (x := eBool (decide ((lget (lget t4.1.f1 (0 : Int)) (0 : Int)) = (-1 : Int)))) rfl rfl (bD (decide_eq_true hc11)) (Calm.int rfl rfl rfl rfl) ?_
      refine AO.c (Calm.pickT rfl (bD (decide_eq_true hc11)) rfl) ?_
      refine AO.c (Calm.assign rfl rfl) ?_
      cases hq7
      refine AO.nilE ⟨rfl, rfl⟩ ?_ ?_
      · exact ⟨rfl, trivial⟩
      · exact (Sub.nil _)
     ·refine AO.sT rfl rfl (bD (decide_eq_false hc11)) ?_
      refine AO.sT rfl rfl (bD (decide_eq_false hc11)) ?_
      refine AO.sT rfl rfl (bD (decide_eq_false hc11)) ?_
      refine AO.sT rfl rfl (bD (decide_eq_false hc11)) ?_
      refine AO.sT rfl rfl (bD (decide_eq_false hc11)) ?_
      refine AO.sT rfl rfl (bD (decide_eq_false hc11)) ?_
      refine AO.sT rfl rfl (bD (decide_eq_false hc11)) ?_
      refine AO.c (Calm.pickF rfl (bD (decide_eq_false hc11)) rfl) ?_
      refine AO.c (Calm.assign rfl rfl) ?_
      cases hq7
      refine AO.nilE ⟨rfl, rfl⟩ ?_ ?_
      · exact ⟨rfl, trivial⟩
      · exact (Sub.nil _)
    ·refine AO.sT rfl rfl (bD (decide_eq_false hc9)) ?_
     refine AO.sT rfl rfl (bD (decide_eq_false hc9)) ?_
     refine AO.sT rfl rfl (bD (decide_eq_false hc9)) ?_
     refine AO.sT rfl rfl (bD (decide_eq_false hc9)) ?_
     refine AO.sT rfl rfl (bD (decide_eq_false hc9)) ?_
     refine AO.sT rfl rfl (bD (decide_eq_false hc9)) ?_
     refine AO.c (Calm.pickF rfl (bD (decide_eq_false hc9)) rfl) ?_
     refine AO.c (Calm.move rfl rfl) ?_
     refine AO.sT rfl rfl rfl ?_
     refine AO.sT rfl rfl rfl ?_
     refine AO.sT rfl rfl rfl ?_
     refine AO.sT rfl rfl rfl ?_
     refine AO.sT rfl rfl rfl ?_
     refine AO.sT rfl rfl rfl ?_
     refine AO.sT rfl rfl rfl ?_
     refine AO.c (Calm.pickF rfl rfl rfl) ?_
     refine AO.c (Calm.assign rfl rfl) ?_
     cases hq7
     refine AO.nilE ⟨rfl, rfl⟩ ?_ ?_
     · exact ⟨rfl, trivial⟩
     · exact (Sub.nil _)
   ·refine AO.sT rfl rfl (bD (decide_eq_false hc8)) ?_
    refine AO.sT rfl rfl (bD (decide_eq_false hc8)) ?_
    refine AO.sT rfl rfl (bD (decide_eq_false hc8)) ?_
    refine AO.sT rfl rfl (bD (decide_eq_false hc8)) ?_
    refine AO.c (Calm.pickF rfl (bD (decide_eq_false hc8)) rfl) ?_
    refine AO.c (Calm.move rfl rfl) ?_
    refine AO.sT rfl rfl rfl ?_
    refine AO.sT rfl rfl rfl ?_
    refine AO.sT rfl rfl rfl ?_
    refine AO.sT rfl rfl rfl ?_
    refine AO.sT rfl rfl rfl ?_
    refine AO.sT rfl rfl rfl ?_
    refine AO.c (Calm.pickF rfl rfl rfl) ?_
    refine AO.c (Calm.move rfl rfl) ?_
    refine AO.sT rfl rfl rfl ?_
    refine AO.sT rfl rfl rfl ?_
    refine AO.sT rfl rfl rfl ?_
    refine AO.sT rfl rfl rfl ?_
    refine AO.sT rfl rfl rfl ?_
    refine AO.sT rfl rfl rfl ?_
    refine AO.sT rfl rfl rfl ?_
    refine AO.c (Calm.pickF rfl rfl rfl) ?_
    refine AO.c (Calm.assign rfl rfl) ?_
    cases hq7
    refine AO.nilE ⟨rfl, rfl⟩ ?_ ?_
    · exact ⟨rfl, trivial⟩
    · exact (Sub.nil _)
  ·refine AW.rK [0] ?_
   have hr := Option.some.inj h
   subst hr
   exact ⟨[(eBool b6)], ⟨rfl, rfl, trivial⟩, rfl⟩
end Go.Avl.T5
/- bosket/bosketlaw08.Small; printed by avmain.py. -/
namespace Go.Avl.T5
open Go Go.RowKit Go.Proofs Go.Avl
set_option linter.unusedVariables false
set_option maxRecDepth 100000
set_option maxHeartbeats 4000000
attribute [local irreducible] AW AO AQ Spec SpecH Calm

def bosketlaw08_Small_c0 (k : Nat) : Option Bool :=
  some (true)
def bosketlaw08_Small_l1 (k : Nat) (p0 : S30) : Nat → Int → Option Bool
  | 0, _ => none
  | j + 1, x7 =>
    if x7 < (p0.f1.length : Int) then if 0 ≤ x7 ∧ x7 < (p0.f1.length : Int) then if (256 : Int) < ((lget p0.f1 x7).length : Int) then some (false)
    else (bosketlaw08_Small_l1 k p0 j) (w64 (x7 + (1 : Int)))
    else none
    else bosketlaw08_Small_c0 k
def bosketlaw08_Small (k : Nat) (p0 : S30) : Option Bool :=
  Option.bind (α := Bool) (if (20 : Int) < (p0.f1.length : Int) then some (true)
  else some (decide ((30 : Int) < (p0.f2.length : Int)))) fun b3 =>
  if b3 = true then some (false)
  else bosketlaw08_Small_l1 k p0 k (0 : Int)
theorem bosketlaw08_Small_spec {k : Nat} {p0 : S30} {r : Bool} (h : bosketlaw08_Small k p0 = some r) : Spec Try.prog 24 [(e30 p0)] (eBool r) := by
  rw [bosketlaw08_Small.eq_1] at h
  refine Spec.intro (res := [.tmp 2]) Try.func24 rfl rfl rfl (Nat.le_of_ble_eq_true rfl) ?_
  refine AW.sr ?_
  refine AO.box rfl 1 rfl (by decide) rfl rfl rfl fun n2 => ?_
  refine AO.c (Calm.assign rfl rfl) ?_
  refine AO.nK [1] ?_
  refine AW.seq ?_
  refine AW.seq ?_
  obtain ⟨b3, hq4, h⟩ := of_bind h
  refine AW.regM [(1, (.ptr n2 0)), (13, (eBool b3))] [(n2, (.mem (e30 p0)))] ?_ ?_
  ·refine AO.c (x := .ptr n2 256) (Calm.fldPtr rfl rfl Try.underlying30 rfl sz28 _ rfl) ?_
   refine AO.c (Calm.load 0 rfl rfl rfl (At.cast (At.fldS (At.fld0 At.here)) rfl) ag28 sz28) ?_
   refine AO.c (Calm.lenL rfl rfl Try.underlying28) ?_
   refine AO.c (x := eBool (decide ((20 : Int) < (p0.f1.length : Int)))) (Calm.int rfl rfl rfl rfl) ?_
   refine AO.c (Calm.move rfl rfl) ?_
   rcases of_ite hq4 with ⟨hc5, hq4⟩ | ⟨hc5, hq4⟩
   ·refine AO.sF rfl rfl (bD (decide_eq_true hc5)) ?_
    refine AO.sF rfl rfl (bD (decide_eq_true hc5)) ?_
    refine AO.sF rfl rfl (bD (decide_eq_true hc5)) ?_
    refine AO.sF rfl rfl (bD (decide_eq_true hc5)) ?_
    refine AO.c (Calm.pickT rfl (bD (decide_eq_true hc5)) rfl) ?_
    cases hq4
    refine AO.nilE ⟨rfl, rfl⟩ ?_ ?_
    · exact ⟨rfl, rfl, trivial⟩
    · exact (Sub.refl _)
   ·refine AO.cG (x := .ptr n2 257) rfl rfl (bD (decide_eq_false hc5)) (Calm.fldPtr rfl rfl Try.underlying30 rfl sz25 _ rfl) ?_
    refine AO.cG rfl rfl (bD (decide_eq_false hc5)) (Calm.load 0 rfl rfl rfl (At.cast (At.fldS (At.fldS (At.fld0 At.here))) rfl) ag25 sz25) ?_
    refine AO.cG rfl rfl (bD (decide_eq_false hc5)) (Calm.lenL rfl rfl Try.underlying25) ?_
    refine AO.cG (x := eBool (decide ((30 : Int) < (p0.f2.length : Int)))) rfl rfl (bD (decide_eq_false hc5)) (Calm.int rfl rfl rfl rfl) ?_
    refine AO.c (Calm.pickF rfl (bD (decide_eq_false hc5)) rfl) ?_
    cases hq4
    refine AO.nilE ⟨rfl, rfl⟩ ?_ ?_
    · exact ⟨rfl, rfl, trivial⟩
    · exact (Sub.refl _)
  ·rcases of_ite h with ⟨hc6, h⟩ | ⟨hc6, h⟩
   ·refine AW.condT' _ rfl hc6 ?_
    refine AW.sr ?_
    refine AO.c (Calm.assign rfl rfl) ?_
    refine AO.nH [2] (H' := []) (Sub.nil _) ?_
    refine AW.rK [2] ?_
    have hr := Option.some.inj h
    subst hr
    exact ⟨[(eBool false)], ⟨rfl, rfl, trivial⟩, rfl⟩
   ·refine AW.condF' _ rfl hc6 ?_
    refine AW.sK [1] ?_
    refine AW.seq_mid (fun ρ H => ρ = [] ∧ H = [] ∧ bosketlaw08_Small_c0 k = some r) ?_ ?_
    ·refine AW.sr ?_
     refine AO.c (Calm.assign rfl rfl) ?_
     refine AO.nK [1, 3] ?_
     refine AW.block ?_
     refine AW.wK [1, 3] ?_
     refine AW.loop (fun kq ρ H => ∃ (x7 : Int), ρ = [(1, (.ptr n2 0)), (3, (eI64 x7))] ∧ H = [(n2, (.mem (e30 p0)))] ∧ bosketlaw08_Small_l1 k p0 kq x7 = some r) k ⟨(0 : Int), rfl, rfl, h⟩ ?_
     rintro kq9 _ _ ⟨x7, rfl, rfl, h⟩
     cases kq9 with
     | zero => rw [bosketlaw08_Small_l1.eq_1] at h; cases h
     | succ kq9 =>
     rw [bosketlaw08_Small_l1.eq_2] at h
     generalize hrec8 : bosketlaw08_Small_l1 k p0 kq9 = rec8 at h
     refine AW.seq ?_
     refine AW.sr ?_
     refine AO.c (Calm.move rfl rfl) ?_
     refine AO.c (x := .ptr n2 256) (Calm.fldPtr rfl rfl Try.underlying30 rfl sz28 _ rfl) ?_
     refine AO.c (Calm.load 0 rfl rfl rfl (At.cast (At.fldS (At.fld0 At.here)) rfl) ag28 sz28) ?_
     refine AO.c (Calm.lenL rfl rfl Try.underlying28) ?_
     refine AO.c (x := eBool (decide (x7 < (p0.f1.length : Int)))) (Calm.int rfl rfl rfl rfl) ?_
     refine AO.nK [1, 3, 18] ?_
     rcases of_ite h with ⟨hc10, h⟩ | ⟨hc10, h⟩
     ·refine AW.condP _ rfl hc10 ?_
      refine AW.sK [1, 3] ?_
      refine AW.seq ?_
      refine AW.block ?_
      refine AW.sr ?_
      refine AO.c (x := .ptr n2 256) (Calm.fldPtr rfl rfl Try.underlying30 rfl sz28 _ rfl) ?_
      refine AO.c (Calm.load 0 rfl rfl rfl (At.cast (At.fldS (At.fld0 At.here)) rfl) ag28 sz28) ?_
      refine AO.c (Calm.move rfl rfl) ?_
      obtain ⟨hg11, h⟩ := of_guard h
      refine AO.c (Calm.idxL (f := e25) rfl rfl rfl hg11 Try.underlying28 sz25) ?_
      refine AO.c (Calm.loadRp rfl rfl ag25 sz25) ?_
      refine AO.c (Calm.lenL rfl rfl Try.underlying25) ?_
      refine AO.c (x := eBool (decide ((256 : Int) < ((lget p0.f1 x7).length : Int)))) (Calm.int rfl rfl rfl rfl) ?_
      refine AO.nK [1, 3, 27] ?_
      rcases of_ite h with ⟨hc12, h⟩ | ⟨hc12, h⟩
      ·refine AW.condP _ rfl hc12 ?_
       refine AW.sr ?_
       refine AO.c (Calm.assign rfl rfl) ?_
       refine AO.nH [2] (H' := []) (Sub.nil _) ?_
       refine AW.rK [2] ?_
       have hr := Option.some.inj h
       subst hr
       exact ⟨[(eBool false)], ⟨rfl, rfl, trivial⟩, rfl⟩
      ·refine AW.condN _ rfl hc12 ?_
       refine AW.sK [1, 3] ?_
       refine AW.reg ?_
       refine AO.c (Calm.move rfl rfl) ?_
       refine AO.c (x := eI64 (w64 (x7 + (1 : Int)))) (Calm.int rfl rfl rfl rfl) ?_
       refine AO.c (Calm.assign rfl rfl) ?_
       refine AO.nK [1, 3] ?_
       exact ⟨kq9, Nat.lt_succ_self _, (w64 (x7 + (1 : Int))), rfl, rfl, by rw [hrec8]; exact h⟩
     ·refine AW.condN _ rfl hc10 ?_
      refine AW.eH [] (H' := []) (Sub.nil _) ?_
      exact ⟨rfl, rfl, h⟩
    ·rintro _ _ ⟨rfl, rfl, h⟩
     rw [bosketlaw08_Small_c0.eq_1] at h
     refine AW.sr ?_
     refine AO.c (Calm.assign rfl rfl) ?_
     refine AO.nK [2] ?_
     refine AW.rK [2] ?_
     have hr := Option.some.inj h
     subst hr
     exact ⟨[(eBool true)], ⟨rfl, rfl, trivial⟩, rfl⟩
end Go.Avl.T5
/- bosket/bosketref08.classes; printed by avmain.py. -/
namespace Go.Avl.T5
open Go Go.RowKit Go.Proofs Go.Avl
set_option linter.unusedVariables false
set_option maxRecDepth 100000
set_option maxHeartbeats 4000000
attribute [local irreducible] AW AO AQ Spec SpecH Calm

def bosketref08_classes_c0 (k : Nat) (x3 : Int) : Option Int :=
  some (x3)
def bosketref08_classes_l1 (k : Nat) (p0 : S30) : Nat → Int → Int → Option Int
  | 0, _, _ => none
  | j + 1, x4, x5 =>
    if x5 < (256 : Int) then if 0 ≤ x5 ∧ x5 < (256 : Int) then (bosketref08_classes_l1 k p0 j) (max x4 (w64 ((w64 (vget p0.f0 x5)) + (1 : Int)))) (w64 (x5 + (1 : Int)))
    else none
    else bosketref08_classes_c0 k x4
def bosketref08_classes (k : Nat) (p0 : S30) : Option Int :=
  bosketref08_classes_l1 k p0 k (0 : Int) (0 : Int)
theorem bosketref08_classes_spec {k : Nat} {p0 : S30} {r : Int} (h : bosketref08_classes k p0 = some r) : Spec Try.prog 60 [(e30 p0)] (eI64 r) := by
  rw [bosketref08_classes.eq_1] at h
  refine Spec.intro (res := [.tmp 2]) Try.func60 rfl rfl rfl (Nat.le_of_ble_eq_true rfl) ?_
  refine AW.sr ?_
  refine AO.box rfl 1 rfl (by decide) rfl rfl rfl fun n2 => ?_
  refine AO.c (Calm.assign rfl rfl) ?_
  refine AO.nK [1] ?_
  refine AW.sr ?_
  refine AO.c (Calm.assign rfl rfl) ?_
  refine AO.nK [1, 3] ?_
  refine AW.seq_mid (fun ρ H => ∃ (x3 : Int), ρ = [(3, (eI64 x3))] ∧ H = [] ∧ bosketref08_classes_c0 k x3 = some r) ?_ ?_
  ·refine AW.sr ?_
   refine AO.c (Calm.assign rfl rfl) ?_
   refine AO.nK [1, 3, 4] ?_
   refine AW.block ?_
   refine AW.wK [1, 3, 4] ?_
   refine AW.loop (fun kq ρ H => ∃ (x4 : Int) (x5 : Int), ρ = [(1, (.ptr n2 0)), (3, (eI64 x4)), (4, (eI64 x5))] ∧ H = [(n2, (.mem (e30 p0)))] ∧ bosketref08_classes_l1 k p0 kq x4 x5 = some r) k ⟨(0 : Int), (0 : Int), rfl, rfl, h⟩ ?_
   rintro kq7 _ _ ⟨x4, x5, rfl, rfl, h⟩
   cases kq7 with
   | zero => rw [bosketref08_classes_l1.eq_1] at h; cases h
   | succ kq7 =>
   rw [bosketref08_classes_l1.eq_2] at h
   generalize hrec6 : bosketref08_classes_l1 k p0 kq7 = rec6 at h
   refine AW.seq ?_
   refine AW.sr ?_
   refine AO.c (Calm.move rfl rfl) ?_
   refine AO.c (x := eBool (decide (x5 < (256 : Int)))) (Calm.int rfl rfl rfl rfl) ?_
   refine AO.nK [1, 3, 4, 6] ?_
   rcases of_ite h with ⟨hc8, h⟩ | ⟨hc8, h⟩
   ·refine AW.condP _ rfl hc8 ?_
    refine AW.sK [1, 3, 4] ?_
    refine AW.seq ?_
    refine AW.block ?_
    refine AW.reg ?_
    refine AO.c (Calm.move rfl rfl) ?_
    refine AO.c (Calm.move rfl rfl) ?_
    refine AO.c (x := .ptr n2 0) (Calm.fldPtr rfl rfl Try.underlying30 rfl sz27 _ rfl) ?_
    obtain ⟨hg9, h⟩ := of_guard h
    refine AO.c (Calm.idxP rfl rfl rfl hg9 Try.underlying27 sz5) ?_
    refine AO.c (Calm.load 0 rfl rfl rfl (At.cast (At.fld0 (At.vidx x5 hg9.1 hg9.2 At.here)) (by omega)) ag5 sz5) ?_
    refine AO.c (x := eI64 (w64 (vget p0.f0 x5))) (Calm.conv rfl rfl Try.underlying5 Try.underlying3) ?_
    refine AO.c (x := eI64 (w64 ((w64 (vget p0.f0 x5)) + (1 : Int)))) (Calm.int rfl rfl rfl rfl) ?_
    refine AO.c (x := eI64 (max x4 (w64 ((w64 (vget p0.f0 x5)) + (1 : Int))))) (Calm.max2 rfl rfl rfl) ?_
    refine AO.c (Calm.assign rfl rfl) ?_
    refine AO.nK [1, 3, 4] ?_
    refine AW.reg ?_
    refine AO.c (Calm.move rfl rfl) ?_
    refine AO.c (x := eI64 (w64 (x5 + (1 : Int)))) (Calm.int rfl rfl rfl rfl) ?_
    refine AO.c (Calm.assign rfl rfl) ?_
    refine AO.nK [1, 3, 4] ?_
    exact ⟨kq7, Nat.lt_succ_self _, (max x4 (w64 ((w64 (vget p0.f0 x5)) + (1 : Int)))), (w64 (x5 + (1 : Int))), rfl, rfl, by rw [hrec6]; exact h⟩
   ·refine AW.condN _ rfl hc8 ?_
    refine AW.eH [3] (H' := []) (Sub.nil _) ?_
    exact ⟨x4, rfl, rfl, h⟩
  ·rintro _ _ ⟨x3, rfl, rfl, h⟩
   rw [bosketref08_classes_c0.eq_1] at h
   refine AW.sr ?_
   refine AO.c (Calm.move rfl rfl) ?_
   refine AO.c (Calm.assign rfl rfl) ?_
   refine AO.nK [2] ?_
   refine AW.rK [2] ?_
   have hr := Option.some.inj h
   subst hr
   exact ⟨[(eI64 x3)], ⟨rfl, rfl, trivial⟩, rfl⟩
end Go.Avl.T5
/- bosket/bosketref08.gapless; printed by avmain.py. -/
namespace Go.Avl.T5
open Go Go.RowKit Go.Proofs Go.Avl
set_option linter.unusedVariables false
set_option maxRecDepth 100000
set_option maxHeartbeats 4000000
attribute [local irreducible] AW AO AQ Spec SpecH Calm

def bosketref08_gapless_c0 (k : Nat) : Option Bool :=
  some (true)
def bosketref08_gapless_c1 (k : Nat) (rec4 : (Int → Option Bool)) (x3 : Int) : Option Bool :=
  rec4 (w64 (x3 + (1 : Int)))
def bosketref08_gapless_c2 (k : Nat) (rec4 : (Int → Option Bool)) (x3 : Int) (b8 : Bool) : Option Bool :=
  if (!b8) = true then some (false)
  else bosketref08_gapless_c1 k rec4 x3
def bosketref08_gapless_l3 (k : Nat) (rec4 : (Int → Option Bool)) (p0 : S30) (x3 : Int) : Nat → Bool → Int → Option Bool
  | 0, _, _ => none
  | j + 1, b10, x11 =>
    if x11 < (256 : Int) then Option.bind (α := Bool) (if b10 = true then some (true)
    else if 0 ≤ x11 ∧ x11 < (256 : Int) then some (decide ((w64 (vget p0.f0 x11)) = x3))
    else none) fun b15 =>
    (bosketref08_gapless_l3 k rec4 p0 x3 j) b15 (w64 (x11 + (1 : Int)))
    else bosketref08_gapless_c2 k rec4 x3 b10
def bosketref08_gapless_l4 (k : Nat) (p0 : S30) : Nat → Int → Option Bool
  | 0, _ => none
  | j + 1, x3 =>
    (bosketref08_classes k p0).bind fun t6 =>
    if x3 < t6 then bosketref08_gapless_l3 k (bosketref08_gapless_l4 k p0 j) p0 x3 k false (0 : Int)
    else bosketref08_gapless_c0 k
def bosketref08_gapless (k : Nat) (p0 : S30) : Option Bool :=
  bosketref08_gapless_l4 k p0 k (0 : Int)
theorem bosketref08_gapless_spec {k : Nat} {p0 : S30} {r : Bool} (h : bosketref08_gapless k p0 = some r) : Spec Try.prog 59 [(e30 p0)] (eBool r) := by
  rw [bosketref08_gapless.eq_1] at h
  refine Spec.intro (res := [.tmp 2]) Try.func59 rfl rfl rfl (Nat.le_of_ble_eq_true rfl) ?_
  refine AW.sr ?_
  refine AO.box rfl 1 rfl (by decide) rfl rfl rfl fun n2 => ?_
  refine AO.c (Calm.assign rfl rfl) ?_
  refine AO.nK [1] ?_
  refine AW.seq_mid (fun ρ H => ρ = [] ∧ H = [] ∧ bosketref08_gapless_c0 k = some r) ?_ ?_
  ·refine AW.sr ?_
   refine AO.c (Calm.assign rfl rfl) ?_
   refine AO.nK [1, 3] ?_
   refine AW.block ?_
   refine AW.wK [1, 3] ?_
   refine AW.loop (fun kq ρ H => ∃ (x3 : Int), ρ = [(1, (.ptr n2 0)), (3, (eI64 x3))] ∧ H = [(n2, (.mem (e30 p0)))] ∧ bosketref08_gapless_l4 k p0 kq x3 = some r) k ⟨(0 : Int), rfl, rfl, h⟩ ?_
   rintro kq5 _ _ ⟨x3, rfl, rfl, h⟩
   cases kq5 with
   | zero => rw [bosketref08_gapless_l4.eq_1] at h; cases h
   | succ kq5 =>
   rw [bosketref08_gapless_l4.eq_2] at h
   generalize hrec4 : bosketref08_gapless_l4 k p0 kq5 = rec4 at h
   refine AW.seq ?_
   refine AW.sr ?_
   refine AO.c (Calm.move rfl rfl) ?_
   refine AO.c (Calm.load 0 rfl rfl rfl (At.cast At.here rfl) ag30 sz30) ?_
   obtain ⟨t6, et6, h⟩ := of_bind h
   refine AO.callS [(e30 p0)] (eI64 t6) 8 rfl (by decide) ok60 rfl rfl rfl ⟨rfl, rfl, trivial⟩ (bosketref08_classes_spec et6) ?_
   refine AO.c (x := eBool (decide (x3 < t6))) (Calm.int rfl rfl rfl rfl) ?_
   refine AO.nK [1, 3, 9] ?_
   rcases of_ite h with ⟨hc7, h⟩ | ⟨hc7, h⟩
   ·refine AW.condP _ rfl hc7 ?_
    refine AW.sK [1, 3] ?_
    refine AW.seq_mid (fun ρ H => ρ = [(1, (.ptr n2 0)), (3, (eI64 x3))] ∧ H = [(n2, (.mem (e30 p0)))] ∧ bosketref08_gapless_c1 k rec4 x3 = some r) ?_ ?_
    ·refine AW.block ?_
     refine AW.sr ?_
     refine AO.c (Calm.assign rfl rfl) ?_
     refine AO.nK [1, 3, 4] ?_
     refine AW.seq_mid (fun ρ H => ∃ (b8 : Bool), ρ = [(1, (.ptr n2 0)), (3, (eI64 x3)), (4, (eBool b8))] ∧ H = [(n2, (.mem (e30 p0)))] ∧ bosketref08_gapless_c2 k rec4 x3 b8 = some r) ?_ ?_
     ·refine AW.sr ?_
      refine AO.c (Calm.assign rfl rfl) ?_
      refine AO.nK [1, 3, 4, 5] ?_
      refine AW.block ?_
      refine AW.wK [1, 3, 4, 5] ?_
      refine AW.loop (fun kq ρ H => ∃ (b10 : Bool) (x11 : Int), ρ = [(1, (.ptr n2 0)), (3, (eI64 x3)), (4, (eBool b10)), (5, (eI64 x11))] ∧ H = [(n2, (.mem (e30 p0)))] ∧ bosketref08_gapless_l3 k rec4 p0 x3 kq b10 x11 = some r) k ⟨false, (0 : Int), rfl, rfl, h⟩ ?_
      rintro kq13 _ _ ⟨b10, x11, rfl, rfl, h⟩
      cases kq13 with
      | zero => rw [bosketref08_gapless_l3.eq_1] at h; cases h
      | succ kq13 =>
      rw [bosketref08_gapless_l3.eq_2] at h
      generalize hrec12 : bosketref08_gapless_l3 k rec4 p0 x3 kq13 = rec12 at h
      refine AW.seq ?_
      refine AW.sr ?_
      refine AO.c (Calm.move rfl rfl) ?_
      refine AO.c (x := eBool (decide (x11 < (256 : Int)))) (Calm.int rfl rfl rfl rfl) ?_
      refine AO.nK [1, 3, 4, 5, 13] ?_
      rcases of_ite h with ⟨hc14, h⟩ | ⟨hc14, h⟩
      ·refine AW.condP _ rfl hc14 ?_
       refine AW.sK [1, 3, 4, 5] ?_
       refine AW.seq ?_
       refine AW.block ?_
       obtain ⟨b15, hq16, h⟩ := of_bind h
       refine AW.regM [(1, (.ptr n2 0)), (3, (eI64 x3)), (4, (eBool b15)), (5, (eI64 x11))] [(n2, (.mem (e30 p0)))] ?_ ?_
       ·refine AO.c (Calm.move rfl rfl) ?_
        refine AO.c (Calm.move rfl rfl) ?_
        rcases of_ite hq16 with ⟨hc17, hq16⟩ | ⟨hc17, hq16⟩
        ·refine AO.sF rfl rfl (bD hc17) ?_
         refine AO.sF rfl rfl (bD hc17) ?_
         refine AO.sF rfl rfl (bD hc17) ?_
         refine AO.sF rfl rfl (bD hc17) ?_
         refine AO.sF rfl rfl (bD hc17) ?_
         refine AO.sF rfl rfl (bD hc17) ?_
         refine AO.sF rfl rfl (bD hc17) ?_
         refine AO.c (Calm.pickT rfl (bD hc17) rfl) ?_
         refine AO.c (Calm.assign rfl rfl) ?_
         cases hq16
         refine AO.nilE ⟨rfl, rfl⟩ ?_ ?_
         · exact ⟨rfl, rfl, rfl, rfl, trivial⟩
         · exact (Sub.refl _)
        ·refine AO.cG rfl rfl (bD (eq_false_of_ne_true hc17)) (Calm.move rfl rfl) ?_
         refine AO.cG (x := .ptr n2 0) rfl rfl (bD (eq_false_of_ne_true hc17)) (Calm.fldPtr rfl rfl Try.underlying30 rfl sz27 _ rfl) ?_
         obtain ⟨hg18, hq16⟩ := of_guard hq16
         refine AO.cG rfl rfl (bD (eq_false_of_ne_true hc17)) (Calm.idxP rfl rfl rfl hg18 Try.underlying27 sz5) ?_
         refine AO.cG rfl rfl (bD (eq_false_of_ne_true hc17)) (Calm.load 0 rfl rfl rfl (At.cast (At.fld0 (At.vidx x11 hg18.1 hg18.2 At.here)) (by omega)) ag5 sz5) ?_
         refine AO.cG (x := eI64 (w64 (vget p0.f0 x11))) rfl rfl (bD (eq_false_of_ne_true hc17)) (Calm.conv rfl rfl Try.underlying5 Try.underlying3) ?_
         refine AO.cG rfl rfl (bD (eq_false_of_ne_true hc17)) (Calm.move rfl rfl) ?_
         refine AO.cG (x := eBool (decide ((w64 (vget p0.f0 x11)) = x3))) rfl rfl (bD (eq_false_of_ne_true hc17)) (Calm.int rfl rfl rfl rfl) ?_
         refine AO.c (Calm.pickF rfl (bD (eq_false_of_ne_true hc17)) rfl) ?_
         refine AO.c (Calm.assign rfl rfl) ?_
         cases hq16
         refine AO.nilE ⟨rfl, rfl⟩ ?_ ?_
         · exact ⟨rfl, rfl, rfl, rfl, trivial⟩
         · exact (Sub.refl _)
       ·refine AW.reg ?_
        refine AO.c (Calm.move rfl rfl) ?_
        refine AO.c (x := eI64 (w64 (x11 + (1 : Int)))) (Calm.int rfl rfl rfl rfl) ?_
        refine AO.c (Calm.assign rfl rfl) ?_
        refine AO.nK [1, 3, 4, 5] ?_
        exact ⟨kq13, Nat.lt_succ_self _, b15, (w64 (x11 + (1 : Int))), rfl, rfl, by rw [hrec12]; exact h⟩
      ·refine AW.condN _ rfl hc14 ?_
       refine AW.eK [1, 3, 4] ?_
       exact ⟨b10, rfl, rfl, h⟩
     ·rintro _ _ ⟨b8, rfl, rfl, h⟩
      rw [bosketref08_gapless_c2.eq_1] at h
      refine AW.sr ?_
      refine AO.c (Calm.move rfl rfl) ?_
      refine AO.c (Calm.not rfl rfl) ?_
      refine AO.nK [1, 3, 27] ?_
      rcases of_ite h with ⟨hc9, h⟩ | ⟨hc9, h⟩
      ·refine AW.condT' _ rfl hc9 ?_
       refine AW.sr ?_
       refine AO.c (Calm.assign rfl rfl) ?_
       refine AO.nH [2] (H' := []) (Sub.nil _) ?_
       refine AW.rK [2] ?_
       have hr := Option.some.inj h
       subst hr
       exact ⟨[(eBool false)], ⟨rfl, rfl, trivial⟩, rfl⟩
      ·refine AW.condF' _ rfl hc9 ?_
       refine AW.sK [1, 3] ?_
       exact ⟨rfl, rfl, h⟩
    ·rintro _ _ ⟨rfl, rfl, h⟩
     rw [bosketref08_gapless_c1.eq_1] at h
     refine AW.reg ?_
     refine AO.c (Calm.move rfl rfl) ?_
     refine AO.c (x := eI64 (w64 (x3 + (1 : Int)))) (Calm.int rfl rfl rfl rfl) ?_
     refine AO.c (Calm.assign rfl rfl) ?_
     refine AO.nK [1, 3] ?_
     exact ⟨kq5, Nat.lt_succ_self _, (w64 (x3 + (1 : Int))), rfl, rfl, by rw [hrec4]; exact h⟩
   ·refine AW.condN _ rfl hc7 ?_
    refine AW.eH [] (H' := []) (Sub.nil _) ?_
    exact ⟨rfl, rfl, h⟩
  ·rintro _ _ ⟨rfl, rfl, h⟩
   rw [bosketref08_gapless_c0.eq_1] at h
   refine AW.sr ?_
   refine AO.c (Calm.assign rfl rfl) ?_
   refine AO.nK [2] ?_
   refine AW.rK [2] ?_
   have hr := Option.some.inj h
   subst hr
   exact ⟨[(eBool true)], ⟨rfl, rfl, trivial⟩, rfl⟩
end Go.Avl.T5
