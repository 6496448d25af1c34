/- Parts: T7f81, T7f107, T7f82, T7f63, T7f55, T7f60. -/
import Derived.Test.YtpkgpmmcbpfenaaAF1
import Derived.Test.YtpkgpmmcbpfenaaAF7
import Derived.Test.YtpkgpmmcbpfenaaAF8
import Derived.Test.YtpkgpmmcbpfenaaAF2
import Derived.Test.YtpkgpmmcbpfenaaAF3
import Derived.Test.YtpkgpmmcbpfenaaAF6
/- bosket/mini.Blocks; printed by avmain.py. -/
namespace Go.Avl.T7
open Go Go.RowKit Go.Proofs Go.Avl
set_option linter.unusedVariables false
set_option maxRecDepth 100000
set_option maxHeartbeats 4000000
attribute [local irreducible] AW AO AQ Spec SpecH Calm

def F81_l0 (k : Nat) (p0 : S55) : Nat → (List Int) → Int → Option (List Int)
  | 0, _, _ => none
  | j + 1, x7, x8 =>
    (F105 k p0 x7).bind fun t11 =>
    if t11.2 = x8 then if 0 ≤ (0 : Int) ∧ (0 : Int) ≤ (p0.f1.length : Int) ∧ (p0.f1.length : Int) ≤ (t11.1.length : Int) then some ((lcut t11.1 (0 : Int) (p0.f1.length : Int)))
    else none
    else (F81_l0 k p0 j) t11.1 t11.2
def F81 (k : Nat) (p0 : S55) : Option (List Int) :=
  (F78 k p0).bind fun t3 =>
  if (!t3) = true then some ([])
  else (F106 k p0).bind fun t5 =>
  (F105 k p0 t5).bind fun t6 =>
  F81_l0 k p0 k t6.1 t6.2
theorem F81_spec {k : Nat} {p0 : S55} {r : (List Int)} (h : F81 k p0 = some r) : Spec Try.prog 81 [(e55 p0)] (e35 r) := by
  rw [F81.eq_1] at h
  refine Spec.intro (res := [.tmp 2]) Try.func81 rfl rfl rfl (Nat.le_of_ble_eq_true rfl) ?_
  refine AW.sr ?_
  refine AO.box rfl 1 rfl (by decide) rfl rfl rfl fun n2 => ?_
  refine AO.ag rfl rfl ?_
  refine AO.nK [1] ?_
  refine AW.seq ?_
  refine AW.sr ?_
  refine AO.c (Calm.load 0 rfl rfl rfl (At.cast At.here rfl) ag55 sz55) ?_
  obtain ⟨t3, et3, h⟩ := of_bind h
  refine AO.callS [(e55 p0)] (eBool t3) 8 rfl (by decide) ok78 rfl rfl rfl ⟨rfl, rfl, trivial⟩ (F78_spec et3) ?_
  refine AO.c (Calm.not rfl rfl) ?_
  refine AO.nK [1, 9] ?_
  rcases of_ite h with ⟨hc4, h⟩ | ⟨hc4, h⟩
  ·refine AW.condT' _ rfl hc4 ?_
   refine AW.sr ?_
   refine AO.ag rfl rfl ?_
   refine AO.nH [2] (H' := []) (Sub.nil _) ?_
   refine AW.coeC 2 (y' := (.fz 1 (([] : List Int).map eI64))) rfl Coe.nil ?_
   refine AW.rK [2] ?_
   have hr := Option.some.inj h
   subst hr
   exact ⟨[(.fz 1 (([] : List Int).map eI64))], ⟨rfl, rfl, trivial⟩, rfl⟩
  ·refine AW.condF' _ rfl hc4 ?_
   refine AW.sK [1] ?_
   refine AW.seq ?_
   obtain ⟨t5, et5, h⟩ := of_bind h
   obtain ⟨t6, et6, h⟩ := of_bind h
   refine AW.regAny (by rfl) (by decide +kernel) [(e55 p0), (e55 p0), (.fz 1 (t5.map eI64)), (.tup [(.fz 1 (t6.1.map eI64)), (eI64 t6.2)]), (.tup [(.fz 1 (t6.1.map eI64)), (eI64 t6.2)]), (.fz 1 (t6.1.map eI64)), (eI64 t6.2), (.fz 1 (t6.1.map eI64)), (eI64 t6.2)] [(1, (.ptr n2 0))] ⟨rfl, trivial⟩ rfl ?_ [(1, (.ptr n2 0)), (3, (.fz 1 (t6.1.map eI64))), (4, (eI64 t6.2))] [(n2, (.mem (e55 p0)))] ⟨rfl, rfl, rfl, trivial⟩ (Sub.refl _) ?_
   ·refine ⟨?_, ?_, ?_, ?_, ?_, ?_, ?_, ?_, ?_, trivial⟩
    ·refine AO.wK [1] ?_
     refine AO.c (Calm.load 0 rfl rfl rfl (At.cast At.here rfl) ag55 sz55) ?_
     exact AO.nE (d := 11) rfl ⟨⟨_, rfl, rfl⟩, Sub.refl _⟩
    ·refine AO.wK [1] ?_
     refine AO.c (Calm.load 0 rfl rfl rfl (At.cast At.here rfl) ag55 sz55) ?_
     exact AO.nE (d := 12) rfl ⟨⟨_, rfl, rfl⟩, Sub.refl _⟩
    ·refine AO.wK [12] ?_
     refine AO.callS [(e55 p0)] (.fz 1 (t5.map eI64)) 13 rfl (by decide) ok106 rfl rfl rfl ⟨rfl, rfl, trivial⟩ (F106_spec et5) ?_
     exact AO.nE (d := 13) rfl ⟨⟨_, rfl, rfl⟩, Sub.refl _⟩
    ·refine AO.wK [11, 13] ?_
     refine AO.callS [(e55 p0), (.fz 1 (t5.map eI64))] (.tup [(.fz 1 (t6.1.map eI64)), (eI64 t6.2)]) 14 rfl (by decide) ok105 rfl rfl rfl ⟨rfl, rfl, rfl, rfl, trivial⟩ (F105_spec et6) ?_
     exact AO.nE (d := 14) rfl ⟨⟨_, rfl, rfl⟩, Sub.refl _⟩
    ·refine AO.wK [14] ?_
     refine AO.mv rfl rfl ?_
     exact AO.nE (d := 10) rfl ⟨⟨_, rfl, rfl⟩, Sub.refl _⟩
    ·refine AO.wK [10] ?_
     refine AO.c (Calm.extract rfl rfl rfl) ?_
     exact AO.nE (d := 15) rfl ⟨⟨_, rfl, rfl⟩, Sub.refl _⟩
    ·refine AO.wK [10] ?_
     refine AO.c (Calm.extract rfl rfl rfl) ?_
     exact AO.nE (d := 16) rfl ⟨⟨_, rfl, rfl⟩, Sub.refl _⟩
    ·refine AO.wK [15] ?_
     refine AO.ag rfl rfl ?_
     exact AO.nE (d := 3) rfl ⟨⟨_, rfl, rfl⟩, Sub.refl _⟩
    ·refine AO.wK [16] ?_
     refine AO.ag rfl rfl ?_
     exact AO.nE (d := 4) rfl ⟨⟨_, rfl, rfl⟩, Sub.refl _⟩
   ·refine AW.block ?_
    refine AW.wK [1, 3, 4] ?_
    refine AW.loop (fun kq ρ H => ∃ (x7 : (List Int)) (x8 : Int), ρ = [(1, (.ptr n2 0)), (3, (.fz 1 (x7.map eI64))), (4, (eI64 x8))] ∧ H = [(n2, (.mem (e55 p0)))] ∧ F81_l0 k p0 kq x7 x8 = some r) k ⟨t6.1, t6.2, rfl, rfl, h⟩ ?_
    rintro kq10 _ _ ⟨x7, x8, rfl, rfl, h⟩
    cases kq10 with
    | zero => rw [F81_l0.eq_1] at h; cases h
    | succ kq10 =>
    rw [F81_l0.eq_2] at h
    generalize hrec9 : F81_l0 k p0 kq10 = rec9 at h
    refine AW.block ?_
    refine AW.sr ?_
    refine AO.c (Calm.load 0 rfl rfl rfl (At.cast At.here rfl) ag55 sz55) ?_
    refine AO.mv rfl rfl ?_
    obtain ⟨t11, et11, h⟩ := of_bind h
    refine AO.callS [(e55 p0), (.fz 1 (x7.map eI64))] (.tup [(.fz 1 (t11.1.map eI64)), (eI64 t11.2)]) 20 rfl (by decide) ok105 rfl rfl rfl ⟨rfl, rfl, rfl, rfl, trivial⟩ (F105_spec et11) ?_
    refine AO.mv rfl rfl ?_
    refine AO.c (Calm.extract rfl rfl rfl) ?_
    refine AO.c (Calm.extract rfl rfl rfl) ?_
    refine AO.ag rfl rfl ?_
    refine AO.ag rfl rfl ?_
    refine AO.nK [1, 4, 5, 6] ?_
    refine AW.sr ?_
    refine AO.mv rfl rfl ?_
    refine AO.ag rfl rfl ?_
    refine AO.nK [1, 3, 4, 6] ?_
    refine AW.seq ?_
    refine AW.sr ?_
    refine AO.mv rfl rfl ?_
    refine AO.mv rfl rfl ?_
    refine AO.c (x := eBool (decide (t11.2 = x8))) (Calm.int rfl rfl rfl rfl) ?_
    refine AO.nK [1, 3, 6, 26] ?_
    rcases of_ite h with ⟨hc12, h⟩ | ⟨hc12, h⟩
    ·refine AW.condP _ rfl hc12 ?_
     refine AW.sr ?_
     refine AO.mv rfl rfl ?_
     refine AO.c (x := .ptr n2 256) (Calm.fldPtr rfl rfl Try.underlying55 rfl sz53 _ rfl) ?_
     refine AO.c (Calm.load 0 rfl rfl rfl (At.cast (At.fldS (At.fld0 At.here)) rfl) ag53 sz53) ?_
     refine AO.c (Calm.lenL rfl rfl Try.underlying53) ?_
     obtain ⟨hg13, h⟩ := of_guard h
     refine AO.c (x := .fz 1 ((lcut t11.1 (0 : Int) (p0.f1.length : Int)).map eI64)) (Calm.sliceL rfl rfl rfl rfl hg13 Try.underlying35 sz3) ?_
     refine AO.ag rfl rfl ?_
     refine AO.nH [2] (H' := []) (Sub.nil _) ?_
     refine AW.rK [2] ?_
     have hr := Option.some.inj h
     subst hr
     exact ⟨[(.fz 1 ((lcut t11.1 (0 : Int) (p0.f1.length : Int)).map eI64))], ⟨rfl, rfl, trivial⟩, rfl⟩
    ·refine AW.condN _ rfl hc12 ?_
     refine AW.sK [1, 3, 6] ?_
     refine AW.reg ?_
     refine AO.mv rfl rfl ?_
     refine AO.ag rfl rfl ?_
     refine AO.nK [1, 3, 4] ?_
     exact ⟨kq10, Nat.lt_succ_self _, t11.1, t11.2, rfl, rfl, by rw [hrec9]; exact h⟩
end Go.Avl.T7
/- bosket/mini.column; printed by avmain.py. -/
namespace Go.Avl.T7
open Go Go.RowKit Go.Proofs Go.Avl
set_option linter.unusedVariables false
set_option maxRecDepth 100000
set_option maxHeartbeats 4000000
attribute [local irreducible] AW AO AQ Spec SpecH Calm

def F107_c0 (k : Nat) (x4 : ByteArray) : Option ByteArray :=
  some (x4)
def F107_l1 (k : Nat) (p0 : S55) (p1 : Int) : Nat → ByteArray → Int → Option ByteArray
  | 0, _, _ => none
  | j + 1, x5, x6 =>
    if x6 < (p0.f1.length : Int) then if 0 ≤ x6 ∧ x6 < (p0.f1.length : Int) then if 0 ≤ p1 ∧ p1 < ((lget p0.f1 x6).length : Int) then (F127 k (w64 ((lget (lget p0.f1 x6) p1) + (1 : Int)))).bind fun t12 =>
    if x5.size + t12.size ≤ 9223372036854775807 then (F107_l1 k p0 p1 j) (x5 ++ t12) (w64 (x6 + (1 : Int)))
    else none
    else none
    else none
    else F107_c0 k x5
def F107 (k : Nat) (p0 : S55) (p1 : Int) : Option ByteArray :=
  F107_l1 k p0 p1 k (ByteArray.mk #[]) (0 : Int)
theorem F107_spec {k : Nat} {p0 : S55} {p1 : Int} {r : ByteArray} (h : F107 k p0 p1 = some r) : Spec Try.prog 107 [(e55 p0), (eI64 p1)] (eStr r) := by
  rw [F107.eq_1] at h
  refine Spec.intro (res := [.tmp 4]) Try.func107 rfl rfl rfl (Nat.le_of_ble_eq_true rfl) ?_
  refine AW.sr ?_
  refine AO.box rfl 2 rfl (by decide) rfl rfl rfl fun n3 => ?_
  refine AO.ag rfl rfl ?_
  refine AO.nK [1, 2] ?_
  refine AW.sr ?_
  refine AO.ag rfl rfl ?_
  refine AO.nK [1, 2, 5] ?_
  refine AW.seq_mid (fun ρ H => ∃ (x4 : ByteArray), ρ = [(5, (eStr x4))] ∧ H = [] ∧ F107_c0 k x4 = some r) ?_ ?_
  ·refine AW.sr ?_
   refine AO.c (x := .ptr n3 256) (Calm.fldPtr rfl rfl Try.underlying55 rfl sz53 _ rfl) ?_
   refine AO.c (Calm.load 0 rfl rfl rfl (At.cast (At.fldS (At.fld0 At.here)) rfl) ag53 sz53) ?_
   refine AO.c (Calm.lenL rfl rfl Try.underlying53) ?_
   refine AO.mv rfl rfl ?_
   refine AO.nH [1, 5, 9, 10, 11] (H' := []) (Sub.nil _) ?_
   refine AW.block ?_
   refine AW.wK [1, 5, 9, 10, 11] ?_
   refine AW.loop (fun kq ρ H => ∃ (x5 : ByteArray) (x6 : Int), ρ = [(1, (eI64 p1)), (5, (eStr x5)), (9, (.fz 1 (p0.f1.map e35))), (10, (eI64 (p0.f1.length : Int))), (11, (eI64 x6))] ∧ H = [] ∧ F107_l1 k p0 p1 kq x5 x6 = some r) k ⟨(ByteArray.mk #[]), (0 : Int), rfl, rfl, h⟩ ?_
   rintro kq8 _ _ ⟨x5, x6, rfl, rfl, h⟩
   cases kq8 with
   | zero => rw [F107_l1.eq_1] at h; cases h
   | succ kq8 =>
   rw [F107_l1.eq_2] at h
   generalize hrec7 : F107_l1 k p0 p1 kq8 = rec7 at h
   refine AW.sr ?_
   refine AO.c (x := eBool (decide (x6 < (p0.f1.length : Int)))) (Calm.int rfl rfl rfl rfl) ?_
   refine AO.nK [1, 5, 9, 10, 11, 12] ?_
   refine AW.seq ?_
   rcases of_ite h with ⟨hc9, h⟩ | ⟨hc9, h⟩
   ·refine AW.condP _ rfl hc9 ?_
    refine AW.sK [1, 5, 9, 10, 11] ?_
    refine AW.seq ?_
    refine AW.block ?_
    refine AW.sr ?_
    obtain ⟨hg10, h⟩ := of_guard h
    refine AO.c (Calm.idxL (f := e35) rfl rfl rfl hg10 Try.underlying53 sz35) ?_
    refine AO.c (Calm.loadRp rfl rfl ag35 sz35) ?_
    refine AO.ag rfl rfl ?_
    refine AO.nK [1, 5, 7, 9, 10, 11] ?_
    refine AW.reg ?_
    refine AO.mv rfl rfl ?_
    refine AO.mv rfl rfl ?_
    refine AO.mv rfl rfl ?_
    obtain ⟨hg11, h⟩ := of_guard h
    refine AO.c (Calm.idxL (f := eI64) rfl rfl rfl hg11 Try.underlying35 sz3) ?_
    refine AO.c (Calm.loadRp rfl rfl ag3 sz3) ?_
    refine AO.c (x := eI64 (w64 ((lget (lget p0.f1 x6) p1) + (1 : Int)))) (Calm.int rfl rfl rfl rfl) ?_
    obtain ⟨t12, et12, h⟩ := of_bind h
    refine AO.callS [(eI64 (w64 ((lget (lget p0.f1 x6) p1) + (1 : Int))))] (eStr t12) 21 rfl (by decide) ok127 rfl rfl rfl ⟨rfl, rfl, trivial⟩ (F127_spec et12) ?_
    obtain ⟨hg13, h⟩ := of_guard h
    refine AO.c (x := eStr (x5 ++ t12)) (Calm.cat rfl rfl rfl hg13) ?_
    refine AO.ag rfl rfl ?_
    refine AO.nK [1, 5, 9, 10, 11] ?_
    refine AW.reg ?_
    refine AO.c (x := eI64 (w64 (x6 + (1 : Int)))) (Calm.int rfl rfl rfl rfl) ?_
    refine AO.mv rfl rfl ?_
    refine AO.nK [1, 5, 9, 10, 11] ?_
    exact ⟨kq8, Nat.lt_succ_self _, (x5 ++ t12), (w64 (x6 + (1 : Int))), rfl, rfl, by rw [hrec7]; exact h⟩
   ·refine AW.condN _ rfl hc9 ?_
    refine AW.eK [5] ?_
    exact ⟨x5, rfl, rfl, h⟩
  ·rintro _ _ ⟨x4, rfl, rfl, h⟩
   rw [F107_c0.eq_1] at h
   refine AW.sr ?_
   refine AO.mv rfl rfl ?_
   refine AO.ag rfl rfl ?_
   refine AO.nK [4] ?_
   refine AW.rK [4] ?_
   have hr := Option.some.inj h
   subst hr
   exact ⟨[(eStr x4)], ⟨rfl, rfl, trivial⟩, rfl⟩
end Go.Avl.T7
/- bosket/mini.classes; printed by avmain.py. -/
namespace Go.Avl.T7
open Go Go.RowKit Go.Proofs Go.Avl
set_option linter.unusedVariables false
set_option maxRecDepth 100000
set_option maxHeartbeats 4000000
attribute [local irreducible] AW AO AQ Spec SpecH Calm

def F82_c0 (k : Nat) (p0 : S55) (x11 : (Vector Int 256)) (x15 : (List (List Int))) : Option S55 :=
  some ((S55.mk x11 x15 p0.f2))
def F82_c1 (k : Nat) (rec19 : ((List (List Int)) → Int → Option S55)) (x18 : Int) (x23 : (List (List Int))) : Option S55 :=
  rec19 x23 (w64 (x18 + (1 : Int)))
def F82_c2 (k : Nat) (rec19 : ((List (List Int)) → Int → Option S55)) (x17 : (List (List Int))) (x18 : Int) (x26 : (List Int)) : Option S55 :=
  if (x17 ++ ([x26] : List (List Int))).length * 24 ≤ 140737488355328 then F82_c1 k rec19 x18 (x17 ++ ([x26] : List (List Int)))
  else none
def F82_l3 (k : Nat) (rec19 : ((List (List Int)) → Int → Option S55)) (p0 : S55) (x13 : (List Int)) (x17 : (List (List Int))) (x18 : Int) : Nat → (List Int) → Int → Option S55
  | 0, _, _ => none
  | j + 1, x31, x32 =>
    if x32 < (x13.length : Int) then if 0 ≤ x32 ∧ x32 < (x13.length : Int) then if 0 ≤ (lget x13 x32) ∧ (lget x13 x32) < ((lget p0.f1 x18).length : Int) then if (x31 ++ ([(lget (lget p0.f1 x18) (lget x13 x32))] : List Int)).length * 8 ≤ 140737488355328 then (F82_l3 k rec19 p0 x13 x17 x18 j) (x31 ++ ([(lget (lget p0.f1 x18) (lget x13 x32))] : List Int)) (w64 (x32 + (1 : Int)))
    else none
    else none
    else none
    else F82_c2 k rec19 x17 x18 x31
def F82_l4 (k : Nat) (p0 : S55) (x11 : (Vector Int 256)) (x13 : (List Int)) : Nat → (List (List Int)) → Int → Option S55
  | 0, _, _ => none
  | j + 1, x17, x18 =>
    if x18 < (p0.f1.length : Int) then if 0 ≤ x18 ∧ x18 < (p0.f1.length : Int) then F82_l3 k (F82_l4 k p0 x11 x13 j) p0 x13 x17 x18 k ([] : List Int) (0 : Int)
    else none
    else F82_c0 k p0 x11 x17
def F82_c5 (k : Nat) (p0 : S55) (x11 : (Vector Int 256)) (x13 : (List Int)) : Option S55 :=
  F82_l4 k p0 x11 x13 k ([] : List (List Int)) (0 : Int)
def F82_c6 (k : Nat) (rec50 : ((Vector Int 256) → (List (ByteArray × Int)) → (List Int) → (List Int) → (List Bool) → Int → Option S55)) (p0 : S55) (x43 : (Vector Int 256)) (x49 : Int) (x54 : (List (ByteArray × Int))) (x56 : (List Int)) (x57 : (List Int)) (x58 : (List Bool)) : Option S55 :=
  if 0 ≤ (w64 (vget p0.f0 x49)) ∧ (w64 (vget p0.f0 x49)) < (x57.length : Int) then if 0 ≤ x49 ∧ x49 < (256 : Int) then rec50 (vset x43 x49 (w8 (lget x57 (w64 (vget p0.f0 x49))))) x54 x56 x57 x58 (w64 (x49 + (1 : Int)))
  else none
  else none
def F82_c7 (k : Nat) (rec50 : ((Vector Int 256) → (List (ByteArray × Int)) → (List Int) → (List Int) → (List Bool) → Int → Option S55)) (p0 : S55) (x43 : (Vector Int 256)) (x47 : (List Int)) (x48 : (List Bool)) (x49 : Int) (x64 : (List (ByteArray × Int))) (x66 : (List Int)) (x67 : Int) : Option S55 :=
  if 0 ≤ (w64 (vget p0.f0 x49)) ∧ (w64 (vget p0.f0 x49)) < (x47.length : Int) then if 0 ≤ (w64 (vget p0.f0 x49)) ∧ (w64 (vget p0.f0 x49)) < (x48.length : Int) then F82_c6 k rec50 p0 x43 x49 x64 x66 (lset x47 (w64 (vget p0.f0 x49)) x67) (lset x48 (w64 (vget p0.f0 x49)) true)
  else none
  else none
def F82_l8 (k : Nat) (p0 : S55) : Nat → (Vector Int 256) → (List (ByteArray × Int)) → (List Int) → (List Int) → (List Bool) → Int → Option S55
  | 0, _, _, _, _, _, _ => none
  | j + 1, x43, x44, x46, x47, x48, x49 =>
    if x49 < (256 : Int) then if 0 ≤ x49 ∧ x49 < (256 : Int) then if 0 ≤ (w64 (vget p0.f0 x49)) ∧ (w64 (vget p0.f0 x49)) < (x48.length : Int) then if (!(lget x48 (w64 (vget p0.f0 x49)))) = true then (F107 k p0 (w64 (vget p0.f0 x49))).bind fun t63 =>
    if (!((mget x44 t63).isSome)) = true then if (x46 ++ ([(w64 (vget p0.f0 x49))] : List Int)).length * 8 ≤ 140737488355328 then F82_c7 k (F82_l8 k p0 j) p0 x43 x47 x48 x49 (mput x44 t63 (x46.length : Int)) (x46 ++ ([(w64 (vget p0.f0 x49))] : List Int)) (x46.length : Int)
    else none
    else F82_c7 k (F82_l8 k p0 j) p0 x43 x47 x48 x49 x44 x46 ((mget x44 t63).getD (0 : Int))
    else F82_c6 k (F82_l8 k p0 j) p0 x43 x49 x44 x46 x47 x48
    else none
    else none
    else F82_c5 k p0 x43 x46
def F82 (k : Nat) (p0 : S55) : Option S55 :=
  (F101 k p0.f0).bind fun t6 =>
  if 0 ≤ t6 ∧ t6 * (8 : Int) ≤ 140737488355328 ∧ t6 ≤ 9223372036854775807 then if 0 ≤ ((List.replicate t6.toNat (0 : Int)).length : Int) ∧ ((List.replicate t6.toNat (0 : Int)).length : Int) * (1 : Int) ≤ 140737488355328 ∧ ((List.replicate t6.toNat (0 : Int)).length : Int) ≤ 9223372036854775807 then F82_l8 k p0 k (Vector.replicate 256 (0 : Int)) ([] : List (ByteArray × Int)) ([] : List Int) (List.replicate t6.toNat (0 : Int)) (List.replicate ((List.replicate t6.toNat (0 : Int)).length : Int).toNat false) (0 : Int)
  else none
  else none
theorem F82_spec {k : Nat} {p0 : S55} {r : S55} (h : F82 k p0 = some r) : Spec Try.prog 82 [(e55 p0)] (e55 r) := by
  rw [F82.eq_1] at h
  refine Spec.intro (res := [.cell 2 55]) Try.func82 rfl rfl rfl (Nat.le_of_ble_eq_true rfl) ?_
  refine AW.sr ?_
  refine AO.box rfl 1 rfl (by decide) rfl rfl rfl fun n2 => ?_
  refine AO.alloc rfl 2 rfl (by decide) rfl zr55 lay55 fun n3 => ?_
  refine AO.nH [1, 2] (H' := [(n2, (.mem (e55 p0))), (n3, (.mem (.st [(256, (.ar 1 ((Vector.replicate 256 (0 : Int)).toList.map eU8))), (1, (.fl (.slice none 0 0))), (1, (.fl (.slice none 0 0)))])))]) (Sub.cons 1 rfl (Sub.cons 0 rfl (Sub.nil _))) ?_
  refine AW.sr ?_
  refine AO.c (x := .ptr n2 257) (Calm.fldPtr rfl rfl Try.underlying55 rfl sz35 _ rfl) ?_
  refine AO.c (Calm.load 0 rfl rfl rfl (At.cast (At.fldS (At.fldS (At.fld0 At.here))) rfl) ag35 sz35) ?_
  refine AO.c (x := .st [(256, (.ar 1 ((Vector.replicate 256 (0 : Int)).toList.map eU8))), (1, (.fl (.slice none 0 0))), (1, (.fz 1 (p0.f2.map eI64)))]) (Calm.build (qs := [(2, (.fz 1 (p0.f2.map eI64)))]) rfl ⟨rfl, rfl, rfl, trivial⟩ Try.underlying55 rfl zr55 lay55 (.cons rfl rfl rfl rfl (Put.cast (Put.fldS (Put.fldS (Put.fld0 Put.here))) rfl) .nil) rfl) ?_
  refine AO.alloc rfl 3 rfl (by decide) rfl zr55 lay55 fun n4 => ?_
  refine AO.store (X' := (.st [(256, (.ar 1 ((Vector.replicate 256 (0 : Int)).toList.map eU8))), (1, (.fl (.slice none 0 0))), (1, (.fz 1 (p0.f2.map eI64)))])) 0 rfl rfl rfl rfl rfl rfl (Put.cast Put.here rfl) rfl rfl sz55 rfl ?_
  refine AO.nH [1, 2, 3] (H' := [(n2, (.mem (e55 p0))), (n3, (.mem (.st [(256, (.ar 1 ((Vector.replicate 256 (0 : Int)).toList.map eU8))), (1, (.fl (.slice none 0 0))), (1, (.fl (.slice none 0 0)))]))), (n4, (.mem (.st [(256, (.ar 1 ((Vector.replicate 256 (0 : Int)).toList.map eU8))), (1, (.fl (.slice none 0 0))), (1, (.fz 1 (p0.f2.map eI64)))])))]) (Sub.cons 1 rfl (Sub.cons 1 rfl (Sub.cons 0 rfl (Sub.nil _)))) ?_
  refine AW.sr ?_
  refine AO.makeMap rfl 21 rfl (by decide) rfl fun n5 => ?_
  refine AO.ag rfl rfl ?_
  refine AO.nH [1, 2, 3, 4] (H' := [(n2, (.mem (e55 p0))), (n3, (.mem (.st [(256, (.ar 1 ((Vector.replicate 256 (0 : Int)).toList.map eU8))), (1, (.fl (.slice none 0 0))), (1, (.fl (.slice none 0 0)))]))), (n4, (.mem (.st [(256, (.ar 1 ((Vector.replicate 256 (0 : Int)).toList.map eU8))), (1, (.fl (.slice none 0 0))), (1, (.fz 1 (p0.f2.map eI64)))]))), (n5, (.map (encM Value.string eI64 ([] : List (ByteArray × Int)))))]) (Sub.cons 1 rfl (Sub.cons 1 rfl (Sub.cons 1 rfl (Sub.cons 0 rfl (Sub.nil _))))) ?_
  refine AW.sr ?_
  refine AO.ag rfl rfl ?_
  refine AO.nK [1, 2, 3, 4, 5] ?_
  refine AW.sr ?_
  refine AO.c (x := .ptr n2 0) (Calm.fldPtr rfl rfl Try.underlying55 rfl sz52 _ rfl) ?_
  refine AO.c (Calm.load 0 rfl rfl rfl (At.cast (At.fld0 At.here) rfl) ag52 (by rw [sz52]; simp [AV.size])) ?_
  obtain ⟨t6, et6, h⟩ := of_bind h
  refine AO.callS [(.ar 1 (p0.f0.toList.map eU8))] (eI64 t6) 24 rfl (by decide) ok101 rfl rfl rfl ⟨rfl, rfl, trivial⟩ (F101_spec et6) ?_
  obtain ⟨hg8, h⟩ := of_guard h
  refine AO.makeL (f := eI64) (0 : Int) rfl 25 rfl (by decide) rfl rfl rfl Try.underlying35 sz3 by3 zr3 lay3 rfl hg8 fun n7 => ?_
  refine AO.ag rfl rfl ?_
  refine AO.nH [1, 2, 3, 4, 5, 6] (H' := [(n2, (.mem (e55 p0))), (n3, (.mem (.st [(256, (.ar 1 ((Vector.replicate 256 (0 : Int)).toList.map eU8))), (1, (.fl (.slice none 0 0))), (1, (.fl (.slice none 0 0)))]))), (n4, (.mem (.st [(256, (.ar 1 ((Vector.replicate 256 (0 : Int)).toList.map eU8))), (1, (.fl (.slice none 0 0))), (1, (.fz 1 (p0.f2.map eI64)))]))), (n5, (.map (encM Value.string eI64 ([] : List (ByteArray × Int))))), (n7, (.mem (.ar 1 ((List.replicate t6.toNat (0 : Int)).map eI64))))]) (Sub.cons 1 rfl (Sub.cons 1 rfl (Sub.cons 1 rfl (Sub.cons 1 rfl (Sub.cons 0 rfl (Sub.nil _)))))) ?_
  refine AW.sr ?_
  refine AO.mv rfl rfl ?_
  refine AO.c (Calm.lenOwn rfl rfl Try.underlying35) ?_
  obtain ⟨hg10, h⟩ := of_guard h
  refine AO.makeL (f := eBool) false rfl 28 rfl (by decide) rfl rfl rfl Try.underlying98 sz4 by4 zr4 lay4 rfl hg10 fun n9 => ?_
  refine AO.ag rfl rfl ?_
  refine AO.nH [1, 2, 3, 4, 5, 6, 7] (H' := [(n2, (.mem (e55 p0))), (n3, (.mem (.st [(256, (.ar 1 ((Vector.replicate 256 (0 : Int)).toList.map eU8))), (1, (.fl (.slice none 0 0))), (1, (.fl (.slice none 0 0)))]))), (n4, (.mem (.st [(256, (.ar 1 ((Vector.replicate 256 (0 : Int)).toList.map eU8))), (1, (.fl (.slice none 0 0))), (1, (.fz 1 (p0.f2.map eI64)))]))), (n5, (.map (encM Value.string eI64 ([] : List (ByteArray × Int))))), (n7, (.mem (.ar 1 ((List.replicate t6.toNat (0 : Int)).map eI64)))), (n9, (.mem (.ar 1 ((List.replicate ((List.replicate t6.toNat (0 : Int)).length : Int).toNat false).map eBool))))]) (Sub.cons 1 rfl (Sub.cons 1 rfl (Sub.cons 1 rfl (Sub.cons 1 rfl (Sub.cons 1 rfl (Sub.cons 0 rfl (Sub.nil _))))))) ?_
  refine AW.seq_mid (fun ρ H => ∃ (n12 : Nat) (x11 : (Vector Int 256)) (x13 : (List Int)), ρ = [(1, (.ptr n2 0)), (2, (.ptr n3 0)), (3, (.ptr n4 0)), (5, (.own n12 0 x13.length))] ∧ H = [(n2, (.mem (e55 p0))), (n3, (.mem (.st [(256, (.ar 1 ((Vector.replicate 256 (0 : Int)).toList.map eU8))), (1, (.fl (.slice none 0 0))), (1, (.fl (.slice none 0 0)))]))), (n4, (.mem (.st [(256, (.ar 1 (x11.toList.map eU8))), (1, (.fl (.slice none 0 0))), (1, (.fz 1 (p0.f2.map eI64)))]))), (n12, (.mem (.ar 1 (x13.map eI64))))] ∧ F82_c5 k p0 x11 x13 = some r) ?_ ?_
  ·refine AW.sr ?_
   refine AO.mv rfl rfl ?_
   refine AO.nK [1, 2, 3, 4, 5, 6, 7, 29] ?_
   refine AW.block ?_
   refine AW.nilOwn 5 1 rfl fun n74 => ?_
   refine AW.wH [1, 2, 3, 4, 5, 6, 7, 29] (H' := [(n2, (.mem (e55 p0))), (n3, (.mem (.st [(256, (.ar 1 ((Vector.replicate 256 (0 : Int)).toList.map eU8))), (1, (.fl (.slice none 0 0))), (1, (.fl (.slice none 0 0)))]))), (n4, (.mem (.st [(256, (.ar 1 ((Vector.replicate 256 (0 : Int)).toList.map eU8))), (1, (.fl (.slice none 0 0))), (1, (.fz 1 (p0.f2.map eI64)))]))), (n5, (.map (encM Value.string eI64 ([] : List (ByteArray × Int))))), (n74, (.mem (.ar 1 (([] : List Int).map eI64)))), (n7, (.mem (.ar 1 ((List.replicate t6.toNat (0 : Int)).map eI64)))), (n9, (.mem (.ar 1 ((List.replicate ((List.replicate t6.toNat (0 : Int)).length : Int).toNat false).map eBool))))]) (Sub.cons 1 rfl (Sub.cons 1 rfl (Sub.cons 1 rfl (Sub.cons 1 rfl (Sub.cons 0 rfl (Sub.cons 0 rfl (Sub.cons 0 rfl (Sub.nil _)))))))) ?_
   refine AW.loop (fun kq ρ H => ∃ (n45 : Nat) (x43 : (Vector Int 256)) (x44 : (List (ByteArray × Int))) (x46 : (List Int)) (x47 : (List Int)) (x48 : (List Bool)) (x49 : Int), ρ = [(1, (.ptr n2 0)), (2, (.ptr n3 0)), (3, (.ptr n4 0)), (4, (.mp n5)), (5, (.own n45 0 x46.length)), (6, (.own n7 0 x47.length)), (7, (.own n9 0 x48.length)), (29, (eI64 x49))] ∧ H = [(n2, (.mem (e55 p0))), (n3, (.mem (.st [(256, (.ar 1 ((Vector.replicate 256 (0 : Int)).toList.map eU8))), (1, (.fl (.slice none 0 0))), (1, (.fl (.slice none 0 0)))]))), (n4, (.mem (.st [(256, (.ar 1 (x43.toList.map eU8))), (1, (.fl (.slice none 0 0))), (1, (.fz 1 (p0.f2.map eI64)))]))), (n5, (.map (encM Value.string eI64 x44))), (n45, (.mem (.ar 1 (x46.map eI64)))), (n7, (.mem (.ar 1 (x47.map eI64)))), (n9, (.mem (.ar 1 (x48.map eBool))))] ∧ F82_l8 k p0 kq x43 x44 x46 x47 x48 x49 = some r) k ⟨n74, (Vector.replicate 256 (0 : Int)), ([] : List (ByteArray × Int)), ([] : List Int), (List.replicate t6.toNat (0 : Int)), (List.replicate ((List.replicate t6.toNat (0 : Int)).length : Int).toNat false), (0 : Int), rfl, rfl, h⟩ ?_
   rintro kq51 _ _ ⟨n45, x43, x44, x46, x47, x48, x49, rfl, rfl, h⟩
   cases kq51 with
   | zero => rw [F82_l8.eq_1] at h; cases h
   | succ kq51 =>
   rw [F82_l8.eq_2] at h
   generalize hrec50 : F82_l8 k p0 kq51 = rec50 at h
   refine AW.sr ?_
   refine AO.c (x := eBool (decide (x49 < (256 : Int)))) (Calm.int rfl rfl rfl rfl) ?_
   refine AO.nK [1, 2, 3, 4, 5, 6, 7, 29, 30] ?_
   refine AW.seq ?_
   rcases of_ite h with ⟨hc52, h⟩ | ⟨hc52, h⟩
   ·refine AW.condP _ rfl hc52 ?_
    refine AW.sK [1, 2, 3, 4, 5, 6, 7, 29] ?_
    refine AW.seq ?_
    refine AW.block ?_
    refine AW.sr ?_
    refine AO.mv rfl rfl ?_
    refine AO.ag rfl rfl ?_
    refine AO.nK [1, 2, 3, 4, 5, 6, 7, 8, 29] ?_
    refine AW.sr ?_
    refine AO.mv rfl rfl ?_
    refine AO.c (x := .ptr n2 0) (Calm.fldPtr rfl rfl Try.underlying55 rfl sz52 _ rfl) ?_
    obtain ⟨hg53, h⟩ := of_guard h
    refine AO.c (Calm.idxP rfl rfl rfl hg53 Try.underlying52 sz5) ?_
    refine AO.c (Calm.load 0 rfl rfl rfl (At.cast (At.fld0 (At.vidx x49 hg53.1 hg53.2 At.here)) (by omega)) ag5 sz5) ?_
    refine AO.c (x := eI64 (w64 (vget p0.f0 x49))) (Calm.conv rfl rfl Try.underlying5 Try.underlying3) ?_
    refine AO.ag rfl rfl ?_
    refine AO.nK [1, 2, 3, 4, 5, 6, 7, 8, 9, 29] ?_
    refine AW.seq_mid (fun ρ H => ∃ (n55 : Nat) (x54 : (List (ByteArray × Int))) (x56 : (List Int)) (x57 : (List Int)) (x58 : (List Bool)), ρ = [(1, (.ptr n2 0)), (2, (.ptr n3 0)), (3, (.ptr n4 0)), (4, (.mp n5)), (5, (.own n55 0 x56.length)), (6, (.own n7 0 x57.length)), (7, (.own n9 0 x58.length)), (8, (eI64 x49)), (9, (eI64 (w64 (vget p0.f0 x49)))), (29, (eI64 x49))] ∧ H = [(n2, (.mem (e55 p0))), (n3, (.mem (.st [(256, (.ar 1 ((Vector.replicate 256 (0 : Int)).toList.map eU8))), (1, (.fl (.slice none 0 0))), (1, (.fl (.slice none 0 0)))]))), (n4, (.mem (.st [(256, (.ar 1 (x43.toList.map eU8))), (1, (.fl (.slice none 0 0))), (1, (.fz 1 (p0.f2.map eI64)))]))), (n5, (.map (encM Value.string eI64 x54))), (n55, (.mem (.ar 1 (x56.map eI64)))), (n7, (.mem (.ar 1 (x57.map eI64)))), (n9, (.mem (.ar 1 (x58.map eBool))))] ∧ F82_c6 k rec50 p0 x43 x49 x54 x56 x57 x58 = some r) ?_ ?_
    ·refine AW.sr ?_
     refine AO.mv rfl rfl ?_
     refine AO.mv rfl rfl ?_
     obtain ⟨hg61, h⟩ := of_guard h
     refine AO.c (Calm.idxO 6 rfl rfl rfl rfl hg61 Try.underlying98 sz4) ?_
     refine AO.c (Calm.load 6 rfl rfl rfl (At.cast (At.lidx (w64 (vget p0.f0 x49)) hg61.1 hg61.2 At.here) (by omega)) ag4 sz4) ?_
     refine AO.c (Calm.not rfl rfl) ?_
     refine AO.nK [1, 2, 3, 4, 5, 6, 7, 8, 9, 29, 41] ?_
     rcases of_ite h with ⟨hc62, h⟩ | ⟨hc62, h⟩
     ·refine AW.condT' _ rfl hc62 ?_
      refine AW.sr ?_
      refine AO.c (Calm.load 0 rfl rfl rfl (At.cast At.here rfl) ag55 sz55) ?_
      refine AO.mv rfl rfl ?_
      obtain ⟨t63, et63, h⟩ := of_bind h
      refine AO.callS [(e55 p0), (eI64 (w64 (vget p0.f0 x49)))] (eStr t63) 44 rfl (by decide) ok107 rfl rfl rfl ⟨rfl, rfl, rfl, rfl, trivial⟩ (F107_spec et63) ?_
      refine AO.ag rfl rfl ?_
      refine AO.nK [1, 2, 3, 4, 5, 6, 7, 8, 9, 10, 29] ?_
      refine AW.sr ?_
      refine AO.mv rfl rfl ?_
      refine AO.mv rfl rfl ?_
      refine AO.c (x := .tup [(eI64 ((mget x44 t63).getD (0 : Int))), (eBool ((mget x44 t63).isSome))]) (Calm.look2 (f := eI64) string_inj string_key (0 : Int) 3 rfl rfl rfl rfl Try.underlying109 Try.underlying9 mz3) ?_
      refine AO.mv rfl rfl ?_
      refine AO.c (Calm.extract rfl rfl rfl) ?_
      refine AO.c (Calm.extract rfl rfl rfl) ?_
      refine AO.ag rfl rfl ?_
      refine AO.ag rfl rfl ?_
      refine AO.nK [1, 2, 3, 4, 5, 6, 7, 8, 9, 10, 11, 12, 29] ?_
      refine AW.seq_mid (fun ρ H => ∃ (n65 : Nat) (x64 : (List (ByteArray × Int))) (x66 : (List Int)) (x67 : Int), ρ = [(1, (.ptr n2 0)), (2, (.ptr n3 0)), (3, (.ptr n4 0)), (4, (.mp n5)), (5, (.own n65 0 x66.length)), (6, (.own n7 0 x47.length)), (7, (.own n9 0 x48.length)), (8, (eI64 x49)), (9, (eI64 (w64 (vget p0.f0 x49)))), (11, (eI64 x67)), (29, (eI64 x49))] ∧ H = [(n2, (.mem (e55 p0))), (n3, (.mem (.st [(256, (.ar 1 ((Vector.replicate 256 (0 : Int)).toList.map eU8))), (1, (.fl (.slice none 0 0))), (1, (.fl (.slice none 0 0)))]))), (n4, (.mem (.st [(256, (.ar 1 (x43.toList.map eU8))), (1, (.fl (.slice none 0 0))), (1, (.fz 1 (p0.f2.map eI64)))]))), (n5, (.map (encM Value.string eI64 x64))), (n65, (.mem (.ar 1 (x66.map eI64)))), (n7, (.mem (.ar 1 (x47.map eI64)))), (n9, (.mem (.ar 1 (x48.map eBool))))] ∧ F82_c7 k rec50 p0 x43 x47 x48 x49 x64 x66 x67 = some r) ?_ ?_
      ·refine AW.sr ?_
       refine AO.mv rfl rfl ?_
       refine AO.c (Calm.not rfl rfl) ?_
       refine AO.nK [1, 2, 3, 4, 5, 6, 7, 8, 9, 10, 11, 29, 52] ?_
       rcases of_ite h with ⟨hc70, h⟩ | ⟨hc70, h⟩
       ·refine AW.condT' _ rfl hc70 ?_
        refine AW.sr ?_
        refine AO.mv rfl rfl ?_
        refine AO.c (Calm.lenOwn rfl rfl Try.underlying35) ?_
        refine AO.ag rfl rfl ?_
        refine AO.nK [1, 2, 3, 4, 5, 6, 7, 8, 9, 10, 11, 29] ?_
        refine AW.sr ?_
        refine AO.mv rfl rfl ?_
        refine AO.mv rfl rfl ?_
        refine AO.mv rfl rfl ?_
        refine AO.mapPut (f := eI64) string_inj string_key 3 rfl rfl rfl rfl rfl rfl rfl rfl Try.underlying109 Try.underlying9 ?_
        refine AO.nK [1, 2, 3, 4, 5, 6, 7, 8, 9, 11, 29] ?_
        refine AW.reg ?_
        refine AO.mv rfl rfl ?_
        refine AO.mv rfl rfl ?_
        refine AO.lit (Z := (eI64 (0 : Int))) (xs := (([(w64 (vget p0.f0 x49))] : List Int).map eI64)) (qs := [(0, (eI64 (w64 (vget p0.f0 x49))))]) rfl 60 rfl (by decide) rfl ⟨rfl, rfl, rfl, trivial⟩ Try.underlying35 sz3 zr3 lay3 rfl (by decide) (litOK (z := 1) [(eI64 (w64 (vget p0.f0 x49)))] rfl ⟨⟨rfl, rfl⟩, trivial⟩) rfl fun n71 => ?_
        obtain ⟨hg73, h⟩ := of_guard h
        refine AO.appendL (l := x46) (m := ([(w64 (vget p0.f0 x49))] : List Int)) 5 61 rfl (by decide) rfl rfl rfl rfl rfl (Src.ownL (f := eI64) (l := ([(w64 (vget p0.f0 x49))] : List Int)) 0 rfl) Try.underlying35 Try.underlying35 sz3 by3 zr3 rfl hg73 (by decide) fun n72 => ?_
        refine AO.ag rfl rfl ?_
        refine AO.nH [1, 2, 3, 4, 5, 6, 7, 8, 9, 11, 29] (H' := [(n2, (.mem (e55 p0))), (n3, (.mem (.st [(256, (.ar 1 ((Vector.replicate 256 (0 : Int)).toList.map eU8))), (1, (.fl (.slice none 0 0))), (1, (.fl (.slice none 0 0)))]))), (n4, (.mem (.st [(256, (.ar 1 (x43.toList.map eU8))), (1, (.fl (.slice none 0 0))), (1, (.fz 1 (p0.f2.map eI64)))]))), (n5, (.map (encM Value.string eI64 (mput x44 t63 (x46.length : Int))))), (n72, (.mem (.ar 1 ((x46 ++ ([(w64 (vget p0.f0 x49))] : List Int)).map eI64)))), (n7, (.mem (.ar 1 (x47.map eI64)))), (n9, (.mem (.ar 1 (x48.map eBool))))]) (Sub.cons 1 rfl (Sub.cons 1 rfl (Sub.cons 1 rfl (Sub.cons 1 rfl (Sub.cons 1 rfl (Sub.cons 1 rfl (Sub.cons 1 rfl (Sub.nil _)))))))) ?_
        exact ⟨n72, (mput x44 t63 (x46.length : Int)), (x46 ++ ([(w64 (vget p0.f0 x49))] : List Int)), (x46.length : Int), rfl, rfl, h⟩
       ·refine AW.condF' _ rfl hc70 ?_
        refine AW.sK [1, 2, 3, 4, 5, 6, 7, 8, 9, 11, 29] ?_
        exact ⟨n45, x44, x46, ((mget x44 t63).getD (0 : Int)), rfl, rfl, h⟩
      ·rintro _ _ ⟨n65, x64, x66, x67, rfl, rfl, h⟩
       rw [F82_c7.eq_1] at h
       refine AW.reg ?_
       refine AO.mv rfl rfl ?_
       refine AO.mv rfl rfl ?_
       refine AO.mv rfl rfl ?_
       refine AO.mv rfl rfl ?_
       refine AO.mv rfl rfl ?_
       obtain ⟨hg68, h⟩ := of_guard h
       refine AO.c (Calm.idxO 5 rfl rfl rfl rfl hg68 Try.underlying35 sz3) ?_
       refine AO.store (X' := (.ar 1 ((lset x47 (w64 (vget p0.f0 x49)) x67).map eI64))) 5 rfl rfl rfl rfl rfl rfl (Put.cast (Put.lidx (w64 (vget p0.f0 x49)) x67 hg68.1 hg68.2 Put.here) (by omega)) rfl rfl sz3 rfl ?_
       refine AO.coe 6 (y' := (.own n7 0 (lset x47 (w64 (vget p0.f0 x49)) x67).length)) rfl (fun _ _ h => lset_own h) ?_
       refine AO.coe 62 (y' := (.own n7 0 (lset x47 (w64 (vget p0.f0 x49)) x67).length)) rfl (fun _ _ h => lset_own h) ?_
       obtain ⟨hg69, h⟩ := of_guard h
       refine AO.c (Calm.idxO 6 rfl rfl rfl rfl hg69 Try.underlying98 sz4) ?_
       refine AO.store (X' := (.ar 1 ((lset x48 (w64 (vget p0.f0 x49)) true).map eBool))) 6 rfl rfl rfl rfl rfl rfl (Put.cast (Put.lidx (w64 (vget p0.f0 x49)) true hg69.1 hg69.2 Put.here) (by omega)) rfl rfl sz4 rfl ?_
       refine AO.coe 7 (y' := (.own n9 0 (lset x48 (w64 (vget p0.f0 x49)) true).length)) rfl (fun _ _ h => lset_own h) ?_
       refine AO.coe 64 (y' := (.own n9 0 (lset x48 (w64 (vget p0.f0 x49)) true).length)) rfl (fun _ _ h => lset_own h) ?_
       refine AO.nK [1, 2, 3, 4, 5, 6, 7, 8, 9, 29] ?_
       exact ⟨n65, x64, x66, (lset x47 (w64 (vget p0.f0 x49)) x67), (lset x48 (w64 (vget p0.f0 x49)) true), rfl, rfl, h⟩
     ·refine AW.condF' _ rfl hc62 ?_
      refine AW.sK [1, 2, 3, 4, 5, 6, 7, 8, 9, 29] ?_
      exact ⟨n45, x44, x46, x47, x48, rfl, rfl, h⟩
    ·rintro _ _ ⟨n55, x54, x56, x57, x58, rfl, rfl, h⟩
     rw [F82_c6.eq_1] at h
     refine AW.reg ?_
     refine AO.mv rfl rfl ?_
     refine AO.mv rfl rfl ?_
     refine AO.mv rfl rfl ?_
     obtain ⟨hg59, h⟩ := of_guard h
     refine AO.c (Calm.idxO 5 rfl rfl rfl rfl hg59 Try.underlying35 sz3) ?_
     refine AO.c (Calm.load 5 rfl rfl rfl (At.cast (At.lidx (w64 (vget p0.f0 x49)) hg59.1 hg59.2 At.here) (by omega)) ag3 sz3) ?_
     refine AO.c (x := eU8 (w8 (lget x57 (w64 (vget p0.f0 x49))))) (Calm.conv rfl rfl Try.underlying3 Try.underlying5) ?_
     refine AO.c (x := .ptr n4 0) (Calm.fldPtr rfl rfl Try.underlying55 rfl sz52 _ rfl) ?_
     obtain ⟨hg60, h⟩ := of_guard h
     refine AO.c (Calm.idxP rfl rfl rfl hg60 Try.underlying52 sz5) ?_
     refine AO.store (X' := (.st [(256, (.ar 1 ((vset x43 x49 (w8 (lget x57 (w64 (vget p0.f0 x49))))).toList.map eU8))), (1, (.fl (.slice none 0 0))), (1, (.fz 1 (p0.f2.map eI64)))])) 2 rfl rfl rfl rfl rfl rfl (Put.cast (Put.fld0 (Put.vidx x49 (w8 (lget x57 (w64 (vget p0.f0 x49)))) hg60.1 hg60.2 Put.here)) (by omega)) rfl rfl sz5 rfl ?_
     refine AO.nK [1, 2, 3, 4, 5, 6, 7, 29] ?_
     refine AW.reg ?_
     refine AO.c (x := eI64 (w64 (x49 + (1 : Int)))) (Calm.int rfl rfl rfl rfl) ?_
     refine AO.mv rfl rfl ?_
     refine AO.nK [1, 2, 3, 4, 5, 6, 7, 29] ?_
     exact ⟨kq51, Nat.lt_succ_self _, n55, (vset x43 x49 (w8 (lget x57 (w64 (vget p0.f0 x49))))), x54, x56, x57, x58, (w64 (x49 + (1 : Int))), rfl, rfl, by rw [hrec50]; exact h⟩
   ·refine AW.condN _ rfl hc52 ?_
    refine AW.eH [1, 2, 3, 5] (H' := [(n2, (.mem (e55 p0))), (n3, (.mem (.st [(256, (.ar 1 ((Vector.replicate 256 (0 : Int)).toList.map eU8))), (1, (.fl (.slice none 0 0))), (1, (.fl (.slice none 0 0)))]))), (n4, (.mem (.st [(256, (.ar 1 (x43.toList.map eU8))), (1, (.fl (.slice none 0 0))), (1, (.fz 1 (p0.f2.map eI64)))]))), (n45, (.mem (.ar 1 (x46.map eI64))))]) (Sub.cons 0 rfl (Sub.cons 0 rfl (Sub.cons 0 rfl (Sub.cons 1 rfl (Sub.nil _))))) ?_
    exact ⟨n45, x43, x46, rfl, rfl, h⟩
  ·rintro _ _ ⟨n12, x11, x13, rfl, rfl, h⟩
   rw [F82_c5.eq_1] at h
   refine AW.seq_mid (fun ρ H => ∃ (n14 : Nat) (x15 : (List (List Int))), ρ = [(2, (.ptr n3 0)), (3, (.ptr n4 0))] ∧ H = [(n3, (.mem (.st [(256, (.ar 1 ((Vector.replicate 256 (0 : Int)).toList.map eU8))), (1, (.fl (.slice none 0 0))), (1, (.fl (.slice none 0 0)))]))), (n4, (.mem (.st [(256, (.ar 1 (x11.toList.map eU8))), (1, (.own n14 0 x15.length)), (1, (.fz 1 (p0.f2.map eI64)))]))), (n14, (.mem (.ar 1 (x15.map e35))))] ∧ F82_c0 k p0 x11 x15 = some r) ?_ ?_
   ·refine AW.sr ?_
    refine AO.c (x := .ptr n2 256) (Calm.fldPtr rfl rfl Try.underlying55 rfl sz53 _ rfl) ?_
    refine AO.c (Calm.load 0 rfl rfl rfl (At.cast (At.fldS (At.fld0 At.here)) rfl) ag53 sz53) ?_
    refine AO.c (Calm.lenL rfl rfl Try.underlying53) ?_
    refine AO.mv rfl rfl ?_
    refine AO.nH [2, 3, 5, 79, 80, 81] (H' := [(n3, (.mem (.st [(256, (.ar 1 ((Vector.replicate 256 (0 : Int)).toList.map eU8))), (1, (.fl (.slice none 0 0))), (1, (.fl (.slice none 0 0)))]))), (n4, (.mem (.st [(256, (.ar 1 (x11.toList.map eU8))), (1, (.fl (.slice none 0 0))), (1, (.fz 1 (p0.f2.map eI64)))]))), (n12, (.mem (.ar 1 (x13.map eI64))))]) (Sub.cons 1 rfl (Sub.cons 1 rfl (Sub.cons 1 rfl (Sub.nil _)))) ?_
    refine AW.block ?_
    refine AW.nilOwnFld 1 1 (fun n42 => (.st [(256, (.ar 1 (x11.toList.map eU8))), (1, (.own n42 0 0)), (1, (.fz 1 (p0.f2.map eI64)))])) rfl (fun _ => (Put.cast (Put.fldS (Put.fld0 Put.here)) rfl)) (fun _ => rfl) (fun _ => rfl) fun n42 => ?_
    refine AW.wH [2, 3, 5, 79, 80, 81] (H' := [(n3, (.mem (.st [(256, (.ar 1 ((Vector.replicate 256 (0 : Int)).toList.map eU8))), (1, (.fl (.slice none 0 0))), (1, (.fl (.slice none 0 0)))]))), (n4, (.mem (.st [(256, (.ar 1 (x11.toList.map eU8))), (1, (.own n42 0 ([] : List (List Int)).length)), (1, (.fz 1 (p0.f2.map eI64)))]))), (n42, (.mem (.ar 1 (([] : List (List Int)).map e35)))), (n12, (.mem (.ar 1 (x13.map eI64))))]) (Sub.cons 1 rfl (Sub.cons 1 rfl (Sub.cons 0 rfl (Sub.cons 0 rfl (Sub.nil _))))) ?_
    refine AW.loop (fun kq ρ H => ∃ (n16 : Nat) (x17 : (List (List Int))) (x18 : Int), ρ = [(2, (.ptr n3 0)), (3, (.ptr n4 0)), (5, (.own n12 0 x13.length)), (79, (.fz 1 (p0.f1.map e35))), (80, (eI64 (p0.f1.length : Int))), (81, (eI64 x18))] ∧ H = [(n3, (.mem (.st [(256, (.ar 1 ((Vector.replicate 256 (0 : Int)).toList.map eU8))), (1, (.fl (.slice none 0 0))), (1, (.fl (.slice none 0 0)))]))), (n4, (.mem (.st [(256, (.ar 1 (x11.toList.map eU8))), (1, (.own n16 0 x17.length)), (1, (.fz 1 (p0.f2.map eI64)))]))), (n16, (.mem (.ar 1 (x17.map e35)))), (n12, (.mem (.ar 1 (x13.map eI64))))] ∧ F82_l4 k p0 x11 x13 kq x17 x18 = some r) k ⟨n42, ([] : List (List Int)), (0 : Int), rfl, rfl, h⟩ ?_
    rintro kq20 _ _ ⟨n16, x17, x18, rfl, rfl, h⟩
    cases kq20 with
    | zero => rw [F82_l4.eq_1] at h; cases h
    | succ kq20 =>
    rw [F82_l4.eq_2] at h
    generalize hrec19 : F82_l4 k p0 x11 x13 kq20 = rec19 at h
    refine AW.sr ?_
    refine AO.c (x := eBool (decide (x18 < (p0.f1.length : Int)))) (Calm.int rfl rfl rfl rfl) ?_
    refine AO.nK [2, 3, 5, 79, 80, 81, 82] ?_
    refine AW.seq ?_
    rcases of_ite h with ⟨hc21, h⟩ | ⟨hc21, h⟩
    ·refine AW.condP _ rfl hc21 ?_
     refine AW.sK [2, 3, 5, 79, 80, 81] ?_
     refine AW.seq_mid (fun ρ H => ∃ (n22 : Nat) (x23 : (List (List Int))), ρ = [(2, (.ptr n3 0)), (3, (.ptr n4 0)), (5, (.own n12 0 x13.length)), (79, (.fz 1 (p0.f1.map e35))), (80, (eI64 (p0.f1.length : Int))), (81, (eI64 x18))] ∧ H = [(n3, (.mem (.st [(256, (.ar 1 ((Vector.replicate 256 (0 : Int)).toList.map eU8))), (1, (.fl (.slice none 0 0))), (1, (.fl (.slice none 0 0)))]))), (n4, (.mem (.st [(256, (.ar 1 (x11.toList.map eU8))), (1, (.own n22 0 x23.length)), (1, (.fz 1 (p0.f2.map eI64)))]))), (n22, (.mem (.ar 1 (x23.map e35)))), (n12, (.mem (.ar 1 (x13.map eI64))))] ∧ F82_c1 k rec19 x18 x23 = some r) ?_ ?_
     ·refine AW.block ?_
      refine AW.sr ?_
      obtain ⟨hg24, h⟩ := of_guard h
      refine AO.c (Calm.idxL (f := e35) rfl rfl rfl hg24 Try.underlying53 sz35) ?_
      refine AO.c (Calm.loadRp rfl rfl ag35 sz35) ?_
      refine AO.ag rfl rfl ?_
      refine AO.nK [2, 3, 5, 14, 79, 80, 81] ?_
      refine AW.sr ?_
      refine AO.ag rfl rfl ?_
      refine AO.nK [2, 3, 5, 14, 15, 79, 80, 81] ?_
      refine AW.seq_mid (fun ρ H => ∃ (n25 : Nat) (x26 : (List Int)), ρ = [(2, (.ptr n3 0)), (3, (.ptr n4 0)), (5, (.own n12 0 x13.length)), (15, (.own n25 0 x26.length)), (79, (.fz 1 (p0.f1.map e35))), (80, (eI64 (p0.f1.length : Int))), (81, (eI64 x18))] ∧ H = [(n3, (.mem (.st [(256, (.ar 1 ((Vector.replicate 256 (0 : Int)).toList.map eU8))), (1, (.fl (.slice none 0 0))), (1, (.fl (.slice none 0 0)))]))), (n4, (.mem (.st [(256, (.ar 1 (x11.toList.map eU8))), (1, (.own n16 0 x17.length)), (1, (.fz 1 (p0.f2.map eI64)))]))), (n16, (.mem (.ar 1 (x17.map e35)))), (n12, (.mem (.ar 1 (x13.map eI64)))), (n25, (.mem (.ar 1 (x26.map eI64))))] ∧ F82_c2 k rec19 x17 x18 x26 = some r) ?_ ?_
      ·refine AW.sr ?_
       refine AO.mv rfl rfl ?_
       refine AO.c (Calm.lenOwn rfl rfl Try.underlying35) ?_
       refine AO.mv rfl rfl ?_
       refine AO.nK [2, 3, 5, 14, 15, 79, 80, 81, 85, 86, 87] ?_
       refine AW.block ?_
       refine AW.nilOwn 15 1 rfl fun n41 => ?_
       refine AW.wH [2, 3, 5, 14, 15, 79, 80, 81, 85, 86, 87] (H' := [(n3, (.mem (.st [(256, (.ar 1 ((Vector.replicate 256 (0 : Int)).toList.map eU8))), (1, (.fl (.slice none 0 0))), (1, (.fl (.slice none 0 0)))]))), (n4, (.mem (.st [(256, (.ar 1 (x11.toList.map eU8))), (1, (.own n16 0 x17.length)), (1, (.fz 1 (p0.f2.map eI64)))]))), (n16, (.mem (.ar 1 (x17.map e35)))), (n12, (.mem (.ar 1 (x13.map eI64)))), (n41, (.mem (.ar 1 (([] : List Int).map eI64))))]) (Sub.cons 1 rfl (Sub.cons 1 rfl (Sub.cons 1 rfl (Sub.cons 1 rfl (Sub.cons 0 rfl (Sub.nil _)))))) ?_
       refine AW.loop (fun kq ρ H => ∃ (n30 : Nat) (x31 : (List Int)) (x32 : Int), ρ = [(2, (.ptr n3 0)), (3, (.ptr n4 0)), (5, (.own n12 0 x13.length)), (14, (.fz 1 ((lget p0.f1 x18).map eI64))), (15, (.own n30 0 x31.length)), (79, (.fz 1 (p0.f1.map e35))), (80, (eI64 (p0.f1.length : Int))), (81, (eI64 x18)), (85, (.own n12 0 x13.length)), (86, (eI64 (x13.length : Int))), (87, (eI64 x32))] ∧ H = [(n3, (.mem (.st [(256, (.ar 1 ((Vector.replicate 256 (0 : Int)).toList.map eU8))), (1, (.fl (.slice none 0 0))), (1, (.fl (.slice none 0 0)))]))), (n4, (.mem (.st [(256, (.ar 1 (x11.toList.map eU8))), (1, (.own n16 0 x17.length)), (1, (.fz 1 (p0.f2.map eI64)))]))), (n16, (.mem (.ar 1 (x17.map e35)))), (n12, (.mem (.ar 1 (x13.map eI64)))), (n30, (.mem (.ar 1 (x31.map eI64))))] ∧ F82_l3 k rec19 p0 x13 x17 x18 kq x31 x32 = some r) k ⟨n41, ([] : List Int), (0 : Int), rfl, rfl, h⟩ ?_
       rintro kq34 _ _ ⟨n30, x31, x32, rfl, rfl, h⟩
       cases kq34 with
       | zero => rw [F82_l3.eq_1] at h; cases h
       | succ kq34 =>
       rw [F82_l3.eq_2] at h
       generalize hrec33 : F82_l3 k rec19 p0 x13 x17 x18 kq34 = rec33 at h
       refine AW.sr ?_
       refine AO.c (x := eBool (decide (x32 < (x13.length : Int)))) (Calm.int rfl rfl rfl rfl) ?_
       refine AO.nK [2, 3, 5, 14, 15, 79, 80, 81, 85, 86, 87, 88] ?_
       refine AW.seq ?_
       rcases of_ite h with ⟨hc35, h⟩ | ⟨hc35, h⟩
       ·refine AW.condP _ rfl hc35 ?_
        refine AW.sK [2, 3, 5, 14, 15, 79, 80, 81, 85, 86, 87] ?_
        refine AW.seq ?_
        refine AW.block ?_
        refine AW.sr ?_
        obtain ⟨hg36, h⟩ := of_guard h
        refine AO.c (Calm.idxO 3 rfl rfl rfl rfl hg36 Try.underlying35 sz3) ?_
        refine AO.c (Calm.load 3 rfl rfl rfl (At.cast (At.lidx x32 hg36.1 hg36.2 At.here) (by omega)) ag3 sz3) ?_
        refine AO.ag rfl rfl ?_
        refine AO.nK [2, 3, 5, 14, 15, 17, 79, 80, 81, 85, 86, 87] ?_
        refine AW.reg ?_
        refine AO.mv rfl rfl ?_
        refine AO.mv rfl rfl ?_
        refine AO.mv rfl rfl ?_
        obtain ⟨hg37, h⟩ := of_guard h
        refine AO.c (Calm.idxL (f := eI64) rfl rfl rfl hg37 Try.underlying35 sz3) ?_
        refine AO.c (Calm.loadRp rfl rfl ag3 sz3) ?_
        refine AO.lit (Z := (eI64 (0 : Int))) (xs := (([(lget (lget p0.f1 x18) (lget x13 x32))] : List Int).map eI64)) (qs := [(0, (eI64 (lget (lget p0.f1 x18) (lget x13 x32))))]) rfl 96 rfl (by decide) rfl ⟨rfl, rfl, rfl, trivial⟩ Try.underlying35 sz3 zr3 lay3 rfl (by decide) (litOK (z := 1) [(eI64 (lget (lget p0.f1 x18) (lget x13 x32)))] rfl ⟨⟨rfl, rfl⟩, trivial⟩) rfl fun n38 => ?_
        obtain ⟨hg40, h⟩ := of_guard h
        refine AO.appendL (l := x31) (m := ([(lget (lget p0.f1 x18) (lget x13 x32))] : List Int)) 5 97 rfl (by decide) rfl rfl rfl rfl rfl (Src.ownL (f := eI64) (l := ([(lget (lget p0.f1 x18) (lget x13 x32))] : List Int)) 0 rfl) Try.underlying35 Try.underlying35 sz3 by3 zr3 rfl hg40 (by decide) fun n39 => ?_
        refine AO.ag rfl rfl ?_
        refine AO.nH [2, 3, 5, 14, 15, 79, 80, 81, 85, 86, 87] (H' := [(n3, (.mem (.st [(256, (.ar 1 ((Vector.replicate 256 (0 : Int)).toList.map eU8))), (1, (.fl (.slice none 0 0))), (1, (.fl (.slice none 0 0)))]))), (n4, (.mem (.st [(256, (.ar 1 (x11.toList.map eU8))), (1, (.own n16 0 x17.length)), (1, (.fz 1 (p0.f2.map eI64)))]))), (n16, (.mem (.ar 1 (x17.map e35)))), (n12, (.mem (.ar 1 (x13.map eI64)))), (n39, (.mem (.ar 1 ((x31 ++ ([(lget (lget p0.f1 x18) (lget x13 x32))] : List Int)).map eI64))))]) (Sub.cons 1 rfl (Sub.cons 1 rfl (Sub.cons 1 rfl (Sub.cons 1 rfl (Sub.cons 1 rfl (Sub.nil _)))))) ?_
        refine AW.reg ?_
        refine AO.c (x := eI64 (w64 (x32 + (1 : Int)))) (Calm.int rfl rfl rfl rfl) ?_
        refine AO.mv rfl rfl ?_
        refine AO.nK [2, 3, 5, 14, 15, 79, 80, 81, 85, 86, 87] ?_
        exact ⟨kq34, Nat.lt_succ_self _, n39, (x31 ++ ([(lget (lget p0.f1 x18) (lget x13 x32))] : List Int)), (w64 (x32 + (1 : Int))), rfl, rfl, by rw [hrec33]; exact h⟩
       ·refine AW.condN _ rfl hc35 ?_
        refine AW.eK [2, 3, 5, 15, 79, 80, 81] ?_
        exact ⟨n30, x31, rfl, rfl, h⟩
      ·rintro _ _ ⟨n25, x26, rfl, rfl, h⟩
       rw [F82_c2.eq_1] at h
       refine AW.reg ?_
       refine AO.c (x := .ptr n4 256) (Calm.fldPtr rfl rfl Try.underlying55 rfl sz53 _ rfl) ?_
       refine AO.c (Calm.load 1 rfl rfl rfl (At.cast (At.fldS (At.fld0 At.here)) rfl) ag53 sz53) ?_
       refine AO.mv rfl rfl ?_
       refine AO.freezeS 4 [(15, (.fz 1 (x26.map eI64))), (101, (.fz 1 (x26.map eI64)))] rfl ⟨fz_all rfl, fz_all rfl, trivial⟩ ?_
       refine AO.lit (Z := (.fl (.slice none 0 0))) (xs := (([x26] : List (List Int)).map e35)) (qs := [(0, (.fz 1 (x26.map eI64)))]) rfl 102 rfl (by decide) rfl ⟨rfl, rfl, rfl, trivial⟩ Try.underlying53 sz35 zr35 lay35 rfl (by decide) (litOK (z := 1) [(.fz 1 (x26.map eI64))] rfl ⟨⟨rfl, rfl⟩, trivial⟩) rfl fun n27 => ?_
       obtain ⟨hg29, h⟩ := of_guard h
       refine AO.appendL (l := x17) (m := ([x26] : List (List Int))) 3 103 rfl (by decide) rfl rfl rfl rfl rfl (Src.ownL (f := e35) (l := ([x26] : List (List Int))) 0 rfl) Try.underlying53 Try.underlying53 sz35 by35 zr35 rfl hg29 (by decide) fun n28 => ?_
       refine AO.c (x := .ptr n4 256) (Calm.fldPtr rfl rfl Try.underlying55 rfl sz53 _ rfl) ?_
       refine AO.store (X' := (.st [(256, (.ar 1 (x11.toList.map eU8))), (1, (.own n28 0 (x17 ++ ([x26] : List (List Int))).length)), (1, (.fz 1 (p0.f2.map eI64)))])) 2 rfl rfl rfl rfl rfl rfl (Put.cast (Put.fldS (Put.fld0 Put.here)) rfl) rfl rfl sz53 rfl ?_
       refine AO.nH [2, 3, 5, 79, 80, 81] (H' := [(n3, (.mem (.st [(256, (.ar 1 ((Vector.replicate 256 (0 : Int)).toList.map eU8))), (1, (.fl (.slice none 0 0))), (1, (.fl (.slice none 0 0)))]))), (n4, (.mem (.st [(256, (.ar 1 (x11.toList.map eU8))), (1, (.own n28 0 (x17 ++ ([x26] : List (List Int))).length)), (1, (.fz 1 (p0.f2.map eI64)))]))), (n28, (.mem (.ar 1 ((x17 ++ ([x26] : List (List Int))).map e35)))), (n12, (.mem (.ar 1 (x13.map eI64))))]) (Sub.cons 1 rfl (Sub.cons 1 rfl (Sub.cons 1 rfl (Sub.cons 1 rfl (Sub.nil _))))) ?_
       exact ⟨n28, (x17 ++ ([x26] : List (List Int))), rfl, rfl, h⟩
     ·rintro _ _ ⟨n22, x23, rfl, rfl, h⟩
      rw [F82_c1.eq_1] at h
      refine AW.reg ?_
      refine AO.c (x := eI64 (w64 (x18 + (1 : Int)))) (Calm.int rfl rfl rfl rfl) ?_
      refine AO.mv rfl rfl ?_
      refine AO.nK [2, 3, 5, 79, 80, 81] ?_
      exact ⟨kq20, Nat.lt_succ_self _, n22, x23, (w64 (x18 + (1 : Int))), rfl, rfl, by rw [hrec19]; exact h⟩
    ·refine AW.condN _ rfl hc21 ?_
     refine AW.eH [2, 3] (H' := [(n3, (.mem (.st [(256, (.ar 1 ((Vector.replicate 256 (0 : Int)).toList.map eU8))), (1, (.fl (.slice none 0 0))), (1, (.fl (.slice none 0 0)))]))), (n4, (.mem (.st [(256, (.ar 1 (x11.toList.map eU8))), (1, (.own n16 0 x17.length)), (1, (.fz 1 (p0.f2.map eI64)))]))), (n16, (.mem (.ar 1 (x17.map e35))))]) (Sub.cons 0 rfl (Sub.cons 0 rfl (Sub.cons 0 rfl (Sub.nil _)))) ?_
     exact ⟨n16, x17, rfl, rfl, h⟩
   ·rintro _ _ ⟨n14, x15, rfl, rfl, h⟩
    rw [F82_c0.eq_1] at h
    refine AW.sr ?_
    refine AO.freezeFld (X' := (.st [(256, (.ar 1 (x11.toList.map eU8))), (1, (.fz 1 (x15.map e35))), (1, (.fz 1 (p0.f2.map eI64)))])) (els' := (x15.map e35)) 2 1 rfl rfl (Put.cast (Put.fldS (Put.fld0 Put.here)) rfl) (by simp) (by rw [own_all]) rfl rfl (by decide) ?_
    refine AO.c (x := e55 (S55.mk x11 x15 p0.f2)) (Calm.load 1 rfl rfl rfl (At.cast At.here rfl) ag55 sz55) ?_
    refine AO.store (X' := (e55 (S55.mk x11 x15 p0.f2))) 0 rfl rfl rfl rfl rfl rfl (Put.cast Put.here rfl) rfl rfl sz55 rfl ?_
    refine AO.nH [2] (H' := [(n3, (.mem (e55 (S55.mk x11 x15 p0.f2))))]) (Sub.cons 0 rfl (Sub.nil _)) ?_
    refine AW.rK [2] ?_
    have hr := Option.some.inj h
    subst hr
    exact ⟨[(e55 (S55.mk x11 x15 p0.f2))], ⟨⟨_, 0, rfl, rfl, ag55, sz55⟩, trivial⟩, rfl⟩
end Go.Avl.T7
/- bosket/mini.Of; printed by avmain.py. -/
namespace Go.Avl.T7
open Go Go.RowKit Go.Proofs Go.Avl
set_option linter.unusedVariables false
set_option maxRecDepth 100000
set_option maxHeartbeats 4000000
set_option linter.unusedSimpArgs false
attribute [local irreducible] AW AO AQ Spec SpecH Calm

def F63_c0 (k : Nat) (t7 : S55) (x11 : (List (List Int))) (x13 : (List Int)) : Option (S55 × Int) :=
  (F82 k (S55.mk t7.f0 x11 x13)).bind fun t14 =>
  (F79 k t14).bind fun t15 =>
  some (t15, (0 : Int))
def F63_c1 (k : Nat) (rec21 : ((List (List Int)) → (List Int) → Int → Option (S55 × Int))) (x20 : Int) (x25 : (List (List Int))) (x27 : (List Int)) : Option (S55 × Int) :=
  rec21 x25 x27 (w64 (x20 + (1 : Int)))
def F63_c2 (k : Nat) (rec21 : ((List (List Int)) → (List Int) → Int → Option (S55 × Int))) (t7 : S55) (x17 : (List (List Int))) (x19 : (List Int)) (x20 : Int) (x31 : (List Int)) : Option (S55 × Int) :=
  if (x17 ++ ([x31] : List (List Int))).length * 24 ≤ 140737488355328 then if 0 ≤ x20 ∧ x20 < (t7.f2.length : Int) then if (x19 ++ ([(lget t7.f2 x20)] : List Int)).length * 8 ≤ 140737488355328 then F63_c1 k rec21 x20 (x17 ++ ([x31] : List (List Int))) (x19 ++ ([(lget t7.f2 x20)] : List Int))
  else none
  else none
  else none
def F63_c3 (k : Nat) (rec43 : ((List Int) → Int → Option (S55 × Int))) (x41 : (List Int)) (x42 : Int) (x47 : Int) : Option (S55 × Int) :=
  if (x41 ++ ([x47] : List Int)).length * 8 ≤ 140737488355328 then rec43 (x41 ++ ([x47] : List Int)) (w64 (x42 + (1 : Int)))
  else none
def F63_l4 (k : Nat) (rec21 : ((List (List Int)) → (List Int) → Int → Option (S55 × Int))) (t7 : S55) (t8 : (List Int)) (x17 : (List (List Int))) (x19 : (List Int)) (x20 : Int) : Nat → (List Int) → Int → Option (S55 × Int)
  | 0, _, _ => none
  | j + 1, x41, x42 =>
    if x42 < ((lget t7.f1 x20).length : Int) then if 0 ≤ x42 ∧ x42 < ((lget t7.f1 x20).length : Int) then if (0 : Int) ≤ (lget (lget t7.f1 x20) x42) then if 0 ≤ (lget (lget t7.f1 x20) x42) ∧ (lget (lget t7.f1 x20) x42) < (t8.length : Int) then F63_c3 k (F63_l4 k rec21 t7 t8 x17 x19 x20 j) x41 x42 (lget t8 (lget (lget t7.f1 x20) x42))
    else none
    else F63_c3 k (F63_l4 k rec21 t7 t8 x17 x19 x20 j) x41 x42 (lget (lget t7.f1 x20) x42)
    else none
    else F63_c2 k rec21 t7 x17 x19 x20 x41
def F63_l5 (k : Nat) (t7 : S55) (t8 : (List Int)) : Nat → (List (List Int)) → (List Int) → Int → Option (S55 × Int)
  | 0, _, _, _ => none
  | j + 1, x17, x19, x20 =>
    if x20 < (t7.f1.length : Int) then if 0 ≤ x20 ∧ x20 < (t8.length : Int) then if (lget t8 x20) ≠ (x17.length : Int) then F63_c1 k (F63_l5 k t7 t8 j) x20 x17 x19
    else if 0 ≤ x20 ∧ x20 < (t7.f1.length : Int) then F63_l4 k (F63_l5 k t7 t8 j) t7 t8 x17 x19 x20 k ([] : List Int) (0 : Int)
    else none
    else none
    else F63_c0 k t7 x17 x19
def F63 (k : Nat) (p0 : S55) : Option (S55 × Int) :=
  (F78 k p0).bind fun t4 =>
  if (!t4) = true then some ((S55.mk (Vector.replicate 256 (0 : Int)) ([] : List (List Int)) ([] : List Int)), (1 : Int))
  else (F80 k p0).bind fun t6 =>
  (F79 k t6).bind fun t7 =>
  (F81 k t7).bind fun t8 =>
  F63_l5 k t7 t8 k ([] : List (List Int)) ([] : List Int) (0 : Int)
theorem F63_spec {k : Nat} {p0 : S55} {r : (S55 × Int)} (h : F63 k p0 = some r) : Spec Try.prog 63 [(e55 p0)] (.tup [(e55 r.1), (eI64 r.2)]) := by
  rw [F63.eq_1] at h
  refine Spec.intro (res := [.cell 2 55, .tmp 3]) Try.func63 rfl rfl rfl (Nat.le_of_ble_eq_true rfl) ?_
  refine AW.sr ?_
  refine AO.box rfl 1 rfl (by decide) rfl rfl rfl fun n2 => ?_
  refine AO.alloc rfl 2 rfl (by decide) rfl zr55 lay55 fun n3 => ?_
  refine AO.ag rfl rfl ?_
  refine AO.nH [1, 2] (H' := [(n2, (.mem (e55 p0))), (n3, (.mem (.st [(256, (.ar 1 ((Vector.replicate 256 (0 : Int)).toList.map eU8))), (1, (.fl (.slice none 0 0))), (1, (.fl (.slice none 0 0)))])))]) (Sub.cons 1 rfl (Sub.cons 0 rfl (Sub.nil _))) ?_
  refine AW.seq ?_
  refine AW.sr ?_
  refine AO.c (Calm.load 0 rfl rfl rfl (At.cast At.here rfl) ag55 sz55) ?_
  obtain ⟨t4, et4, h⟩ := of_bind h
  refine AO.callS [(e55 p0)] (eBool t4) 11 rfl (by decide) ok78 rfl rfl rfl ⟨rfl, rfl, trivial⟩ (F78_spec et4) ?_
  refine AO.c (Calm.not rfl rfl) ?_
  refine AO.nK [1, 2, 12] ?_
  rcases of_ite h with ⟨hc5, h⟩ | ⟨hc5, h⟩
  ·refine AW.condT' _ rfl hc5 ?_
   refine AW.sr ?_
   refine AO.c (x := .st [(256, (.ar 1 ((Vector.replicate 256 (0 : Int)).toList.map eU8))), (1, (.fl (.slice none 0 0))), (1, (.fl (.slice none 0 0)))]) (Calm.build (qs := []) rfl trivial Try.underlying55 rfl zr55 lay55 .nil rfl) ?_
   refine AO.store (X' := (.st [(256, (.ar 1 ((Vector.replicate 256 (0 : Int)).toList.map eU8))), (1, (.fl (.slice none 0 0))), (1, (.fl (.slice none 0 0)))])) 1 rfl rfl rfl rfl rfl rfl (Put.cast Put.here rfl) rfl rfl sz55 rfl ?_
   refine AO.ag rfl rfl ?_
   refine AO.nH [2, 3] (H' := [(n3, (.mem (.st [(256, (.ar 1 ((Vector.replicate 256 (0 : Int)).toList.map eU8))), (1, (.fl (.slice none 0 0))), (1, (.fl (.slice none 0 0)))])))]) (Sub.cons 1 rfl (Sub.nil _)) ?_
   refine AW.coeFld (X' := (.st [(256, (.ar 1 ((Vector.replicate 256 (0 : Int)).toList.map eU8))), (1, (.fz 1 (([] : List (List Int)).map e35))), (1, (.fl (.slice none 0 0)))])) 0 rfl (Put.cast (Put.fldS (Put.fld0 Put.here)) rfl) rfl (nil_fz 1) rfl rfl ?_
   refine AW.coeFld (X' := (.st [(256, (.ar 1 ((Vector.replicate 256 (0 : Int)).toList.map eU8))), (1, (.fz 1 (([] : List (List Int)).map e35))), (1, (.fz 1 (([] : List Int).map eI64)))])) 0 rfl (Put.cast (Put.fldS (Put.fldS (Put.fld0 Put.here))) rfl) rfl (nil_fz 1) rfl rfl ?_
   refine AW.rK [2, 3] ?_
   have hr := Option.some.inj h
   subst hr
   exact ⟨[(e55 (S55.mk (Vector.replicate 256 (0 : Int)) ([] : List (List Int)) ([] : List Int))), (eI64 (1 : Int))], ⟨⟨_, 0, rfl, rfl, ag55, sz55⟩, rfl, rfl, trivial⟩, rfl⟩
  ·refine AW.condF' _ rfl hc5 ?_
   refine AW.sK [1, 2] ?_
   refine AW.sr ?_
   refine AO.c (Calm.load 0 rfl rfl rfl (At.cast At.here rfl) ag55 sz55) ?_
   obtain ⟨t6, et6, h⟩ := of_bind h
   refine AO.callS [(e55 p0)] (e55 t6) 15 rfl (by decide) ok80 rfl rfl rfl ⟨rfl, rfl, trivial⟩ (F80_spec et6) ?_
   obtain ⟨t7, et7, h⟩ := of_bind h
   refine AO.callS [(e55 t6)] (e55 t7) 16 rfl (by decide) ok79 rfl rfl rfl ⟨rfl, rfl, trivial⟩ (F79_spec et7) ?_
   refine AO.store (X' := (e55 t7)) 0 rfl rfl rfl rfl rfl rfl (Put.cast Put.here rfl) rfl rfl sz55 rfl ?_
   refine AO.nK [1, 2] ?_
   refine AW.sr ?_
   refine AO.c (Calm.load 0 rfl rfl rfl (At.cast At.here rfl) ag55 sz55) ?_
   obtain ⟨t8, et8, h⟩ := of_bind h
   refine AO.callS [(e55 t7)] (.fz 1 (t8.map eI64)) 18 rfl (by decide) ok81 rfl rfl rfl ⟨rfl, rfl, trivial⟩ (F81_spec et8) ?_
   refine AO.ag rfl rfl ?_
   refine AO.nK [1, 2, 4] ?_
   refine AW.sr ?_
   refine AO.c (x := .ptr n2 0) (Calm.fldPtr rfl rfl Try.underlying55 rfl sz52 _ rfl) ?_
   refine AO.c (Calm.load 0 rfl rfl rfl (At.cast (At.fld0 At.here) rfl) ag52 (by rw [sz52]; simp [AV.size])) ?_
   refine AO.c (x := .st [(256, (.ar 1 (t7.f0.toList.map eU8))), (1, (.fl (.slice none 0 0))), (1, (.fl (.slice none 0 0)))]) (Calm.build (qs := [(0, (.ar 1 (t7.f0.toList.map eU8)))]) rfl ⟨rfl, rfl, rfl, trivial⟩ Try.underlying55 rfl zr55 lay55 (.cons rfl rfl (vec_size _ _) (vec_size _ _) (Put.cast (Put.fld0 Put.here) rfl) .nil) rfl) ?_
   refine AO.alloc rfl 5 rfl (by decide) rfl zr55 lay55 fun n9 => ?_
   refine AO.store (X' := (.st [(256, (.ar 1 (t7.f0.toList.map eU8))), (1, (.fl (.slice none 0 0))), (1, (.fl (.slice none 0 0)))])) 0 rfl rfl rfl rfl rfl rfl (Put.cast Put.here rfl) rfl rfl sz55 rfl ?_
   refine AO.nH [1, 2, 4, 5] (H' := [(n2, (.mem (e55 t7))), (n3, (.mem (.st [(256, (.ar 1 ((Vector.replicate 256 (0 : Int)).toList.map eU8))), (1, (.fl (.slice none 0 0))), (1, (.fl (.slice none 0 0)))]))), (n9, (.mem (.st [(256, (.ar 1 (t7.f0.toList.map eU8))), (1, (.fl (.slice none 0 0))), (1, (.fl (.slice none 0 0)))])))]) (Sub.cons 1 rfl (Sub.cons 1 rfl (Sub.cons 0 rfl (Sub.nil _)))) ?_
   refine AW.seq_mid (fun ρ H => ∃ (n10 : Nat) (n12 : Nat) (x11 : (List (List Int))) (x13 : (List Int)), ρ = [(2, (.ptr n3 0)), (5, (.ptr n9 0))] ∧ H = [(n3, (.mem (.st [(256, (.ar 1 ((Vector.replicate 256 (0 : Int)).toList.map eU8))), (1, (.fl (.slice none 0 0))), (1, (.fl (.slice none 0 0)))]))), (n9, (.mem (.st [(256, (.ar 1 (t7.f0.toList.map eU8))), (1, (.own n10 0 x11.length)), (1, (.own n12 0 x13.length))]))), (n10, (.mem (.ar 1 (x11.map e35)))), (n12, (.mem (.ar 1 (x13.map eI64))))] ∧ F63_c0 k t7 x11 x13 = some r) ?_ ?_
   ·refine AW.sr ?_
    refine AO.c (x := .ptr n2 256) (Calm.fldPtr rfl rfl Try.underlying55 rfl sz53 _ rfl) ?_
    refine AO.c (Calm.load 0 rfl rfl rfl (At.cast (At.fldS (At.fld0 At.here)) rfl) ag53 sz53) ?_
    refine AO.c (Calm.lenL rfl rfl Try.underlying53) ?_
    refine AO.mv rfl rfl ?_
    refine AO.nK [1, 2, 4, 5, 24, 25] ?_
    refine AW.block ?_
    refine AW.nilOwnFld 2 1 (fun n54 => (.st [(256, (.ar 1 (t7.f0.toList.map eU8))), (1, (.own n54 0 0)), (1, (.fl (.slice none 0 0)))])) rfl (fun _ => (Put.cast (Put.fldS (Put.fld0 Put.here)) rfl)) (fun _ => rfl) (fun _ => rfl) fun n54 => ?_
    refine AW.nilOwnFld 3 1 (fun n55 => (.st [(256, (.ar 1 (t7.f0.toList.map eU8))), (1, (.own n54 0 ([] : List (List Int)).length)), (1, (.own n55 0 0))])) rfl (fun _ => (Put.cast (Put.fldS (Put.fldS (Put.fld0 Put.here))) rfl)) (fun _ => rfl) (fun _ => rfl) fun n55 => ?_
    refine AW.wH [1, 2, 4, 5, 24, 25] (H' := [(n2, (.mem (e55 t7))), (n3, (.mem (.st [(256, (.ar 1 ((Vector.replicate 256 (0 : Int)).toList.map eU8))), (1, (.fl (.slice none 0 0))), (1, (.fl (.slice none 0 0)))]))), (n9, (.mem (.st [(256, (.ar 1 (t7.f0.toList.map eU8))), (1, (.own n54 0 ([] : List (List Int)).length)), (1, (.own n55 0 ([] : List Int).length))]))), (n54, (.mem (.ar 1 (([] : List (List Int)).map e35)))), (n55, (.mem (.ar 1 (([] : List Int).map eI64))))]) (Sub.cons 2 rfl (Sub.cons 2 rfl (Sub.cons 2 rfl (Sub.cons 1 rfl (Sub.cons 0 rfl (Sub.nil _)))))) ?_
    refine AW.loop (fun kq ρ H => ∃ (n16 : Nat) (n18 : Nat) (x17 : (List (List Int))) (x19 : (List Int)) (x20 : Int), ρ = [(1, (.ptr n2 0)), (2, (.ptr n3 0)), (4, (.fz 1 (t8.map eI64))), (5, (.ptr n9 0)), (24, (eI64 (t7.f1.length : Int))), (25, (eI64 x20))] ∧ H = [(n2, (.mem (e55 t7))), (n3, (.mem (.st [(256, (.ar 1 ((Vector.replicate 256 (0 : Int)).toList.map eU8))), (1, (.fl (.slice none 0 0))), (1, (.fl (.slice none 0 0)))]))), (n9, (.mem (.st [(256, (.ar 1 (t7.f0.toList.map eU8))), (1, (.own n16 0 x17.length)), (1, (.own n18 0 x19.length))]))), (n16, (.mem (.ar 1 (x17.map e35)))), (n18, (.mem (.ar 1 (x19.map eI64))))] ∧ F63_l5 k t7 t8 kq x17 x19 x20 = some r) k ⟨n54, n55, ([] : List (List Int)), ([] : List Int), (0 : Int), rfl, rfl, h⟩ ?_
    rintro kq22 _ _ ⟨n16, n18, x17, x19, x20, rfl, rfl, h⟩
    cases kq22 with
    | zero => rw [F63_l5.eq_1] at h; cases h
    | succ kq22 =>
    rw [F63_l5.eq_2] at h
    generalize hrec21 : F63_l5 k t7 t8 kq22 = rec21 at h
    refine AW.sr ?_
    refine AO.c (x := eBool (decide (x20 < (t7.f1.length : Int)))) (Calm.int rfl rfl rfl rfl) ?_
    refine AO.nK [1, 2, 4, 5, 24, 25, 26] ?_
    refine AW.seq ?_
    rcases of_ite h with ⟨hc23, h⟩ | ⟨hc23, h⟩
    ·refine AW.condP _ rfl hc23 ?_
     refine AW.sK [1, 2, 4, 5, 24, 25] ?_
     refine AW.seq_mid (fun ρ H => ∃ (n24 : Nat) (n26 : Nat) (x25 : (List (List Int))) (x27 : (List Int)), ρ = [(1, (.ptr n2 0)), (2, (.ptr n3 0)), (4, (.fz 1 (t8.map eI64))), (5, (.ptr n9 0)), (24, (eI64 (t7.f1.length : Int))), (25, (eI64 x20))] ∧ H = [(n2, (.mem (e55 t7))), (n3, (.mem (.st [(256, (.ar 1 ((Vector.replicate 256 (0 : Int)).toList.map eU8))), (1, (.fl (.slice none 0 0))), (1, (.fl (.slice none 0 0)))]))), (n9, (.mem (.st [(256, (.ar 1 (t7.f0.toList.map eU8))), (1, (.own n24 0 x25.length)), (1, (.own n26 0 x27.length))]))), (n24, (.mem (.ar 1 (x25.map e35)))), (n26, (.mem (.ar 1 (x27.map eI64))))] ∧ F63_c1 k rec21 x20 x25 x27 = some r) ?_ ?_
     ·refine AW.block ?_
      refine AW.sr ?_
      refine AO.mv rfl rfl ?_
      refine AO.ag rfl rfl ?_
      refine AO.nK [1, 2, 4, 5, 6, 24, 25] ?_
      refine AW.seq ?_
      refine AW.seq ?_
      refine AW.regQ (by rfl) (by decide +kernel) ?_
      refine AQ.c (Calm.move rfl rfl) ?_
      refine AQ.c (Calm.move rfl rfl) ?_
      obtain ⟨hg28, h⟩ := of_guard h
      refine AQ.c (Calm.idxL (f := eI64) rfl rfl rfl hg28 Try.underlying35 sz3) ?_
      refine AQ.c (Calm.loadRp rfl rfl ag3 sz3) ?_
      refine AQ.c (x := .ptr n9 256) (Calm.fldPtr rfl rfl Try.underlying55 rfl sz53 _ rfl) ?_
      refine AQ.c (Calm.load 2 rfl rfl rfl (At.cast (At.fldS (At.fld0 At.here)) rfl) ag53 sz53) ?_
      refine AQ.c (Calm.lenOwn rfl rfl Try.underlying53) ?_
      refine AQ.c (x := eBool (decide ((lget t8 x20) ≠ (x17.length : Int)))) (Calm.int rfl rfl rfl rfl) ?_
      refine AQ.nK [1, 2, 4, 5, 6, 24, 25, 35] ?_
      rcases of_ite h with ⟨hc29, h⟩ | ⟨hc29, h⟩
      ·refine AW.condP _ rfl hc29 ?_
       refine AW.eK [1, 2, 4, 5, 24, 25] ?_
       exact ⟨n16, n18, x17, x19, rfl, rfl, h⟩
      ·refine AW.condN _ rfl hc29 ?_
       refine AW.sK [1, 2, 4, 5, 6, 24, 25] ?_
       refine AW.sr ?_
       refine AO.ag rfl rfl ?_
       refine AO.nK [1, 2, 4, 5, 6, 7, 24, 25] ?_
       refine AW.seq_mid (fun ρ H => ∃ (n30 : Nat) (x31 : (List Int)), ρ = [(1, (.ptr n2 0)), (2, (.ptr n3 0)), (4, (.fz 1 (t8.map eI64))), (5, (.ptr n9 0)), (6, (eI64 x20)), (7, (.own n30 0 x31.length)), (24, (eI64 (t7.f1.length : Int))), (25, (eI64 x20))] ∧ H = [(n2, (.mem (e55 t7))), (n3, (.mem (.st [(256, (.ar 1 ((Vector.replicate 256 (0 : Int)).toList.map eU8))), (1, (.fl (.slice none 0 0))), (1, (.fl (.slice none 0 0)))]))), (n9, (.mem (.st [(256, (.ar 1 (t7.f0.toList.map eU8))), (1, (.own n16 0 x17.length)), (1, (.own n18 0 x19.length))]))), (n16, (.mem (.ar 1 (x17.map e35)))), (n18, (.mem (.ar 1 (x19.map eI64)))), (n30, (.mem (.ar 1 (x31.map eI64))))] ∧ F63_c2 k rec21 t7 x17 x19 x20 x31 = some r) ?_ ?_
       ·refine AW.sr ?_
        refine AO.c (x := .ptr n2 256) (Calm.fldPtr rfl rfl Try.underlying55 rfl sz53 _ rfl) ?_
        refine AO.c (Calm.load 0 rfl rfl rfl (At.cast (At.fldS (At.fld0 At.here)) rfl) ag53 sz53) ?_
        refine AO.mv rfl rfl ?_
        obtain ⟨hg39, h⟩ := of_guard h
        refine AO.c (Calm.idxL (f := e35) rfl rfl rfl hg39 Try.underlying53 sz35) ?_
        refine AO.c (Calm.loadRp rfl rfl ag35 sz35) ?_
        refine AO.c (Calm.lenL rfl rfl Try.underlying35) ?_
        refine AO.mv rfl rfl ?_
        refine AO.nK [1, 2, 4, 5, 6, 7, 24, 25, 40, 41, 42] ?_
        refine AW.block ?_
        refine AW.nilOwn 7 1 rfl fun n53 => ?_
        refine AW.wH [1, 2, 4, 5, 6, 7, 24, 25, 40, 41, 42] (H' := [(n2, (.mem (e55 t7))), (n3, (.mem (.st [(256, (.ar 1 ((Vector.replicate 256 (0 : Int)).toList.map eU8))), (1, (.fl (.slice none 0 0))), (1, (.fl (.slice none 0 0)))]))), (n9, (.mem (.st [(256, (.ar 1 (t7.f0.toList.map eU8))), (1, (.own n16 0 x17.length)), (1, (.own n18 0 x19.length))]))), (n16, (.mem (.ar 1 (x17.map e35)))), (n18, (.mem (.ar 1 (x19.map eI64)))), (n53, (.mem (.ar 1 (([] : List Int).map eI64))))]) (Sub.cons 1 rfl (Sub.cons 1 rfl (Sub.cons 1 rfl (Sub.cons 1 rfl (Sub.cons 1 rfl (Sub.cons 0 rfl (Sub.nil _))))))) ?_
        refine AW.loop (fun kq ρ H => ∃ (n40 : Nat) (x41 : (List Int)) (x42 : Int), ρ = [(1, (.ptr n2 0)), (2, (.ptr n3 0)), (4, (.fz 1 (t8.map eI64))), (5, (.ptr n9 0)), (6, (eI64 x20)), (7, (.own n40 0 x41.length)), (24, (eI64 (t7.f1.length : Int))), (25, (eI64 x20)), (40, (.fz 1 ((lget t7.f1 x20).map eI64))), (41, (eI64 ((lget t7.f1 x20).length : Int))), (42, (eI64 x42))] ∧ H = [(n2, (.mem (e55 t7))), (n3, (.mem (.st [(256, (.ar 1 ((Vector.replicate 256 (0 : Int)).toList.map eU8))), (1, (.fl (.slice none 0 0))), (1, (.fl (.slice none 0 0)))]))), (n9, (.mem (.st [(256, (.ar 1 (t7.f0.toList.map eU8))), (1, (.own n16 0 x17.length)), (1, (.own n18 0 x19.length))]))), (n16, (.mem (.ar 1 (x17.map e35)))), (n18, (.mem (.ar 1 (x19.map eI64)))), (n40, (.mem (.ar 1 (x41.map eI64))))] ∧ F63_l4 k rec21 t7 t8 x17 x19 x20 kq x41 x42 = some r) k ⟨n53, ([] : List Int), (0 : Int), rfl, rfl, h⟩ ?_
        rintro kq44 _ _ ⟨n40, x41, x42, rfl, rfl, h⟩
        cases kq44 with
        | zero => rw [F63_l4.eq_1] at h; cases h
        | succ kq44 =>
        rw [F63_l4.eq_2] at h
        generalize hrec43 : F63_l4 k rec21 t7 t8 x17 x19 x20 kq44 = rec43 at h
        refine AW.sr ?_
        refine AO.c (x := eBool (decide (x42 < ((lget t7.f1 x20).length : Int)))) (Calm.int rfl rfl rfl rfl) ?_
        refine AO.nK [1, 2, 4, 5, 6, 7, 24, 25, 40, 41, 42, 43] ?_
        refine AW.seq ?_
        rcases of_ite h with ⟨hc45, h⟩ | ⟨hc45, h⟩
        ·refine AW.condP _ rfl hc45 ?_
         refine AW.sK [1, 2, 4, 5, 6, 7, 24, 25, 40, 41, 42] ?_
         refine AW.seq ?_
         refine AW.block ?_
         refine AW.sr ?_
         obtain ⟨hg46, h⟩ := of_guard h
         refine AO.c (Calm.idxL (f := eI64) rfl rfl rfl hg46 Try.underlying35 sz3) ?_
         refine AO.c (Calm.loadRp rfl rfl ag3 sz3) ?_
         refine AO.ag rfl rfl ?_
         refine AO.nK [1, 2, 4, 5, 6, 7, 9, 24, 25, 40, 41, 42] ?_
         refine AW.seq_mid (fun ρ H => ∃ (x47 : Int), ρ = [(1, (.ptr n2 0)), (2, (.ptr n3 0)), (4, (.fz 1 (t8.map eI64))), (5, (.ptr n9 0)), (6, (eI64 x20)), (7, (.own n40 0 x41.length)), (9, (eI64 x47)), (24, (eI64 (t7.f1.length : Int))), (25, (eI64 x20)), (40, (.fz 1 ((lget t7.f1 x20).map eI64))), (41, (eI64 ((lget t7.f1 x20).length : Int))), (42, (eI64 x42))] ∧ H = [(n2, (.mem (e55 t7))), (n3, (.mem (.st [(256, (.ar 1 ((Vector.replicate 256 (0 : Int)).toList.map eU8))), (1, (.fl (.slice none 0 0))), (1, (.fl (.slice none 0 0)))]))), (n9, (.mem (.st [(256, (.ar 1 (t7.f0.toList.map eU8))), (1, (.own n16 0 x17.length)), (1, (.own n18 0 x19.length))]))), (n16, (.mem (.ar 1 (x17.map e35)))), (n18, (.mem (.ar 1 (x19.map eI64)))), (n40, (.mem (.ar 1 (x41.map eI64))))] ∧ F63_c3 k rec43 x41 x42 x47 = some r) ?_ ?_
         ·refine AW.sr ?_
          refine AO.mv rfl rfl ?_
          refine AO.c (x := eBool (decide ((0 : Int) ≤ (lget (lget t7.f1 x20) x42)))) (Calm.int rfl rfl rfl rfl) ?_
          refine AO.nK [1, 2, 4, 5, 6, 7, 9, 24, 25, 40, 41, 42, 47] ?_
          rcases of_ite h with ⟨hc51, h⟩ | ⟨hc51, h⟩
          ·refine AW.condP _ rfl hc51 ?_
           refine AW.reg ?_
           refine AO.mv rfl rfl ?_
           refine AO.mv rfl rfl ?_
           obtain ⟨hg52, h⟩ := of_guard h
           refine AO.c (Calm.idxL (f := eI64) rfl rfl rfl hg52 Try.underlying35 sz3) ?_
           refine AO.c (Calm.loadRp rfl rfl ag3 sz3) ?_
           refine AO.ag rfl rfl ?_
           refine AO.nK [1, 2, 4, 5, 6, 7, 9, 24, 25, 40, 41, 42] ?_
           exact ⟨(lget t8 (lget (lget t7.f1 x20) x42)), rfl, rfl, h⟩
          ·refine AW.condN _ rfl hc51 ?_
           refine AW.sK [1, 2, 4, 5, 6, 7, 9, 24, 25, 40, 41, 42] ?_
           exact ⟨(lget (lget t7.f1 x20) x42), rfl, rfl, h⟩
         ·rintro _ _ ⟨x47, rfl, rfl, h⟩
          rw [F63_c3.eq_1] at h
          refine AW.reg ?_
          refine AO.mv rfl rfl ?_
          refine AO.mv rfl rfl ?_
          refine AO.lit (Z := (eI64 (0 : Int))) (xs := (([x47] : List Int).map eI64)) (qs := [(0, (eI64 x47))]) rfl 54 rfl (by decide) rfl ⟨rfl, rfl, rfl, trivial⟩ Try.underlying35 sz3 zr3 lay3 rfl (by decide) (litOK (z := 1) [(eI64 x47)] rfl ⟨⟨rfl, rfl⟩, trivial⟩) rfl fun n48 => ?_
          obtain ⟨hg50, h⟩ := of_guard h
          refine AO.appendL (l := x41) (m := ([x47] : List Int)) 6 55 rfl (by decide) rfl rfl rfl rfl rfl (Src.ownL (f := eI64) (l := ([x47] : List Int)) 0 rfl) Try.underlying35 Try.underlying35 sz3 by3 zr3 rfl hg50 (by decide) fun n49 => ?_
          refine AO.ag rfl rfl ?_
          refine AO.nH [1, 2, 4, 5, 6, 7, 24, 25, 40, 41, 42] (H' := [(n2, (.mem (e55 t7))), (n3, (.mem (.st [(256, (.ar 1 ((Vector.replicate 256 (0 : Int)).toList.map eU8))), (1, (.fl (.slice none 0 0))), (1, (.fl (.slice none 0 0)))]))), (n9, (.mem (.st [(256, (.ar 1 (t7.f0.toList.map eU8))), (1, (.own n16 0 x17.length)), (1, (.own n18 0 x19.length))]))), (n16, (.mem (.ar 1 (x17.map e35)))), (n18, (.mem (.ar 1 (x19.map eI64)))), (n49, (.mem (.ar 1 ((x41 ++ ([x47] : List Int)).map eI64))))]) (Sub.cons 1 rfl (Sub.cons 1 rfl (Sub.cons 1 rfl (Sub.cons 1 rfl (Sub.cons 1 rfl (Sub.cons 1 rfl (Sub.nil _))))))) ?_
          refine AW.reg ?_
          refine AO.c (x := eI64 (w64 (x42 + (1 : Int)))) (Calm.int rfl rfl rfl rfl) ?_
          refine AO.mv rfl rfl ?_
          refine AO.nK [1, 2, 4, 5, 6, 7, 24, 25, 40, 41, 42] ?_
          exact ⟨kq44, Nat.lt_succ_self _, n49, (x41 ++ ([x47] : List Int)), (w64 (x42 + (1 : Int))), rfl, rfl, by rw [hrec43]; exact h⟩
        ·refine AW.condN _ rfl hc45 ?_
         refine AW.eK [1, 2, 4, 5, 6, 7, 24, 25] ?_
         exact ⟨n40, x41, rfl, rfl, h⟩
       ·rintro _ _ ⟨n30, x31, rfl, rfl, h⟩
        rw [F63_c2.eq_1] at h
        refine AW.sr ?_
        refine AO.c (x := .ptr n9 256) (Calm.fldPtr rfl rfl Try.underlying55 rfl sz53 _ rfl) ?_
        refine AO.c (Calm.load 2 rfl rfl rfl (At.cast (At.fldS (At.fld0 At.here)) rfl) ag53 sz53) ?_
        refine AO.mv rfl rfl ?_
        refine AO.freezeS 5 [(7, (.fz 1 (x31.map eI64))), (59, (.fz 1 (x31.map eI64)))] rfl ⟨fz_all rfl, fz_all rfl, trivial⟩ ?_
        refine AO.lit (Z := (.fl (.slice none 0 0))) (xs := (([x31] : List (List Int)).map e35)) (qs := [(0, (.fz 1 (x31.map eI64)))]) rfl 60 rfl (by decide) rfl ⟨rfl, rfl, rfl, trivial⟩ Try.underlying53 sz35 zr35 lay35 rfl (by decide) (litOK (z := 1) [(.fz 1 (x31.map eI64))] rfl ⟨⟨rfl, rfl⟩, trivial⟩) rfl fun n32 => ?_
        obtain ⟨hg34, h⟩ := of_guard h
        refine AO.appendL (l := x17) (m := ([x31] : List (List Int))) 4 61 rfl (by decide) rfl rfl rfl rfl rfl (Src.ownL (f := e35) (l := ([x31] : List (List Int))) 0 rfl) Try.underlying53 Try.underlying53 sz35 by35 zr35 rfl hg34 (by decide) fun n33 => ?_
        refine AO.c (x := .ptr n9 256) (Calm.fldPtr rfl rfl Try.underlying55 rfl sz53 _ rfl) ?_
        refine AO.store (X' := (.st [(256, (.ar 1 (t7.f0.toList.map eU8))), (1, (.own n33 0 (x17 ++ ([x31] : List (List Int))).length)), (1, (.own n18 0 x19.length))])) 3 rfl rfl rfl rfl rfl rfl (Put.cast (Put.fldS (Put.fld0 Put.here)) rfl) rfl rfl sz53 rfl ?_
        refine AO.nH [1, 2, 4, 5, 6, 24, 25] (H' := [(n2, (.mem (e55 t7))), (n3, (.mem (.st [(256, (.ar 1 ((Vector.replicate 256 (0 : Int)).toList.map eU8))), (1, (.fl (.slice none 0 0))), (1, (.fl (.slice none 0 0)))]))), (n9, (.mem (.st [(256, (.ar 1 (t7.f0.toList.map eU8))), (1, (.own n33 0 (x17 ++ ([x31] : List (List Int))).length)), (1, (.own n18 0 x19.length))]))), (n33, (.mem (.ar 1 ((x17 ++ ([x31] : List (List Int))).map e35)))), (n18, (.mem (.ar 1 (x19.map eI64))))]) (Sub.cons 1 rfl (Sub.cons 1 rfl (Sub.cons 1 rfl (Sub.cons 1 rfl (Sub.cons 1 rfl (Sub.nil _)))))) ?_
        obtain ⟨hg35, h⟩ := of_guard h
        obtain ⟨hg38, h⟩ := of_guard h
        refine AW.regEff (by rfl) (by decide +kernel) (fun (σ : Nat → Nat) => ([(.ptr n9 257), (.own n18 0 x19.length), (.ptr n2 257), (.fz 1 (t7.f2.map eI64)), (eI64 x20), (.rp (eI64 (lget t7.f2 x20))), (eI64 (lget t7.f2 x20)), (.fz 1 (([(lget t7.f2 x20)] : List Int).map eI64)), (.own (σ 8) 0 (x19 ++ ([(lget t7.f2 x20)] : List Int)).length), (.ptr n9 257), (.fl undef)] : List AV)) (fun (L : Nat → Bool) (σ : Nat → Nat) => ((n2, (.mem (e55 t7))) :: (n3, (.mem (.st [(256, (.ar 1 ((Vector.replicate 256 (0 : Int)).toList.map eU8))), (1, (.fl (.slice none 0 0))), (1, (.fl (.slice none 0 0)))]))) :: (n33, (.mem (.ar 1 ((x17 ++ ([x31] : List (List Int))).map e35)))) :: (bif L 8 then (bif L 10 then ((n9, (.mem (.st [(256, (.ar 1 (t7.f0.toList.map eU8))), (1, (.own n33 0 (x17 ++ ([x31] : List (List Int))).length)), (1, (.own (σ 8) 0 (x19 ++ ([(lget t7.f2 x20)] : List Int)).length))]))) :: ((σ 8), (.mem (.ar 1 ((x19 ++ ([(lget t7.f2 x20)] : List Int)).map eI64)))) :: []) else ((n9, (.mem (.st [(256, (.ar 1 (t7.f0.toList.map eU8))), (1, (.own n33 0 (x17 ++ ([x31] : List (List Int))).length)), (1, (.own n18 0 x19.length))]))) :: ((σ 8), (.mem (.ar 1 ((x19 ++ ([(lget t7.f2 x20)] : List Int)).map eI64)))) :: [])) else ((n9, (.mem (.st [(256, (.ar 1 (t7.f0.toList.map eU8))), (1, (.own n33 0 (x17 ++ ([x31] : List (List Int))).length)), (1, (.own n18 0 x19.length))]))) :: (n18, (.mem (.ar 1 (x19.map eI64)))) :: [])) : Heap)) [(1, (.ptr n2 0)), (2, (.ptr n3 0)), (4, (.fz 1 (t8.map eI64))), (5, (.ptr n9 0)), (6, (eI64 x20)), (24, (eI64 (t7.f1.length : Int))), (25, (eI64 x20))] ⟨rfl, rfl, rfl, rfl, rfl, rfl, rfl, trivial⟩ (fun _ => rfl) (fun σ => (Sub.cons 0 rfl (Sub.cons 0 rfl (Sub.cons 1 rfl (Sub.cons 0 rfl (Sub.cons 0 rfl (Sub.refl _))))))) ⟨?_, ?_, ?_, ?_, ?_, ?_, ?_, ?_, ?_, ?_, ?_, trivial⟩ (fun σ => [(1, (.ptr n2 0)), (2, (.ptr n3 0)), (4, (.fz 1 (t8.map eI64))), (5, (.ptr n9 0)), (24, (eI64 (t7.f1.length : Int))), (25, (eI64 x20))]) (fun σ => ((n2, (.mem (e55 t7))) :: (n3, (.mem (.st [(256, (.ar 1 ((Vector.replicate 256 (0 : Int)).toList.map eU8))), (1, (.fl (.slice none 0 0))), (1, (.fl (.slice none 0 0)))]))) :: (n33, (.mem (.ar 1 ((x17 ++ ([x31] : List (List Int))).map e35)))) :: (n9, (.mem (.st [(256, (.ar 1 (t7.f0.toList.map eU8))), (1, (.own n33 0 (x17 ++ ([x31] : List (List Int))).length)), (1, (.own (σ 8) 0 (x19 ++ ([(lget t7.f2 x20)] : List Int)).length))]))) :: ((σ 8), (.mem (.ar 1 ((x19 ++ ([(lget t7.f2 x20)] : List Int)).map eI64)))) :: [])) (fun σ => ⟨rfl, rfl, rfl, rfl, rfl, rfl, trivial⟩) (fun σ => Sub.refl _) (fun σ => ?_)
        ·refine StepE.calm (fun _ _ => rfl) fun L σ hc hi hd => ?_
         have m1 : L 1 = false := hc.neg (i := 0) (j := 1) rfl (by rfl) hi
         have m8 : L 8 = false := hc.neg (i := 1) (j := 8) rfl (by rfl) m1
         have m10 : L 10 = false := hc.neg (i := 0) (j := 10) rfl (by rfl) hi
         refine AO.heq (H' := ((n2, (.mem (e55 t7))) :: (n3, (.mem (.st [(256, (.ar 1 ((Vector.replicate 256 (0 : Int)).toList.map eU8))), (1, (.fl (.slice none 0 0))), (1, (.fl (.slice none 0 0)))]))) :: (n33, (.mem (.ar 1 ((x17 ++ ([x31] : List (List Int))).map e35)))) :: (n9, (.mem (.st [(256, (.ar 1 (t7.f0.toList.map eU8))), (1, (.own n33 0 (x17 ++ ([x31] : List (List Int))).length)), (1, (.own n18 0 x19.length))]))) :: (n18, (.mem (.ar 1 (x19.map eI64)))) :: [])) (by first | rfl | simp only [m8, m10, cond_true, cond_false]) ?_
         refine AO.wK [5] ?_
         refine AO.c (x := .ptr n9 257) (Calm.fldPtr rfl rfl Try.underlying55 rfl sz35 _ rfl) ?_
         exact AO.nE (d := 63) rfl ⟨⟨63, _, rfl, rfl, rfl⟩, Sub.of_eq (by first | rfl | simp only [m8, m10, cond_true, cond_false]) (Sub.refl _)⟩
        ·refine StepE.calm (fun _ _ => rfl) fun L σ hc hi hd => ?_
         have m8 : L 8 = false := hc.neg (i := 1) (j := 8) rfl (by rfl) hi
         have m10 : L 10 = false := hc.neg (i := 1) (j := 10) rfl (by rfl) hi
         refine AO.heq (H' := ((n2, (.mem (e55 t7))) :: (n3, (.mem (.st [(256, (.ar 1 ((Vector.replicate 256 (0 : Int)).toList.map eU8))), (1, (.fl (.slice none 0 0))), (1, (.fl (.slice none 0 0)))]))) :: (n33, (.mem (.ar 1 ((x17 ++ ([x31] : List (List Int))).map e35)))) :: (n9, (.mem (.st [(256, (.ar 1 (t7.f0.toList.map eU8))), (1, (.own n33 0 (x17 ++ ([x31] : List (List Int))).length)), (1, (.own n18 0 x19.length))]))) :: (n18, (.mem (.ar 1 (x19.map eI64)))) :: [])) (by first | rfl | simp only [m8, m10, cond_true, cond_false]) ?_
         refine AO.wK [63] ?_
         refine AO.c (Calm.load 3 rfl rfl rfl (At.cast (At.fldS (At.fldS (At.fld0 At.here))) rfl) ag35 sz35) ?_
         exact AO.nE (d := 64) rfl ⟨⟨64, _, rfl, rfl, rfl⟩, Sub.of_eq (by first | rfl | simp only [m8, m10, cond_true, cond_false]) (Sub.refl _)⟩
        ·refine StepE.calm (fun _ _ => rfl) fun L σ hc hi hd => ?_
         refine AO.wK [1] ?_
         refine AO.c (x := .ptr n2 257) (Calm.fldPtr rfl rfl Try.underlying55 rfl sz35 _ rfl) ?_
         exact AO.nE (d := 65) rfl ⟨⟨65, _, rfl, rfl, rfl⟩, Sub.refl _⟩
        ·refine StepE.calm (fun _ _ => rfl) fun L σ hc hi hd => ?_
         refine AO.wK [65] ?_
         refine AO.c (Calm.load 0 rfl rfl rfl (At.cast (At.fldS (At.fldS (At.fld0 At.here))) rfl) ag35 sz35) ?_
         exact AO.nE (d := 66) rfl ⟨⟨66, _, rfl, rfl, rfl⟩, Sub.refl _⟩
        ·refine StepE.calm (fun _ _ => rfl) fun L σ hc hi hd => ?_
         refine AO.wK [6] ?_
         refine AO.mv rfl rfl ?_
         exact AO.nE (d := 67) rfl ⟨⟨67, _, rfl, rfl, rfl⟩, Sub.refl _⟩
        ·refine StepE.calm (fun _ _ => rfl) fun L σ hc hi hd => ?_
         refine AO.wK [66, 67] ?_
         refine AO.c (Calm.idxL (f := eI64) rfl rfl rfl hg35 Try.underlying35 sz3) ?_
         exact AO.nE (d := 68) rfl ⟨⟨68, _, rfl, rfl, rfl⟩, Sub.refl _⟩
        ·refine StepE.calm (fun _ _ => rfl) fun L σ hc hi hd => ?_
         refine AO.wK [68] ?_
         refine AO.c (Calm.loadRp rfl rfl ag3 sz3) ?_
         exact AO.nE (d := 69) rfl ⟨⟨69, _, rfl, rfl, rfl⟩, Sub.refl _⟩
        ·refine StepE.calm (fun _ _ => rfl) fun L σ hc hi hd => ?_
         refine AO.wK [69] ?_
         refine AO.lit (Z := (eI64 (0 : Int))) (xs := (([(lget t7.f2 x20)] : List Int).map eI64)) (qs := [(0, (eI64 (lget t7.f2 x20)))]) rfl 70 rfl (by decide) rfl ⟨rfl, rfl, rfl, trivial⟩ Try.underlying35 sz3 zr3 lay3 rfl (by decide) (litOK (z := 1) [(eI64 (lget t7.f2 x20))] rfl ⟨⟨rfl, rfl⟩, trivial⟩) rfl fun n36 => ?_
         refine AO.freezeS 0 [(70, (.fz 1 (([(lget t7.f2 x20)] : List Int).map eI64)))] rfl ⟨fz_all rfl, trivial⟩ ?_
         exact AO.nE (d := 70) rfl ⟨⟨70, _, rfl, rfl, rfl⟩, Sub.refl _⟩
        ·intro L σ hc hi hd
         have m10 : L 10 = false := hc.neg (i := 8) (j := 10) rfl (by rfl) hi
         refine AO.heq (H' := ((n2, (.mem (e55 t7))) :: (n3, (.mem (.st [(256, (.ar 1 ((Vector.replicate 256 (0 : Int)).toList.map eU8))), (1, (.fl (.slice none 0 0))), (1, (.fl (.slice none 0 0)))]))) :: (n33, (.mem (.ar 1 ((x17 ++ ([x31] : List (List Int))).map e35)))) :: (n9, (.mem (.st [(256, (.ar 1 (t7.f0.toList.map eU8))), (1, (.own n33 0 (x17 ++ ([x31] : List (List Int))).length)), (1, (.own n18 0 x19.length))]))) :: (n18, (.mem (.ar 1 (x19.map eI64)))) :: [])) (by first | rfl | simp only [hi, m10, cond_true, cond_false]) ?_
         refine AO.wK [64, 70] ?_
         refine AO.appendL (l := x19) (m := ([(lget t7.f2 x20)] : List Int)) 4 71 rfl (by decide) rfl rfl rfl rfl rfl Src.fz Try.underlying35 Try.underlying35 sz3 by3 zr3 rfl hg38 (by decide) fun n37 => ?_
         have a8 : addL L 8 8 = true := rfl
         have a10 : addL L 8 10 = false := m10
         have u8 : upd σ 8 n37 8 = n37 := rfl
         exact AO.nE (d := 71) rfl ⟨(upd σ 8 n37), (fun j hj => match j, hj with | 0, _ => rfl | 1, _ => rfl | 2, _ => rfl | 3, _ => rfl | 4, _ => rfl | 5, _ => rfl | 6, _ => rfl | 7, _ => rfl | 8, hj => Bool.noConfusion (hj.symm.trans hi) | 9, _ => rfl | 10, _ => rfl | _ + 11, _ => rfl), (fun d' hd' => ⟨_, rfl, by cases hd'; rfl⟩), Sub.of_eq (B := ((n2, (.mem (e55 t7))) :: (n3, (.mem (.st [(256, (.ar 1 ((Vector.replicate 256 (0 : Int)).toList.map eU8))), (1, (.fl (.slice none 0 0))), (1, (.fl (.slice none 0 0)))]))) :: (n33, (.mem (.ar 1 ((x17 ++ ([x31] : List (List Int))).map e35)))) :: (n9, (.mem (.st [(256, (.ar 1 (t7.f0.toList.map eU8))), (1, (.own n33 0 (x17 ++ ([x31] : List (List Int))).length)), (1, (.own n18 0 x19.length))]))) :: (n37, (.mem (.ar 1 ((x19 ++ ([(lget t7.f2 x20)] : List Int)).map eI64)))) :: [])) (by simp only [a8, a10, u8, cond_true, cond_false]) (Sub.refl _)⟩
        ·refine StepE.calm (fun _ _ => rfl) fun L σ hc hi hd => ?_
         have y8 : L 8 = true := on_get hd (i := 8) (by rfl)
         have m10 : L 10 = false := hc.neg (i := 9) (j := 10) rfl (by rfl) hi
         refine AO.heq (H' := ((n2, (.mem (e55 t7))) :: (n3, (.mem (.st [(256, (.ar 1 ((Vector.replicate 256 (0 : Int)).toList.map eU8))), (1, (.fl (.slice none 0 0))), (1, (.fl (.slice none 0 0)))]))) :: (n33, (.mem (.ar 1 ((x17 ++ ([x31] : List (List Int))).map e35)))) :: (n9, (.mem (.st [(256, (.ar 1 (t7.f0.toList.map eU8))), (1, (.own n33 0 (x17 ++ ([x31] : List (List Int))).length)), (1, (.own n18 0 x19.length))]))) :: ((σ 8), (.mem (.ar 1 ((x19 ++ ([(lget t7.f2 x20)] : List Int)).map eI64)))) :: [])) (by first | rfl | simp only [y8, m10, cond_true, cond_false]) ?_
         refine AO.wK [5] ?_
         refine AO.c (x := .ptr n9 257) (Calm.fldPtr rfl rfl Try.underlying55 rfl sz35 _ rfl) ?_
         exact AO.nE (d := 72) rfl ⟨⟨72, _, rfl, rfl, rfl⟩, Sub.of_eq (by first | rfl | simp only [y8, m10, cond_true, cond_false]) (Sub.refl _)⟩
        ·intro L σ hc hi hd
         have y8 : L 8 = true := on_get hd (i := 8) (by rfl)
         refine AO.heq (H' := ((n2, (.mem (e55 t7))) :: (n3, (.mem (.st [(256, (.ar 1 ((Vector.replicate 256 (0 : Int)).toList.map eU8))), (1, (.fl (.slice none 0 0))), (1, (.fl (.slice none 0 0)))]))) :: (n33, (.mem (.ar 1 ((x17 ++ ([x31] : List (List Int))).map e35)))) :: (n9, (.mem (.st [(256, (.ar 1 (t7.f0.toList.map eU8))), (1, (.own n33 0 (x17 ++ ([x31] : List (List Int))).length)), (1, (.own n18 0 x19.length))]))) :: ((σ 8), (.mem (.ar 1 ((x19 ++ ([(lget t7.f2 x20)] : List Int)).map eI64)))) :: [])) (by first | rfl | simp only [hi, y8, cond_true, cond_false]) ?_
         refine AO.wK [71, 72] ?_
         refine AO.store (X' := (.st [(256, (.ar 1 (t7.f0.toList.map eU8))), (1, (.own n33 0 (x17 ++ ([x31] : List (List Int))).length)), (1, (.own (σ 8) 0 (x19 ++ ([(lget t7.f2 x20)] : List Int)).length))])) 3 rfl rfl rfl rfl rfl rfl (Put.cast (Put.fldS (Put.fldS (Put.fld0 Put.here))) rfl) rfl rfl sz35 rfl ?_
         have a8 : addL L 10 8 = true := y8
         have a10 : addL L 10 10 = true := rfl
         exact AO.n0 ⟨σ, (fun _ _ => rfl), (fun d' hd' => by cases hd'), Sub.of_eq (B := ((n2, (.mem (e55 t7))) :: (n3, (.mem (.st [(256, (.ar 1 ((Vector.replicate 256 (0 : Int)).toList.map eU8))), (1, (.fl (.slice none 0 0))), (1, (.fl (.slice none 0 0)))]))) :: (n33, (.mem (.ar 1 ((x17 ++ ([x31] : List (List Int))).map e35)))) :: (n9, (.mem (.st [(256, (.ar 1 (t7.f0.toList.map eU8))), (1, (.own n33 0 (x17 ++ ([x31] : List (List Int))).length)), (1, (.own (σ 8) 0 (x19 ++ ([(lget t7.f2 x20)] : List Int)).length))]))) :: ((σ 8), (.mem (.ar 1 ((x19 ++ ([(lget t7.f2 x20)] : List Int)).map eI64)))) :: [])) (by simp only [a8, a10, cond_true, cond_false]) (Sub.refl _)⟩
        ·generalize σ 8 = n37
         refine AO.nH [1, 2, 4, 5, 24, 25] (H' := [(n2, (.mem (e55 t7))), (n3, (.mem (.st [(256, (.ar 1 ((Vector.replicate 256 (0 : Int)).toList.map eU8))), (1, (.fl (.slice none 0 0))), (1, (.fl (.slice none 0 0)))]))), (n9, (.mem (.st [(256, (.ar 1 (t7.f0.toList.map eU8))), (1, (.own n33 0 (x17 ++ ([x31] : List (List Int))).length)), (1, (.own n37 0 (x19 ++ ([(lget t7.f2 x20)] : List Int)).length))]))), (n33, (.mem (.ar 1 ((x17 ++ ([x31] : List (List Int))).map e35)))), (n37, (.mem (.ar 1 ((x19 ++ ([(lget t7.f2 x20)] : List Int)).map eI64))))]) (Sub.cons 0 rfl (Sub.cons 0 rfl (Sub.cons 1 rfl (Sub.cons 0 rfl (Sub.cons 0 rfl (Sub.nil _)))))) ?_
         exact ⟨n33, n37, (x17 ++ ([x31] : List (List Int))), (x19 ++ ([(lget t7.f2 x20)] : List Int)), rfl, rfl, h⟩
     ·rintro _ _ ⟨n24, n26, x25, x27, rfl, rfl, h⟩
      rw [F63_c1.eq_1] at h
      refine AW.reg ?_
      refine AO.c (x := eI64 (w64 (x20 + (1 : Int)))) (Calm.int rfl rfl rfl rfl) ?_
      refine AO.mv rfl rfl ?_
      refine AO.nK [1, 2, 4, 5, 24, 25] ?_
      exact ⟨kq22, Nat.lt_succ_self _, n24, n26, x25, x27, (w64 (x20 + (1 : Int))), rfl, rfl, by rw [hrec21]; exact h⟩
    ·refine AW.condN _ rfl hc23 ?_
     refine AW.eH [2, 5] (H' := [(n3, (.mem (.st [(256, (.ar 1 ((Vector.replicate 256 (0 : Int)).toList.map eU8))), (1, (.fl (.slice none 0 0))), (1, (.fl (.slice none 0 0)))]))), (n9, (.mem (.st [(256, (.ar 1 (t7.f0.toList.map eU8))), (1, (.own n16 0 x17.length)), (1, (.own n18 0 x19.length))]))), (n16, (.mem (.ar 1 (x17.map e35)))), (n18, (.mem (.ar 1 (x19.map eI64))))]) (Sub.cons 1 rfl (Sub.cons 1 rfl (Sub.cons 1 rfl (Sub.cons 1 rfl (Sub.nil _))))) ?_
     exact ⟨n16, n18, x17, x19, rfl, rfl, h⟩
   ·rintro _ _ ⟨n10, n12, x11, x13, rfl, rfl, h⟩
    rw [F63_c0.eq_1] at h
    refine AW.sr ?_
    refine AO.freezeFld (X' := (.st [(256, (.ar 1 (t7.f0.toList.map eU8))), (1, (.fz 1 (x11.map e35))), (1, (.own n12 0 x13.length))])) (els' := (x11.map e35)) 2 1 rfl rfl (Put.cast (Put.fldS (Put.fld0 Put.here)) rfl) (by simp) (by rw [own_all]) rfl rfl (by decide) ?_
    refine AO.freezeFld (X' := (.st [(256, (.ar 1 (t7.f0.toList.map eU8))), (1, (.fz 1 (x11.map e35))), (1, (.fz 1 (x13.map eI64)))])) (els' := (x13.map eI64)) 2 1 rfl rfl (Put.cast (Put.fldS (Put.fldS (Put.fld0 Put.here))) rfl) (by simp) (by rw [own_all]) rfl rfl (by decide) ?_
    refine AO.c (x := e55 (S55.mk t7.f0 x11 x13)) (Calm.load 1 rfl rfl rfl (At.cast At.here rfl) ag55 sz55) ?_
    obtain ⟨t14, et14, h⟩ := of_bind h
    refine AO.callS [(e55 (S55.mk t7.f0 x11 x13))] (e55 t14) 75 rfl (by decide) ok82 rfl rfl rfl ⟨rfl, rfl, trivial⟩ (F82_spec et14) ?_
    obtain ⟨t15, et15, h⟩ := of_bind h
    refine AO.callS [(e55 t14)] (e55 t15) 76 rfl (by decide) ok79 rfl rfl rfl ⟨rfl, rfl, trivial⟩ (F79_spec et15) ?_
    refine AO.store (X' := (e55 t15)) 0 rfl rfl rfl rfl rfl rfl (Put.cast Put.here rfl) rfl rfl sz55 rfl ?_
    refine AO.ag rfl rfl ?_
    refine AO.nH [2, 3] (H' := [(n3, (.mem (e55 t15)))]) (Sub.cons 0 rfl (Sub.nil _)) ?_
    refine AW.rK [2, 3] ?_
    have hr := Option.some.inj h
    subst hr
    exact ⟨[(e55 t15), (eI64 (0 : Int))], ⟨⟨_, 0, rfl, rfl, ag55, sz55⟩, rfl, rfl, trivial⟩, rfl⟩
end Go.Avl.T7
/- bosket/rules.Machine; printed by avmain.py. -/
namespace Go.Avl.T7
open Go Go.RowKit Go.Proofs Go.Avl
set_option linter.unusedVariables false
set_option maxRecDepth 100000
set_option maxHeartbeats 4000000
attribute [local irreducible] AW AO AQ Spec SpecH Calm

def F55_c0 (k : Nat) (t7 : (S121 × (List Int))) (x12 : (List Int)) : Option (S55 × Int) :=
  (F76 k t7.1 x12).bind fun t13 =>
  if t13.2 ≠ (0 : Int) then some ((S55.mk (Vector.replicate 256 (0 : Int)) ([] : List (List Int)) ([] : List Int)), t13.2)
  else (F63 k t13.1).bind fun t16 =>
  some (t16.1, t16.2)
def F55_l1 (k : Nat) (t7 : (S121 × (List Int))) : Nat → (List Int) → Int → Option (S55 × Int)
  | 0, _, _ => none
  | j + 1, x17, x18 =>
    if x18 < (t7.2.length : Int) then if 0 ≤ x18 ∧ x18 < (t7.2.length : Int) then if 0 ≤ (lget t7.2 x18) ∧ (lget t7.2 x18) < (x17.length : Int) then (F55_l1 k t7 j) (lset x17 (lget t7.2 x18) x18) (w64 (x18 + (1 : Int)))
    else none
    else none
    else F55_c0 k t7 x17
def F55_c2 (k : Nat) (t7 : (S121 × (List Int))) (x11 : (List Int)) : Option (S55 × Int) :=
  F55_l1 k t7 k x11 (0 : Int)
def F55_l3 (k : Nat) (t7 : (S121 × (List Int))) : Nat → (List Int) → Int → Option (S55 × Int)
  | 0, _, _ => none
  | j + 1, x24, x25 =>
    if x25 < ((List.replicate t7.1.f0.toNat (0 : Int)).length : Int) then if 0 ≤ x25 ∧ x25 < (x24.length : Int) then (F55_l3 k t7 j) (lset x24 x25 (-1 : Int)) (w64 (x25 + (1 : Int)))
    else none
    else F55_c2 k t7 x24
def F55_c4 (k : Nat) (x6 : (List S121)) : Option (S55 × Int) :=
  (F75 k x6).bind fun t7 =>
  if 0 ≤ t7.1.f0 ∧ t7.1.f0 * (8 : Int) ≤ 140737488355328 ∧ t7.1.f0 ≤ 9223372036854775807 then F55_l3 k t7 k (List.replicate t7.1.f0.toNat (0 : Int)) (0 : Int)
  else none
def F55_l5 (k : Nat) (p0 : (List S82)) : Nat → (List S121) → Int → Option (S55 × Int)
  | 0, _, _ => none
  | j + 1, x31, x32 =>
    if x32 < (p0.length : Int) then if 0 ≤ x32 ∧ x32 < (p0.length : Int) then (F73 k ((lget p0 x32).f2)).bind fun t38 =>
    (F74 k t38.1).bind fun t39 =>
    if t39.2 ≠ (0 : Int) then some ((S55.mk (Vector.replicate 256 (0 : Int)) ([] : List (List Int)) ([] : List Int)), t39.2)
    else if (x31 ++ ([t39.1] : List S121)).length * 48 ≤ 140737488355328 then (F55_l5 k p0 j) (x31 ++ ([t39.1] : List S121)) (w64 (x32 + (1 : Int)))
    else none
    else none
    else F55_c4 k x31
def F55 (k : Nat) (p0 : (List S82)) : Option (S55 × Int) :=
  (F39 k p0).bind fun t3 =>
  if t3.2 ≠ (0 : Int) then some ((S55.mk (Vector.replicate 256 (0 : Int)) ([] : List (List Int)) ([] : List Int)), t3.2)
  else F55_l5 k p0 k ([] : List S121) (0 : Int)
theorem F55_spec {k : Nat} {p0 : (List S82)} {r : (S55 × Int)} (h : F55 k p0 = some r) : Spec Try.prog 55 [(.fz 3 (p0.map e82))] (.tup [(e55 r.1), (eI64 r.2)]) := by
  rw [F55.eq_1] at h
  refine Spec.intro (res := [.cell 2 55, .tmp 3]) Try.func55 rfl rfl rfl (Nat.le_of_ble_eq_true rfl) ?_
  refine AW.sr ?_
  refine AO.alloc rfl 2 rfl (by decide) rfl zr55 lay55 fun n2 => ?_
  refine AO.ag rfl rfl ?_
  refine AO.nK [0, 2] ?_
  refine AW.seq ?_
  refine AW.sr ?_
  refine AO.mv rfl rfl ?_
  obtain ⟨t3, et3, h⟩ := of_bind h
  refine AO.callS [(.fz 3 (p0.map e82))] (.tup [(eI64 t3.1), (eI64 t3.2)]) 23 rfl (by decide) ok39 rfl rfl rfl ⟨rfl, rfl, trivial⟩ (F39_spec et3) ?_
  refine AO.mv rfl rfl ?_
  refine AO.c (Calm.extract rfl rfl rfl) ?_
  refine AO.c (Calm.extract rfl rfl rfl) ?_
  refine AO.ag rfl rfl ?_
  refine AO.ag rfl rfl ?_
  refine AO.nK [0, 2, 5] ?_
  refine AW.sr ?_
  refine AO.mv rfl rfl ?_
  refine AO.c (x := eBool (decide (t3.2 ≠ (0 : Int)))) (Calm.int rfl rfl rfl rfl) ?_
  refine AO.nK [0, 2, 5, 27] ?_
  rcases of_ite h with ⟨hc4, h⟩ | ⟨hc4, h⟩
  ·refine AW.condP _ rfl hc4 ?_
   refine AW.sr ?_
   refine AO.c (x := .st [(256, (.ar 1 ((Vector.replicate 256 (0 : Int)).toList.map eU8))), (1, (.fl (.slice none 0 0))), (1, (.fl (.slice none 0 0)))]) (Calm.build (qs := []) rfl trivial Try.underlying55 rfl zr55 lay55 .nil rfl) ?_
   refine AO.mv rfl rfl ?_
   refine AO.store (X' := (.st [(256, (.ar 1 ((Vector.replicate 256 (0 : Int)).toList.map eU8))), (1, (.fl (.slice none 0 0))), (1, (.fl (.slice none 0 0)))])) 0 rfl rfl rfl rfl rfl rfl (Put.cast Put.here rfl) rfl rfl sz55 rfl ?_
   refine AO.ag rfl rfl ?_
   refine AO.nK [2, 3] ?_
   refine AW.coeFld (X' := (.st [(256, (.ar 1 ((Vector.replicate 256 (0 : Int)).toList.map eU8))), (1, (.fz 1 (([] : List (List Int)).map e35))), (1, (.fl (.slice none 0 0)))])) 0 rfl (Put.cast (Put.fldS (Put.fld0 Put.here)) rfl) rfl (nil_fz 1) rfl rfl ?_
   refine AW.coeFld (X' := (.st [(256, (.ar 1 ((Vector.replicate 256 (0 : Int)).toList.map eU8))), (1, (.fz 1 (([] : List (List Int)).map e35))), (1, (.fz 1 (([] : List Int).map eI64)))])) 0 rfl (Put.cast (Put.fldS (Put.fldS (Put.fld0 Put.here))) rfl) rfl (nil_fz 1) rfl rfl ?_
   refine AW.rK [2, 3] ?_
   have hr := Option.some.inj h
   subst hr
   exact ⟨[(e55 (S55.mk (Vector.replicate 256 (0 : Int)) ([] : List (List Int)) ([] : List Int))), (eI64 t3.2)], ⟨⟨_, 0, rfl, rfl, ag55, sz55⟩, rfl, rfl, trivial⟩, rfl⟩
  ·refine AW.condN _ rfl hc4 ?_
   refine AW.sK [0, 2] ?_
   refine AW.sr ?_
   refine AO.ag rfl rfl ?_
   refine AO.nK [0, 2, 6] ?_
   refine AW.seq_mid (fun ρ H => ∃ (n5 : Nat) (x6 : (List S121)), ρ = [(2, (.ptr n2 0)), (6, (.own n5 0 x6.length))] ∧ H = [(n2, (.mem (.st [(256, (.ar 1 ((Vector.replicate 256 (0 : Int)).toList.map eU8))), (1, (.fl (.slice none 0 0))), (1, (.fl (.slice none 0 0)))]))), (n5, (.mem (.ar 4 (x6.map e121))))] ∧ F55_c4 k x6 = some r) ?_ ?_
   ·refine AW.sr ?_
    refine AO.mv rfl rfl ?_
    refine AO.c (Calm.lenL rfl rfl Try.underlying22) ?_
    refine AO.mv rfl rfl ?_
    refine AO.nK [2, 6, 30, 31, 32] ?_
    refine AW.block ?_
    refine AW.nilOwn 6 4 rfl fun n45 => ?_
    refine AW.wH [2, 6, 30, 31, 32] (H' := [(n2, (.mem (.st [(256, (.ar 1 ((Vector.replicate 256 (0 : Int)).toList.map eU8))), (1, (.fl (.slice none 0 0))), (1, (.fl (.slice none 0 0)))]))), (n45, (.mem (.ar 4 (([] : List S121).map e121))))]) (Sub.cons 1 rfl (Sub.cons 0 rfl (Sub.nil _))) ?_
    refine AW.loop (fun kq ρ H => ∃ (n30 : Nat) (x31 : (List S121)) (x32 : Int), ρ = [(2, (.ptr n2 0)), (6, (.own n30 0 x31.length)), (30, (.fz 3 (p0.map e82))), (31, (eI64 (p0.length : Int))), (32, (eI64 x32))] ∧ H = [(n2, (.mem (.st [(256, (.ar 1 ((Vector.replicate 256 (0 : Int)).toList.map eU8))), (1, (.fl (.slice none 0 0))), (1, (.fl (.slice none 0 0)))]))), (n30, (.mem (.ar 4 (x31.map e121))))] ∧ F55_l5 k p0 kq x31 x32 = some r) k ⟨n45, ([] : List S121), (0 : Int), rfl, rfl, h⟩ ?_
    rintro kq34 _ _ ⟨n30, x31, x32, rfl, rfl, h⟩
    cases kq34 with
    | zero => rw [F55_l5.eq_1] at h; cases h
    | succ kq34 =>
    rw [F55_l5.eq_2] at h
    generalize hrec33 : F55_l5 k p0 kq34 = rec33 at h
    refine AW.sr ?_
    refine AO.c (x := eBool (decide (x32 < (p0.length : Int)))) (Calm.int rfl rfl rfl rfl) ?_
    refine AO.nK [2, 6, 30, 31, 32, 33] ?_
    refine AW.seq ?_
    rcases of_ite h with ⟨hc35, h⟩ | ⟨hc35, h⟩
    ·refine AW.condP _ rfl hc35 ?_
     refine AW.sK [2, 6, 30, 31, 32] ?_
     refine AW.seq ?_
     refine AW.block ?_
     refine AW.sr ?_
     obtain ⟨hg36, h⟩ := of_guard h
     refine AO.c (Calm.idxL (f := e82) rfl rfl rfl hg36 Try.underlying22 sz82) ?_
     refine AO.c (Calm.loadRp rfl rfl ag82 sz82) ?_
     refine AO.alloc rfl 8 rfl (by decide) rfl zr82 lay82 fun n37 => ?_
     refine AO.store (X' := (e82 (lget p0 x32))) 0 rfl rfl rfl rfl rfl rfl (Put.cast Put.here rfl) rfl rfl sz82 rfl ?_
     refine AO.nH [2, 6, 8, 30, 31, 32] (H' := [(n2, (.mem (.st [(256, (.ar 1 ((Vector.replicate 256 (0 : Int)).toList.map eU8))), (1, (.fl (.slice none 0 0))), (1, (.fl (.slice none 0 0)))]))), (n30, (.mem (.ar 4 (x31.map e121)))), (n37, (.mem (e82 (lget p0 x32))))]) (Sub.cons 1 rfl (Sub.cons 1 rfl (Sub.cons 0 rfl (Sub.nil _)))) ?_
     refine AW.sr ?_
     refine AO.c (x := .ptr n37 2) (Calm.fldPtr rfl rfl Try.underlying82 rfl sz9 _ rfl) ?_
     refine AO.c (Calm.load 2 rfl rfl rfl (At.cast (At.fldS (At.fldS (At.fld0 At.here))) rfl) ag9 sz9) ?_
     obtain ⟨t38, et38, h⟩ := of_bind h
     refine AO.callS [(eStr ((lget p0 x32).f2))] (.tup [(.fz 5 (t38.1.map e131)), (eI64 t38.2)]) 39 rfl (by decide) ok73 rfl rfl rfl ⟨rfl, rfl, trivial⟩ (F73_spec et38) ?_
     refine AO.mv rfl rfl ?_
     refine AO.c (Calm.extract rfl rfl rfl) ?_
     refine AO.c (Calm.extract rfl rfl rfl) ?_
     refine AO.ag rfl rfl ?_
     refine AO.ag rfl rfl ?_
     refine AO.nH [2, 6, 9, 30, 31, 32] (H' := [(n2, (.mem (.st [(256, (.ar 1 ((Vector.replicate 256 (0 : Int)).toList.map eU8))), (1, (.fl (.slice none 0 0))), (1, (.fl (.slice none 0 0)))]))), (n30, (.mem (.ar 4 (x31.map e121))))]) (Sub.cons 0 rfl (Sub.cons 0 rfl (Sub.nil _))) ?_
     refine AW.sr ?_
     refine AO.mv rfl rfl ?_
     obtain ⟨t39, et39, h⟩ := of_bind h
     refine AO.callS [(.fz 5 (t38.1.map e131))] (.tup [(e121 t39.1), (eI64 t39.2)]) 44 rfl (by decide) ok74 rfl rfl rfl ⟨rfl, rfl, trivial⟩ (F74_spec et39) ?_
     refine AO.mv rfl rfl ?_
     refine AO.c (Calm.extract rfl rfl rfl) ?_
     refine AO.c (Calm.extract rfl rfl rfl) ?_
     refine AO.alloc rfl 11 rfl (by decide) rfl zr121 lay121 fun n40 => ?_
     refine AO.store (X' := (e121 t39.1)) 0 rfl rfl rfl rfl rfl rfl (Put.cast Put.here rfl) rfl rfl sz121 rfl ?_
     refine AO.ag rfl rfl ?_
     refine AO.nH [2, 6, 11, 12, 30, 31, 32] (H' := [(n2, (.mem (.st [(256, (.ar 1 ((Vector.replicate 256 (0 : Int)).toList.map eU8))), (1, (.fl (.slice none 0 0))), (1, (.fl (.slice none 0 0)))]))), (n30, (.mem (.ar 4 (x31.map e121)))), (n40, (.mem (e121 t39.1)))]) (Sub.cons 1 rfl (Sub.cons 1 rfl (Sub.cons 0 rfl (Sub.nil _)))) ?_
     refine AW.seq ?_
     refine AW.sr ?_
     refine AO.mv rfl rfl ?_
     refine AO.c (x := eBool (decide (t39.2 ≠ (0 : Int)))) (Calm.int rfl rfl rfl rfl) ?_
     refine AO.nK [2, 6, 11, 12, 30, 31, 32, 48] ?_
     rcases of_ite h with ⟨hc41, h⟩ | ⟨hc41, h⟩
     ·refine AW.condP _ rfl hc41 ?_
      refine AW.sr ?_
      refine AO.c (x := .st [(256, (.ar 1 ((Vector.replicate 256 (0 : Int)).toList.map eU8))), (1, (.fl (.slice none 0 0))), (1, (.fl (.slice none 0 0)))]) (Calm.build (qs := []) rfl trivial Try.underlying55 rfl zr55 lay55 .nil rfl) ?_
      refine AO.mv rfl rfl ?_
      refine AO.store (X' := (.st [(256, (.ar 1 ((Vector.replicate 256 (0 : Int)).toList.map eU8))), (1, (.fl (.slice none 0 0))), (1, (.fl (.slice none 0 0)))])) 0 rfl rfl rfl rfl rfl rfl (Put.cast Put.here rfl) rfl rfl sz55 rfl ?_
      refine AO.ag rfl rfl ?_
      refine AO.nH [2, 3] (H' := [(n2, (.mem (.st [(256, (.ar 1 ((Vector.replicate 256 (0 : Int)).toList.map eU8))), (1, (.fl (.slice none 0 0))), (1, (.fl (.slice none 0 0)))])))]) (Sub.cons 0 rfl (Sub.nil _)) ?_
      refine AW.coeFld (X' := (.st [(256, (.ar 1 ((Vector.replicate 256 (0 : Int)).toList.map eU8))), (1, (.fz 1 (([] : List (List Int)).map e35))), (1, (.fl (.slice none 0 0)))])) 0 rfl (Put.cast (Put.fldS (Put.fld0 Put.here)) rfl) rfl (nil_fz 1) rfl rfl ?_
      refine AW.coeFld (X' := (.st [(256, (.ar 1 ((Vector.replicate 256 (0 : Int)).toList.map eU8))), (1, (.fz 1 (([] : List (List Int)).map e35))), (1, (.fz 1 (([] : List Int).map eI64)))])) 0 rfl (Put.cast (Put.fldS (Put.fldS (Put.fld0 Put.here))) rfl) rfl (nil_fz 1) rfl rfl ?_
      refine AW.rK [2, 3] ?_
      have hr := Option.some.inj h
      subst hr
      exact ⟨[(e55 (S55.mk (Vector.replicate 256 (0 : Int)) ([] : List (List Int)) ([] : List Int))), (eI64 t39.2)], ⟨⟨_, 0, rfl, rfl, ag55, sz55⟩, rfl, rfl, trivial⟩, rfl⟩
     ·refine AW.condN _ rfl hc41 ?_
      refine AW.sK [2, 6, 11, 30, 31, 32] ?_
      refine AW.reg ?_
      refine AO.mv rfl rfl ?_
      refine AO.c (Calm.load 2 rfl rfl rfl (At.cast At.here rfl) ag121 sz121) ?_
      refine AO.lit (Z := (.st [(1, (eI64 (0 : Int))), (1, (.fl (.slice none 0 0))), (1, (eI64 (0 : Int))), (1, (eI64 (0 : Int)))])) (xs := (([t39.1] : List S121).map e121)) (qs := [(0, (e121 t39.1))]) rfl 53 rfl (by decide) rfl ⟨rfl, rfl, rfl, trivial⟩ Try.underlying116 sz121 zr121 lay121 rfl (by decide) (litOK (z := 4) [(e121 t39.1)] rfl ⟨⟨rfl, rfl⟩, trivial⟩) rfl fun n42 => ?_
      obtain ⟨hg44, h⟩ := of_guard h
      refine AO.appendL (l := x31) (m := ([t39.1] : List S121)) 2 54 rfl (by decide) rfl rfl rfl rfl rfl (Src.ownL (f := e121) (l := ([t39.1] : List S121)) 0 rfl) Try.underlying116 Try.underlying116 sz121 by121 zr121 rfl hg44 (by decide) fun n43 => ?_
      refine AO.ag rfl rfl ?_
      refine AO.nH [2, 6, 30, 31, 32] (H' := [(n2, (.mem (.st [(256, (.ar 1 ((Vector.replicate 256 (0 : Int)).toList.map eU8))), (1, (.fl (.slice none 0 0))), (1, (.fl (.slice none 0 0)))]))), (n43, (.mem (.ar 4 ((x31 ++ ([t39.1] : List S121)).map e121))))]) (Sub.cons 1 rfl (Sub.cons 1 rfl (Sub.nil _))) ?_
      refine AW.reg ?_
      refine AO.c (x := eI64 (w64 (x32 + (1 : Int)))) (Calm.int rfl rfl rfl rfl) ?_
      refine AO.mv rfl rfl ?_
      refine AO.nK [2, 6, 30, 31, 32] ?_
      exact ⟨kq34, Nat.lt_succ_self _, n43, (x31 ++ ([t39.1] : List S121)), (w64 (x32 + (1 : Int))), rfl, rfl, by rw [hrec33]; exact h⟩
    ·refine AW.condN _ rfl hc35 ?_
     refine AW.eK [2, 6] ?_
     exact ⟨n30, x31, rfl, rfl, h⟩
   ·rintro _ _ ⟨n5, x6, rfl, rfl, h⟩
    rw [F55_c4.eq_1] at h
    refine AW.sr ?_
    refine AO.mv rfl rfl ?_
    obtain ⟨t7, et7, h⟩ := of_bind h
    refine AO.freezeS 1 [(6, (.fz 4 (x6.map e121))), (57, (.fz 4 (x6.map e121)))] rfl ⟨fz_all rfl, fz_all rfl, trivial⟩ ?_
    refine AO.callS [(.fz 4 (x6.map e121))] (.tup [(e121 t7.1), (.fz 1 (t7.2.map eI64))]) 58 rfl (by decide) ok75 rfl rfl rfl ⟨rfl, rfl, trivial⟩ (F75_spec et7) ?_
    refine AO.mv rfl rfl ?_
    refine AO.c (Calm.extract rfl rfl rfl) ?_
    refine AO.c (Calm.extract rfl rfl rfl) ?_
    refine AO.alloc rfl 13 rfl (by decide) rfl zr121 lay121 fun n8 => ?_
    refine AO.store (X' := (e121 t7.1)) 0 rfl rfl rfl rfl rfl rfl (Put.cast Put.here rfl) rfl rfl sz121 rfl ?_
    refine AO.ag rfl rfl ?_
    refine AO.nH [2, 13, 14] (H' := [(n2, (.mem (.st [(256, (.ar 1 ((Vector.replicate 256 (0 : Int)).toList.map eU8))), (1, (.fl (.slice none 0 0))), (1, (.fl (.slice none 0 0)))]))), (n8, (.mem (e121 t7.1)))]) (Sub.cons 1 rfl (Sub.cons 0 rfl (Sub.nil _))) ?_
    refine AW.sr ?_
    refine AO.c (x := .ptr n8 0) (Calm.fldPtr rfl rfl Try.underlying121 rfl sz3 _ rfl) ?_
    refine AO.c (Calm.load 1 rfl rfl rfl (At.cast (At.fld0 At.here) rfl) ag3 sz3) ?_
    obtain ⟨hg10, h⟩ := of_guard h
    refine AO.makeL (f := eI64) (0 : Int) rfl 63 rfl (by decide) rfl rfl rfl Try.underlying35 sz3 by3 zr3 lay3 rfl hg10 fun n9 => ?_
    refine AO.ag rfl rfl ?_
    refine AO.nH [2, 13, 14, 15] (H' := [(n2, (.mem (.st [(256, (.ar 1 ((Vector.replicate 256 (0 : Int)).toList.map eU8))), (1, (.fl (.slice none 0 0))), (1, (.fl (.slice none 0 0)))]))), (n8, (.mem (e121 t7.1))), (n9, (.mem (.ar 1 ((List.replicate t7.1.f0.toNat (0 : Int)).map eI64))))]) (Sub.cons 1 rfl (Sub.cons 1 rfl (Sub.cons 0 rfl (Sub.nil _)))) ?_
    refine AW.seq_mid (fun ρ H => ∃ (x11 : (List Int)), ρ = [(2, (.ptr n2 0)), (13, (.ptr n8 0)), (14, (.fz 1 (t7.2.map eI64))), (15, (.own n9 0 x11.length))] ∧ H = [(n2, (.mem (.st [(256, (.ar 1 ((Vector.replicate 256 (0 : Int)).toList.map eU8))), (1, (.fl (.slice none 0 0))), (1, (.fl (.slice none 0 0)))]))), (n8, (.mem (e121 t7.1))), (n9, (.mem (.ar 1 (x11.map eI64))))] ∧ F55_c2 k t7 x11 = some r) ?_ ?_
    ·refine AW.sr ?_
     refine AO.mv rfl rfl ?_
     refine AO.c (Calm.lenOwn rfl rfl Try.underlying35) ?_
     refine AO.mv rfl rfl ?_
     refine AO.nK [2, 13, 14, 15, 65, 66] ?_
     refine AW.block ?_
     refine AW.wK [2, 13, 14, 15, 65, 66] ?_
     refine AW.loop (fun kq ρ H => ∃ (x24 : (List Int)) (x25 : Int), ρ = [(2, (.ptr n2 0)), (13, (.ptr n8 0)), (14, (.fz 1 (t7.2.map eI64))), (15, (.own n9 0 x24.length)), (65, (eI64 ((List.replicate t7.1.f0.toNat (0 : Int)).length : Int))), (66, (eI64 x25))] ∧ H = [(n2, (.mem (.st [(256, (.ar 1 ((Vector.replicate 256 (0 : Int)).toList.map eU8))), (1, (.fl (.slice none 0 0))), (1, (.fl (.slice none 0 0)))]))), (n8, (.mem (e121 t7.1))), (n9, (.mem (.ar 1 (x24.map eI64))))] ∧ F55_l3 k t7 kq x24 x25 = some r) k ⟨(List.replicate t7.1.f0.toNat (0 : Int)), (0 : Int), rfl, rfl, h⟩ ?_
     rintro kq27 _ _ ⟨x24, x25, rfl, rfl, h⟩
     cases kq27 with
     | zero => rw [F55_l3.eq_1] at h; cases h
     | succ kq27 =>
     rw [F55_l3.eq_2] at h
     generalize hrec26 : F55_l3 k t7 kq27 = rec26 at h
     refine AW.sr ?_
     refine AO.c (x := eBool (decide (x25 < ((List.replicate t7.1.f0.toNat (0 : Int)).length : Int)))) (Calm.int rfl rfl rfl rfl) ?_
     refine AO.nK [2, 13, 14, 15, 65, 66, 67] ?_
     refine AW.seq ?_
     rcases of_ite h with ⟨hc28, h⟩ | ⟨hc28, h⟩
     ·refine AW.condP _ rfl hc28 ?_
      refine AW.sK [2, 13, 14, 15, 65, 66] ?_
      refine AW.seq ?_
      refine AW.block ?_
      refine AW.sr ?_
      refine AO.mv rfl rfl ?_
      refine AO.ag rfl rfl ?_
      refine AO.nK [2, 13, 14, 15, 16, 65, 66] ?_
      refine AW.reg ?_
      refine AO.mv rfl rfl ?_
      refine AO.mv rfl rfl ?_
      obtain ⟨hg29, h⟩ := of_guard h
      refine AO.c (Calm.idxO 2 rfl rfl rfl rfl hg29 Try.underlying35 sz3) ?_
      refine AO.store (X' := (.ar 1 ((lset x24 x25 (-1 : Int)).map eI64))) 2 rfl rfl rfl rfl rfl rfl (Put.cast (Put.lidx x25 (-1 : Int) hg29.1 hg29.2 Put.here) (by omega)) rfl rfl sz3 rfl ?_
      refine AO.coe 15 (y' := (.own n9 0 (lset x24 x25 (-1 : Int)).length)) rfl (fun _ _ h => lset_own h) ?_
      refine AO.coe 69 (y' := (.own n9 0 (lset x24 x25 (-1 : Int)).length)) rfl (fun _ _ h => lset_own h) ?_
      refine AO.nK [2, 13, 14, 15, 65, 66] ?_
      refine AW.reg ?_
      refine AO.c (x := eI64 (w64 (x25 + (1 : Int)))) (Calm.int rfl rfl rfl rfl) ?_
      refine AO.mv rfl rfl ?_
      refine AO.nK [2, 13, 14, 15, 65, 66] ?_
      exact ⟨kq27, Nat.lt_succ_self _, (lset x24 x25 (-1 : Int)), (w64 (x25 + (1 : Int))), rfl, rfl, by rw [hrec26]; exact h⟩
     ·refine AW.condN _ rfl hc28 ?_
      refine AW.eK [2, 13, 14, 15] ?_
      exact ⟨x24, rfl, rfl, h⟩
    ·rintro _ _ ⟨x11, rfl, rfl, h⟩
     rw [F55_c2.eq_1] at h
     refine AW.seq_mid (fun ρ H => ∃ (x12 : (List Int)), ρ = [(2, (.ptr n2 0)), (13, (.ptr n8 0)), (15, (.own n9 0 x12.length))] ∧ H = [(n2, (.mem (.st [(256, (.ar 1 ((Vector.replicate 256 (0 : Int)).toList.map eU8))), (1, (.fl (.slice none 0 0))), (1, (.fl (.slice none 0 0)))]))), (n8, (.mem (e121 t7.1))), (n9, (.mem (.ar 1 (x12.map eI64))))] ∧ F55_c0 k t7 x12 = some r) ?_ ?_
     ·refine AW.sr ?_
      refine AO.mv rfl rfl ?_
      refine AO.c (Calm.lenL rfl rfl Try.underlying35) ?_
      refine AO.mv rfl rfl ?_
      refine AO.nK [2, 13, 15, 73, 74, 75] ?_
      refine AW.block ?_
      refine AW.wK [2, 13, 15, 73, 74, 75] ?_
      refine AW.loop (fun kq ρ H => ∃ (x17 : (List Int)) (x18 : Int), ρ = [(2, (.ptr n2 0)), (13, (.ptr n8 0)), (15, (.own n9 0 x17.length)), (73, (.fz 1 (t7.2.map eI64))), (74, (eI64 (t7.2.length : Int))), (75, (eI64 x18))] ∧ H = [(n2, (.mem (.st [(256, (.ar 1 ((Vector.replicate 256 (0 : Int)).toList.map eU8))), (1, (.fl (.slice none 0 0))), (1, (.fl (.slice none 0 0)))]))), (n8, (.mem (e121 t7.1))), (n9, (.mem (.ar 1 (x17.map eI64))))] ∧ F55_l1 k t7 kq x17 x18 = some r) k ⟨x11, (0 : Int), rfl, rfl, h⟩ ?_
      rintro kq20 _ _ ⟨x17, x18, rfl, rfl, h⟩
      cases kq20 with
      | zero => rw [F55_l1.eq_1] at h; cases h
      | succ kq20 =>
      rw [F55_l1.eq_2] at h
      generalize hrec19 : F55_l1 k t7 kq20 = rec19 at h
      refine AW.sr ?_
      refine AO.c (x := eBool (decide (x18 < (t7.2.length : Int)))) (Calm.int rfl rfl rfl rfl) ?_
      refine AO.nK [2, 13, 15, 73, 74, 75, 76] ?_
      refine AW.seq ?_
      rcases of_ite h with ⟨hc21, h⟩ | ⟨hc21, h⟩
      ·refine AW.condP _ rfl hc21 ?_
       refine AW.sK [2, 13, 15, 73, 74, 75] ?_
       refine AW.seq ?_
       refine AW.block ?_
       refine AW.sr ?_
       refine AO.mv rfl rfl ?_
       obtain ⟨hg22, h⟩ := of_guard h
       refine AO.c (Calm.idxL (f := eI64) rfl rfl rfl hg22 Try.underlying35 sz3) ?_
       refine AO.c (Calm.loadRp rfl rfl ag3 sz3) ?_
       refine AO.ag rfl rfl ?_
       refine AO.ag rfl rfl ?_
       refine AO.nK [2, 13, 15, 17, 18, 73, 74, 75] ?_
       refine AW.reg ?_
       refine AO.mv rfl rfl ?_
       refine AO.mv rfl rfl ?_
       refine AO.mv rfl rfl ?_
       obtain ⟨hg23, h⟩ := of_guard h
       refine AO.c (Calm.idxO 2 rfl rfl rfl rfl hg23 Try.underlying35 sz3) ?_
       refine AO.store (X' := (.ar 1 ((lset x17 (lget t7.2 x18) x18).map eI64))) 2 rfl rfl rfl rfl rfl rfl (Put.cast (Put.lidx (lget t7.2 x18) x18 hg23.1 hg23.2 Put.here) (by omega)) rfl rfl sz3 rfl ?_
       refine AO.coe 15 (y' := (.own n9 0 (lset x17 (lget t7.2 x18) x18).length)) rfl (fun _ _ h => lset_own h) ?_
       refine AO.coe 80 (y' := (.own n9 0 (lset x17 (lget t7.2 x18) x18).length)) rfl (fun _ _ h => lset_own h) ?_
       refine AO.nK [2, 13, 15, 73, 74, 75] ?_
       refine AW.reg ?_
       refine AO.c (x := eI64 (w64 (x18 + (1 : Int)))) (Calm.int rfl rfl rfl rfl) ?_
       refine AO.mv rfl rfl ?_
       refine AO.nK [2, 13, 15, 73, 74, 75] ?_
       exact ⟨kq20, Nat.lt_succ_self _, (lset x17 (lget t7.2 x18) x18), (w64 (x18 + (1 : Int))), rfl, rfl, by rw [hrec19]; exact h⟩
      ·refine AW.condN _ rfl hc21 ?_
       refine AW.eK [2, 13, 15] ?_
       exact ⟨x17, rfl, rfl, h⟩
     ·rintro _ _ ⟨x12, rfl, rfl, h⟩
      rw [F55_c0.eq_1] at h
      refine AW.sr ?_
      refine AO.c (Calm.load 1 rfl rfl rfl (At.cast At.here rfl) ag121 sz121) ?_
      refine AO.mv rfl rfl ?_
      obtain ⟨t13, et13, h⟩ := of_bind h
      refine AO.freezeS 2 [(15, (.fz 1 (x12.map eI64))), (87, (.fz 1 (x12.map eI64)))] rfl ⟨fz_all rfl, fz_all rfl, trivial⟩ ?_
      refine AO.callS [(e121 t7.1), (.fz 1 (x12.map eI64))] (.tup [(e55 t13.1), (eI64 t13.2)]) 88 rfl (by decide) ok76 rfl rfl rfl ⟨rfl, rfl, rfl, rfl, trivial⟩ (F76_spec et13) ?_
      refine AO.mv rfl rfl ?_
      refine AO.c (Calm.extract rfl rfl rfl) ?_
      refine AO.c (Calm.extract rfl rfl rfl) ?_
      refine AO.alloc rfl 19 rfl (by decide) rfl zr55 lay55 fun n14 => ?_
      refine AO.store (X' := (e55 t13.1)) 0 rfl rfl rfl rfl rfl rfl (Put.cast Put.here rfl) rfl rfl sz55 rfl ?_
      refine AO.ag rfl rfl ?_
      refine AO.nH [2, 19, 20] (H' := [(n2, (.mem (.st [(256, (.ar 1 ((Vector.replicate 256 (0 : Int)).toList.map eU8))), (1, (.fl (.slice none 0 0))), (1, (.fl (.slice none 0 0)))]))), (n14, (.mem (e55 t13.1)))]) (Sub.cons 1 rfl (Sub.cons 0 rfl (Sub.nil _))) ?_
      refine AW.seq ?_
      refine AW.sr ?_
      refine AO.mv rfl rfl ?_
      refine AO.c (x := eBool (decide (t13.2 ≠ (0 : Int)))) (Calm.int rfl rfl rfl rfl) ?_
      refine AO.nK [2, 19, 20, 92] ?_
      rcases of_ite h with ⟨hc15, h⟩ | ⟨hc15, h⟩
      ·refine AW.condP _ rfl hc15 ?_
       refine AW.sr ?_
       refine AO.c (x := .st [(256, (.ar 1 ((Vector.replicate 256 (0 : Int)).toList.map eU8))), (1, (.fl (.slice none 0 0))), (1, (.fl (.slice none 0 0)))]) (Calm.build (qs := []) rfl trivial Try.underlying55 rfl zr55 lay55 .nil rfl) ?_
       refine AO.mv rfl rfl ?_
       refine AO.store (X' := (.st [(256, (.ar 1 ((Vector.replicate 256 (0 : Int)).toList.map eU8))), (1, (.fl (.slice none 0 0))), (1, (.fl (.slice none 0 0)))])) 0 rfl rfl rfl rfl rfl rfl (Put.cast Put.here rfl) rfl rfl sz55 rfl ?_
       refine AO.ag rfl rfl ?_
       refine AO.nH [2, 3] (H' := [(n2, (.mem (.st [(256, (.ar 1 ((Vector.replicate 256 (0 : Int)).toList.map eU8))), (1, (.fl (.slice none 0 0))), (1, (.fl (.slice none 0 0)))])))]) (Sub.cons 0 rfl (Sub.nil _)) ?_
       refine AW.coeFld (X' := (.st [(256, (.ar 1 ((Vector.replicate 256 (0 : Int)).toList.map eU8))), (1, (.fz 1 (([] : List (List Int)).map e35))), (1, (.fl (.slice none 0 0)))])) 0 rfl (Put.cast (Put.fldS (Put.fld0 Put.here)) rfl) rfl (nil_fz 1) rfl rfl ?_
       refine AW.coeFld (X' := (.st [(256, (.ar 1 ((Vector.replicate 256 (0 : Int)).toList.map eU8))), (1, (.fz 1 (([] : List (List Int)).map e35))), (1, (.fz 1 (([] : List Int).map eI64)))])) 0 rfl (Put.cast (Put.fldS (Put.fldS (Put.fld0 Put.here))) rfl) rfl (nil_fz 1) rfl rfl ?_
       refine AW.rK [2, 3] ?_
       have hr := Option.some.inj h
       subst hr
       exact ⟨[(e55 (S55.mk (Vector.replicate 256 (0 : Int)) ([] : List (List Int)) ([] : List Int))), (eI64 t13.2)], ⟨⟨_, 0, rfl, rfl, ag55, sz55⟩, rfl, rfl, trivial⟩, rfl⟩
      ·refine AW.condN _ rfl hc15 ?_
       refine AW.sK [2, 19] ?_
       refine AW.sr ?_
       refine AO.c (Calm.load 1 rfl rfl rfl (At.cast At.here rfl) ag55 sz55) ?_
       obtain ⟨t16, et16, h⟩ := of_bind h
       refine AO.callS [(e55 t13.1)] (.tup [(e55 t16.1), (eI64 t16.2)]) 96 rfl (by decide) ok63 rfl rfl rfl ⟨rfl, rfl, trivial⟩ (F63_spec et16) ?_
       refine AO.c (Calm.extract rfl rfl rfl) ?_
       refine AO.c (Calm.extract rfl rfl rfl) ?_
       refine AO.store (X' := (e55 t16.1)) 0 rfl rfl rfl rfl rfl rfl (Put.cast Put.here rfl) rfl rfl sz55 rfl ?_
       refine AO.ag rfl rfl ?_
       refine AO.nH [2, 3] (H' := [(n2, (.mem (e55 t16.1)))]) (Sub.cons 0 rfl (Sub.nil _)) ?_
       refine AW.rK [2, 3] ?_
       have hr := Option.some.inj h
       subst hr
       exact ⟨[(e55 t16.1), (eI64 t16.2)], ⟨⟨_, 0, rfl, rfl, ag55, sz55⟩, rfl, rfl, trivial⟩, rfl⟩
end Go.Avl.T7
/- bosket/bosketref08.Step; printed by avmain.py. -/
namespace Go.Avl.T7
open Go Go.RowKit Go.Proofs Go.Avl
set_option linter.unusedVariables false
set_option maxRecDepth 100000
set_option maxHeartbeats 4000000
attribute [local irreducible] AW AO AQ Spec SpecH Calm

def F60 (k : Nat) (p0 : S55) (p1 : Int) (p2 : Int) : Option Int :=
  Option.bind (α := Bool) (if p1 < (0 : Int) then some (true)
  else if (p0.f1.length : Int) ≤ p1 then some (true)
  else if 0 ≤ p2 ∧ p2 < (256 : Int) then if 0 ≤ p1 ∧ p1 < (p0.f1.length : Int) then some (decide (((lget p0.f1 p1).length : Int) ≤ (w64 (vget p0.f0 p2))))
  else none
  else none) fun b5 =>
  if b5 = true then some ((-1 : Int))
  else if 0 ≤ p1 ∧ p1 < (p0.f1.length : Int) then if 0 ≤ p2 ∧ p2 < (256 : Int) then if 0 ≤ (vget p0.f0 p2) ∧ (vget p0.f0 p2) < ((lget p0.f1 p1).length : Int) then some ((lget (lget p0.f1 p1) (vget p0.f0 p2)))
  else none
  else none
  else none
theorem F60_spec {k : Nat} {p0 : S55} {p1 : Int} {p2 : Int} {r : Int} (h : F60 k p0 p1 p2 = some r) : Spec Try.prog 60 [(e55 p0), (eI64 p1), (eI64 p2)] (eI64 r) := by
  rw [F60.eq_1] at h
  refine Spec.intro (res := [.tmp 6]) Try.func60 rfl rfl rfl (Nat.le_of_ble_eq_true rfl) ?_
  refine AW.sr ?_
  refine AO.box rfl 3 rfl (by decide) rfl rfl rfl fun n4 => ?_
  refine AO.ag rfl rfl ?_
  refine AO.nK [1, 2, 3] ?_
  refine AW.seq ?_
  refine AW.seq ?_
  obtain ⟨b5, hq6, h⟩ := of_bind h
  refine AW.regQM (by rfl) (by decide +kernel) [(1, (eI64 p1)), (2, (eI64 p2)), (3, (.ptr n4 0)), (29, (eBool b5))] ?_ ?_
  ·refine AQ.c (Calm.move rfl rfl) ?_
   refine AQ.c (x := eBool (decide (p1 < (0 : Int)))) (Calm.int rfl rfl rfl rfl) ?_
   refine AQ.c (Calm.move rfl rfl) ?_
   rcases of_ite hq6 with ⟨hc7, hq6⟩ | ⟨hc7, hq6⟩
   ·refine AQ.sF rfl rfl (bD (decide_eq_true hc7)) ?_
    refine AQ.sF rfl rfl (bD (decide_eq_true hc7)) ?_
    refine AQ.sF rfl rfl (bD (decide_eq_true hc7)) ?_
    refine AQ.sF rfl rfl (bD (decide_eq_true hc7)) ?_
    refine AQ.sF rfl rfl (bD (decide_eq_true hc7)) ?_
    refine AQ.c (Calm.pickT rfl (bD (decide_eq_true hc7)) rfl) ?_
    refine AQ.c (Calm.move rfl rfl) ?_
    refine AQ.sF rfl rfl rfl ?_
    refine AQ.sF rfl rfl rfl ?_
    refine AQ.sF rfl rfl rfl ?_
    refine AQ.sF rfl rfl rfl ?_
    refine AQ.sF rfl rfl rfl ?_
    refine AQ.sF rfl rfl rfl ?_
    refine AQ.sF rfl rfl rfl ?_
    refine AQ.sF rfl rfl rfl ?_
    refine AQ.sF rfl rfl rfl ?_
    refine AQ.sF rfl rfl rfl ?_
    refine AQ.sF rfl rfl rfl ?_
    refine AQ.sF rfl rfl rfl ?_
    refine AQ.c (Calm.pickT rfl rfl rfl) ?_
    cases hq6
    refine AQ.nilE rfl ?_
    exact ⟨rfl, rfl, rfl, rfl, trivial⟩
   ·refine AQ.cG rfl rfl (bD (decide_eq_false hc7)) (Calm.move rfl rfl) ?_
    refine AQ.cG (x := .ptr n4 256) rfl rfl (bD (decide_eq_false hc7)) (Calm.fldPtr rfl rfl Try.underlying55 rfl sz53 _ rfl) ?_
    refine AQ.cG rfl rfl (bD (decide_eq_false hc7)) (Calm.load 0 rfl rfl rfl (At.cast (At.fldS (At.fld0 At.here)) rfl) ag53 sz53) ?_
    refine AQ.cG rfl rfl (bD (decide_eq_false hc7)) (Calm.lenL rfl rfl Try.underlying53) ?_
    refine AQ.cG (x := eBool (decide ((p0.f1.length : Int) ≤ p1))) rfl rfl (bD (decide_eq_false hc7)) (Calm.int rfl rfl rfl rfl) ?_
    refine AQ.c (Calm.pickF rfl (bD (decide_eq_false hc7)) rfl) ?_
    refine AQ.c (Calm.move rfl rfl) ?_
    rcases of_ite hq6 with ⟨hc8, hq6⟩ | ⟨hc8, hq6⟩
    ·refine AQ.sF rfl rfl (bD (decide_eq_true hc8)) ?_
     refine AQ.sF rfl rfl (bD (decide_eq_true hc8)) ?_
     refine AQ.sF rfl rfl (bD (decide_eq_true hc8)) ?_
     refine AQ.sF rfl rfl (bD (decide_eq_true hc8)) ?_
     refine AQ.sF rfl rfl (bD (decide_eq_true hc8)) ?_
     refine AQ.sF rfl rfl (bD (decide_eq_true hc8)) ?_
     refine AQ.sF rfl rfl (bD (decide_eq_true hc8)) ?_
     refine AQ.sF rfl rfl (bD (decide_eq_true hc8)) ?_
     refine AQ.sF rfl rfl (bD (decide_eq_true hc8)) ?_
     refine AQ.sF rfl rfl (bD (decide_eq_true hc8)) ?_
     refine AQ.sF rfl rfl (bD (decide_eq_true hc8)) ?_
     refine AQ.sF rfl rfl (bD (decide_eq_true hc8)) ?_
     refine AQ.c (Calm.pickT rfl (bD (decide_eq_true hc8)) rfl) ?_
     cases hq6
     refine AQ.nilE rfl ?_
     exact ⟨rfl, rfl, rfl, rfl, trivial⟩
    ·refine AQ.cG rfl rfl (bD (decide_eq_false hc8)) (Calm.move rfl rfl) ?_
     refine AQ.cG (x := .ptr n4 0) rfl rfl (bD (decide_eq_false hc8)) (Calm.fldPtr rfl rfl Try.underlying55 rfl sz52 _ rfl) ?_
     obtain ⟨hg9, hq6⟩ := of_guard hq6
     refine AQ.cG rfl rfl (bD (decide_eq_false hc8)) (Calm.idxP rfl rfl rfl hg9 Try.underlying52 sz5) ?_
     refine AQ.cG rfl rfl (bD (decide_eq_false hc8)) (Calm.load 0 rfl rfl rfl (At.cast (At.fld0 (At.vidx p2 hg9.1 hg9.2 At.here)) (by omega)) ag5 sz5) ?_
     refine AQ.cG (x := eI64 (w64 (vget p0.f0 p2))) rfl rfl (bD (decide_eq_false hc8)) (Calm.conv rfl rfl Try.underlying5 Try.underlying3) ?_
     refine AQ.cG (x := .ptr n4 256) rfl rfl (bD (decide_eq_false hc8)) (Calm.fldPtr rfl rfl Try.underlying55 rfl sz53 _ rfl) ?_
     refine AQ.cG rfl rfl (bD (decide_eq_false hc8)) (Calm.load 0 rfl rfl rfl (At.cast (At.fldS (At.fld0 At.here)) rfl) ag53 sz53) ?_
     refine AQ.cG rfl rfl (bD (decide_eq_false hc8)) (Calm.move rfl rfl) ?_
     obtain ⟨hg10, hq6⟩ := of_guard hq6
     refine AQ.cG rfl rfl (bD (decide_eq_false hc8)) (Calm.idxL (f := e35) rfl rfl rfl hg10 Try.underlying53 sz35) ?_
     refine AQ.cG rfl rfl (bD (decide_eq_false hc8)) (Calm.loadRp rfl rfl ag35 sz35) ?_
     refine AQ.cG rfl rfl (bD (decide_eq_false hc8)) (Calm.lenL rfl rfl Try.underlying35) ?_
     refine AQ.cG (x := eBool (decide (((lget p0.f1 p1).length : Int) ≤ (w64 (vget p0.f0 p2))))) rfl rfl (bD (decide_eq_false hc8)) (Calm.int rfl rfl rfl rfl) ?_
     refine AQ.c (Calm.pickF rfl (bD (decide_eq_false hc8)) rfl) ?_
     cases hq6
     refine AQ.nilE rfl ?_
     exact ⟨rfl, rfl, rfl, rfl, trivial⟩
  ·rcases of_ite h with ⟨hc11, h⟩ | ⟨hc11, h⟩
   ·refine AW.condT' _ rfl hc11 ?_
    refine AW.sr ?_
    refine AO.ag rfl rfl ?_
    refine AO.nH [6] (H' := []) (Sub.nil _) ?_
    refine AW.rK [6] ?_
    have hr := Option.some.inj h
    subst hr
    exact ⟨[(eI64 (-1 : Int))], ⟨rfl, rfl, trivial⟩, rfl⟩
   ·refine AW.condF' _ rfl hc11 ?_
    refine AW.sK [1, 2, 3] ?_
    refine AW.seq ?_
    refine AW.regQ (by rfl) (by decide +kernel) ?_
    refine AQ.c (x := .ptr n4 256) (Calm.fldPtr rfl rfl Try.underlying55 rfl sz53 _ rfl) ?_
    refine AQ.c (Calm.load 0 rfl rfl rfl (At.cast (At.fldS (At.fld0 At.here)) rfl) ag53 sz53) ?_
    refine AQ.c (Calm.move rfl rfl) ?_
    obtain ⟨hg12, h⟩ := of_guard h
    refine AQ.c (Calm.idxL (f := e35) rfl rfl rfl hg12 Try.underlying53 sz35) ?_
    refine AQ.c (Calm.loadRp rfl rfl ag35 sz35) ?_
    refine AQ.c (Calm.move rfl rfl) ?_
    refine AQ.c (x := .ptr n4 0) (Calm.fldPtr rfl rfl Try.underlying55 rfl sz52 _ rfl) ?_
    obtain ⟨hg13, h⟩ := of_guard h
    refine AQ.c (Calm.idxP rfl rfl rfl hg13 Try.underlying52 sz5) ?_
    refine AQ.c (Calm.load 0 rfl rfl rfl (At.cast (At.fld0 (At.vidx p2 hg13.1 hg13.2 At.here)) (by omega)) ag5 sz5) ?_
    obtain ⟨hg14, h⟩ := of_guard h
    refine AQ.c (Calm.idxL (f := eI64) rfl rfl rfl hg14 Try.underlying35 sz3) ?_
    refine AQ.c (Calm.loadRp rfl rfl ag3 sz3) ?_
    refine AQ.c (Calm.assign rfl rfl) ?_
    refine AQ.nK [6] ?_
    refine AW.rH [6] (H' := []) (Sub.nil _) ?_
    have hr := Option.some.inj h
    subst hr
    exact ⟨[(eI64 (lget (lget p0.f1 p1) (vget p0.f0 p2)))], ⟨rfl, rfl, trivial⟩, rfl⟩
end Go.Avl.T7
