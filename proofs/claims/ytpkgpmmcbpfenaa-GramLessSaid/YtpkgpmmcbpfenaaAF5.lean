/- Parts: T7f97, T7f125, T7f122, T7f96, T7f99, T7f123, T7f135, T7f124, T7f98, T7f100. -/
import Derived.Test.YtpkgpmmcbpfenaaAF1
/- bosket/nfa.Sets; printed by avmain.py. -/
namespace Go.Avl.T7
open Go Go.RowKit Go.Proofs Go.Avl
set_option linter.unusedVariables false
set_option maxRecDepth 100000
set_option maxHeartbeats 4000000
attribute [local irreducible] AW AO AQ Spec SpecH Calm

def F97_c0 (k : Nat) (x4 : (List (Vector Int 4))) : Option (List (Vector Int 4)) :=
  some (x4)
def F97_c1 (k : Nat) (rec8 : ((List (Vector Int 4)) → Int → Option (List (Vector Int 4)))) (x7 : Int) (x12 : (List (Vector Int 4))) : Option (List (Vector Int 4)) :=
  rec8 x12 (w64 (x7 + (1 : Int)))
def F97_l2 (k : Nat) (p0 : S121) : Nat → (List (Vector Int 4)) → Int → Option (List (Vector Int 4))
  | 0, _, _ => none
  | j + 1, x6, x7 =>
    if x7 < (p0.f1.length : Int) then if 0 ≤ x7 ∧ x7 < (p0.f1.length : Int) then if (!((lget p0.f1 x7).f3)) = true then if (x6 ++ ([(lget p0.f1 x7).f2] : List (Vector Int 4))).length * 32 ≤ 140737488355328 then F97_c1 k (F97_l2 k p0 j) x7 (x6 ++ ([(lget p0.f1 x7).f2] : List (Vector Int 4)))
    else none
    else F97_c1 k (F97_l2 k p0 j) x7 x6
    else none
    else F97_c0 k x6
def F97 (k : Nat) (p0 : S121) : Option (List (Vector Int 4)) :=
  F97_l2 k p0 k ([] : List (Vector Int 4)) (0 : Int)
theorem F97_spec {k : Nat} {p0 : S121} {r : (List (Vector Int 4))} (h : F97 k p0 = some r) : Spec Try.prog 97 [(e121 p0)] (e158 r) := by
  rw [F97.eq_1] at h
  refine Spec.intro (res := [.tmp 2]) Try.func97 rfl rfl rfl (Nat.le_of_ble_eq_true rfl) ?_
  refine AW.sr ?_
  refine AO.box rfl 1 rfl (by decide) rfl rfl rfl fun n2 => ?_
  refine AO.ag rfl rfl ?_
  refine AO.nK [1] ?_
  refine AW.sr ?_
  refine AO.ag rfl rfl ?_
  refine AO.nK [1, 3] ?_
  refine AW.seq_mid (fun ρ H => ∃ (n3 : Nat) (x4 : (List (Vector Int 4))), ρ = [(3, (.own n3 0 x4.length))] ∧ H = [(n3, (.mem (.ar 4 (x4.map e62))))] ∧ F97_c0 k x4 = some r) ?_ ?_
  ·refine AW.sr ?_
   refine AO.c (x := .ptr n2 1) (Calm.fldPtr rfl rfl Try.underlying121 rfl sz119 _ rfl) ?_
   refine AO.c (Calm.load 0 rfl rfl rfl (At.cast (At.fldS (At.fld0 At.here)) rfl) ag119 sz119) ?_
   refine AO.c (Calm.lenL rfl rfl Try.underlying119) ?_
   refine AO.mv rfl rfl ?_
   refine AO.nH [3, 7, 8, 9] (H' := []) (Sub.nil _) ?_
   refine AW.block ?_
   refine AW.nilOwn 3 4 rfl fun n19 => ?_
   refine AW.wK [3, 7, 8, 9] ?_
   refine AW.loop (fun kq ρ H => ∃ (n5 : Nat) (x6 : (List (Vector Int 4))) (x7 : Int), ρ = [(3, (.own n5 0 x6.length)), (7, (.fz 7 (p0.f1.map e152))), (8, (eI64 (p0.f1.length : Int))), (9, (eI64 x7))] ∧ H = [(n5, (.mem (.ar 4 (x6.map e62))))] ∧ F97_l2 k p0 kq x6 x7 = some r) k ⟨n19, ([] : List (Vector Int 4)), (0 : Int), rfl, rfl, h⟩ ?_
   rintro kq9 _ _ ⟨n5, x6, x7, rfl, rfl, h⟩
   cases kq9 with
   | zero => rw [F97_l2.eq_1] at h; cases h
   | succ kq9 =>
   rw [F97_l2.eq_2] at h
   generalize hrec8 : F97_l2 k p0 kq9 = rec8 at h
   refine AW.sr ?_
   refine AO.c (x := eBool (decide (x7 < (p0.f1.length : Int)))) (Calm.int rfl rfl rfl rfl) ?_
   refine AO.nK [3, 7, 8, 9, 10] ?_
   refine AW.seq ?_
   rcases of_ite h with ⟨hc10, h⟩ | ⟨hc10, h⟩
   ·refine AW.condP _ rfl hc10 ?_
    refine AW.sK [3, 7, 8, 9] ?_
    refine AW.seq_mid (fun ρ H => ∃ (n11 : Nat) (x12 : (List (Vector Int 4))), ρ = [(3, (.own n11 0 x12.length)), (7, (.fz 7 (p0.f1.map e152))), (8, (eI64 (p0.f1.length : Int))), (9, (eI64 x7))] ∧ H = [(n11, (.mem (.ar 4 (x12.map e62))))] ∧ F97_c1 k rec8 x7 x12 = some r) ?_ ?_
    ·refine AW.block ?_
     refine AW.sr ?_
     obtain ⟨hg13, h⟩ := of_guard h
     refine AO.c (Calm.idxL (f := e152) rfl rfl rfl hg13 Try.underlying119 sz152) ?_
     refine AO.c (Calm.loadRp rfl rfl ag152 sz152) ?_
     refine AO.alloc rfl 5 rfl (by decide) rfl zr152 lay152 fun n14 => ?_
     refine AO.store (X' := (e152 (lget p0.f1 x7))) 0 rfl rfl rfl rfl rfl rfl (Put.cast Put.here rfl) rfl rfl sz152 rfl ?_
     refine AO.nH [3, 5, 7, 8, 9] (H' := [(n5, (.mem (.ar 4 (x6.map e62)))), (n14, (.mem (e152 (lget p0.f1 x7))))]) (Sub.cons 1 rfl (Sub.cons 0 rfl (Sub.nil _))) ?_
     refine AW.sr ?_
     refine AO.c (x := .ptr n14 6) (Calm.fldPtr rfl rfl Try.underlying152 rfl sz4 _ rfl) ?_
     refine AO.c (Calm.load 1 rfl rfl rfl (At.cast (At.fldS (At.fldS (At.fldS (At.fld0 At.here)))) rfl) ag4 sz4) ?_
     refine AO.c (Calm.not rfl rfl) ?_
     refine AO.nK [3, 5, 7, 8, 9, 15] ?_
     rcases of_ite h with ⟨hc15, h⟩ | ⟨hc15, h⟩
     ·refine AW.condT' _ rfl hc15 ?_
      refine AW.reg ?_
      refine AO.mv rfl rfl ?_
      refine AO.c (x := .ptr n14 2) (Calm.fldPtr rfl rfl Try.underlying152 rfl sz62 _ rfl) ?_
      refine AO.c (Calm.load 1 rfl rfl rfl (At.cast (At.fldS (At.fldS (At.fld0 At.here))) rfl) ag62 (by rw [sz62]; simp [AV.size])) ?_
      refine AO.lit (Z := (.ar 1 ((Vector.replicate 4 (0 : Int)).toList.map eU64))) (xs := (([(lget p0.f1 x7).f2] : List (Vector Int 4)).map e62)) (qs := [(0, (.ar 1 (((lget p0.f1 x7).f2).toList.map eU64)))]) rfl 19 rfl (by decide) rfl ⟨rfl, rfl, rfl, trivial⟩ Try.underlying158 sz62 zr62 lay62 rfl (by decide) (litOK (z := 4) [(.ar 1 (((lget p0.f1 x7).f2).toList.map eU64))] (vec_size _ _) ⟨⟨rfl, (vec_size _ _)⟩, trivial⟩) rfl fun n16 => ?_
      obtain ⟨hg18, h⟩ := of_guard h
      refine AO.appendL (l := x6) (m := ([(lget p0.f1 x7).f2] : List (Vector Int 4))) 1 20 rfl (by decide) rfl rfl rfl rfl rfl (Src.ownL (f := e62) (l := ([(lget p0.f1 x7).f2] : List (Vector Int 4))) 0 rfl) Try.underlying158 Try.underlying158 sz62 by62 zr62 rfl hg18 (by decide) fun n17 => ?_
      refine AO.ag rfl rfl ?_
      refine AO.nH [3, 7, 8, 9] (H' := [(n17, (.mem (.ar 4 ((x6 ++ ([(lget p0.f1 x7).f2] : List (Vector Int 4))).map e62))))]) (Sub.cons 1 rfl (Sub.nil _)) ?_
      exact ⟨n17, (x6 ++ ([(lget p0.f1 x7).f2] : List (Vector Int 4))), rfl, rfl, h⟩
     ·refine AW.condF' _ rfl hc15 ?_
      refine AW.sH [3, 7, 8, 9] (H' := [(n5, (.mem (.ar 4 (x6.map e62))))]) (Sub.cons 0 rfl (Sub.nil _)) ?_
      exact ⟨n5, x6, rfl, rfl, h⟩
    ·rintro _ _ ⟨n11, x12, rfl, rfl, h⟩
     rw [F97_c1.eq_1] at h
     refine AW.reg ?_
     refine AO.c (x := eI64 (w64 (x7 + (1 : Int)))) (Calm.int rfl rfl rfl rfl) ?_
     refine AO.mv rfl rfl ?_
     refine AO.nK [3, 7, 8, 9] ?_
     exact ⟨kq9, Nat.lt_succ_self _, n11, x12, (w64 (x7 + (1 : Int))), rfl, rfl, by rw [hrec8]; exact h⟩
   ·refine AW.condN _ rfl hc10 ?_
    refine AW.eK [3] ?_
    exact ⟨n5, x6, rfl, rfl, h⟩
  ·rintro _ _ ⟨n3, x4, rfl, rfl, h⟩
   rw [F97_c0.eq_1] at h
   refine AW.sr ?_
   refine AO.mv rfl rfl ?_
   refine AO.ag rfl rfl ?_
   refine AO.nK [2] ?_
   refine AW.freezeS 0 [(2, (.fz 4 (x4.map e62)))] rfl ⟨fz_all rfl, trivial⟩ ?_
   refine AW.rK [2] ?_
   have hr := Option.some.inj h
   subst hr
   exact ⟨[(.fz 4 (x4.map e62))], ⟨rfl, rfl, trivial⟩, rfl⟩
end Go.Avl.T7
/- bosket/byteset.Has; printed by avmain.py. -/
namespace Go.Avl.T7
open Go Go.RowKit Go.Proofs Go.Avl
set_option linter.unusedVariables false
set_option maxRecDepth 100000
set_option maxHeartbeats 4000000
attribute [local irreducible] AW AO AQ Spec SpecH Calm

def F125 (k : Nat) (p0 : (Vector Int 4)) (p1 : Int) : Option Bool :=
  if 0 ≤ (IntKind.u8.wrap (p1.tdiv (64 : Int))) ∧ (IntKind.u8.wrap (p1.tdiv (64 : Int))) < (4 : Int) then if 0 ≤ (p1.tmod (64 : Int)) then some (decide ((bits .and .u64 (Int.fdiv (vget p0 (IntKind.u8.wrap (p1.tdiv (64 : Int)))) (2 ^ (min (p1.tmod (64 : Int)).toNat IntKind.u64.bits))) (1 : Int)) = (1 : Int)))
  else none
  else none
theorem F125_spec {k : Nat} {p0 : (Vector Int 4)} {p1 : Int} {r : Bool} (h : F125 k p0 p1 = some r) : Spec Try.prog 125 [(.ar 1 (p0.toList.map eU64)), (eU8 p1)] (eBool r) := by
  rw [F125.eq_1] at h
  refine Spec.intro (res := [.tmp 4]) Try.func125 rfl rfl rfl (Nat.le_of_ble_eq_true rfl) ?_
  refine AW.sr ?_
  refine AO.box rfl 2 rfl (by decide) rfl rfl rfl fun n3 => ?_
  refine AO.ag rfl rfl ?_
  refine AO.nK [1, 2] ?_
  refine AW.sr ?_
  refine AO.mv rfl rfl ?_
  refine AO.c (x := eU8 (IntKind.u8.wrap (p1.tdiv (64 : Int)))) (Calm.quo rfl rfl rfl (by decide)) ?_
  obtain ⟨hg4, h⟩ := of_guard h
  refine AO.c (Calm.idxP rfl rfl rfl hg4 Try.underlying62 sz60) ?_
  refine AO.c (Calm.load 0 rfl rfl rfl (At.cast (At.vidx (IntKind.u8.wrap (p1.tdiv (64 : Int))) hg4.1 hg4.2 At.here) (by omega)) ag60 sz60) ?_
  refine AO.mv rfl rfl ?_
  refine AO.c (x := eU8 (p1.tmod (64 : Int))) (Calm.rem rfl rfl rfl (by decide)) ?_
  obtain ⟨hg5, h⟩ := of_guard h
  refine AO.c (x := eU64 (Int.fdiv (vget p0 (IntKind.u8.wrap (p1.tdiv (64 : Int)))) (2 ^ (min (p1.tmod (64 : Int)).toNat IntKind.u64.bits)))) (Calm.shr rfl rfl rfl hg5) ?_
  refine AO.c (x := eU64 (bits .and .u64 (Int.fdiv (vget p0 (IntKind.u8.wrap (p1.tdiv (64 : Int)))) (2 ^ (min (p1.tmod (64 : Int)).toNat IntKind.u64.bits))) (1 : Int))) (Calm.int rfl rfl rfl rfl) ?_
  refine AO.c (x := eBool (decide ((bits .and .u64 (Int.fdiv (vget p0 (IntKind.u8.wrap (p1.tdiv (64 : Int)))) (2 ^ (min (p1.tmod (64 : Int)).toNat IntKind.u64.bits))) (1 : Int)) = (1 : Int)))) (Calm.int rfl rfl rfl rfl) ?_
  refine AO.ag rfl rfl ?_
  refine AO.nH [4] (H' := []) (Sub.nil _) ?_
  refine AW.rK [4] ?_
  have hr := Option.some.inj h
  subst hr
  exact ⟨[(eBool (decide ((bits .and .u64 (Int.fdiv (vget p0 (IntKind.u8.wrap (p1.tdiv (64 : Int)))) (2 ^ (min (p1.tmod (64 : Int)).toNat IntKind.u64.bits))) (1 : Int)) = (1 : Int))))], ⟨rfl, rfl, trivial⟩, rfl⟩
end Go.Avl.T7
/- bosket/byteset.key; printed by avmain.py. -/
namespace Go.Avl.T7
open Go Go.RowKit Go.Proofs Go.Avl
set_option linter.unusedVariables false
set_option maxRecDepth 100000
set_option maxHeartbeats 4000000
attribute [local irreducible] AW AO AQ Spec SpecH Calm

def F122_c0 (k : Nat) (x5 : (List Int)) : Option ByteArray :=
  some ((strOfNums x5))
def F122_c1 (k : Nat) (rec8 : ((List Int) → Int → Option ByteArray)) (x7 : Int) (x11 : (List Int)) : Option ByteArray :=
  rec8 x11 (w64 (x7 + (1 : Int)))
def F122_l2 (k : Nat) (p0 : (List (Vector Int 4))) (p1 : Int) : Nat → (List Int) → Int → Option ByteArray
  | 0, _, _ => none
  | j + 1, x6, x7 =>
    if x7 < (p0.length : Int) then if 0 ≤ x7 ∧ x7 < (p0.length : Int) then (F125 k (lget p0 x7) p1).bind fun t14 =>
    if t14 = true then if 0 ≤ (IntKind.i64.wrap (x7.tdiv (8 : Int))) ∧ (IntKind.i64.wrap (x7.tdiv (8 : Int))) < (x6.length : Int) then if 0 ≤ (u64 (x7.tmod (8 : Int))) then if 0 ≤ (IntKind.i64.wrap (x7.tdiv (8 : Int))) ∧ (IntKind.i64.wrap (x7.tdiv (8 : Int))) < (x6.length : Int) then F122_c1 k (F122_l2 k p0 p1 j) x7 (lset x6 (IntKind.i64.wrap (x7.tdiv (8 : Int))) (bits .or .u8 (lget x6 (IntKind.i64.wrap (x7.tdiv (8 : Int)))) (IntKind.u8.wrap ((1 : Int) * 2 ^ (min (u64 (x7.tmod (8 : Int))).toNat IntKind.u8.bits)))))
    else none
    else none
    else none
    else F122_c1 k (F122_l2 k p0 p1 j) x7 x6
    else none
    else F122_c0 k x6
def F122 (k : Nat) (p0 : (List (Vector Int 4))) (p1 : Int) : Option ByteArray :=
  if 0 ≤ (IntKind.i64.wrap ((w64 ((p0.length : Int) + (7 : Int))).tdiv (8 : Int))) ∧ (IntKind.i64.wrap ((w64 ((p0.length : Int) + (7 : Int))).tdiv (8 : Int))) * (1 : Int) ≤ 140737488355328 ∧ (IntKind.i64.wrap ((w64 ((p0.length : Int) + (7 : Int))).tdiv (8 : Int))) ≤ 9223372036854775807 then F122_l2 k p0 p1 k (List.replicate (IntKind.i64.wrap ((w64 ((p0.length : Int) + (7 : Int))).tdiv (8 : Int))).toNat (0 : Int)) (0 : Int)
  else none
theorem F122_spec {k : Nat} {p0 : (List (Vector Int 4))} {p1 : Int} {r : ByteArray} (h : F122 k p0 p1 = some r) : Spec Try.prog 122 [(.fz 4 (p0.map e62)), (eU8 p1)] (eStr r) := by
  rw [F122.eq_1] at h
  refine Spec.intro (res := [.tmp 4]) Try.func122 rfl rfl rfl (Nat.le_of_ble_eq_true rfl) ?_
  refine AW.sr ?_
  refine AO.ag rfl rfl ?_
  refine AO.nK [0, 1] ?_
  refine AW.sr ?_
  refine AO.mv rfl rfl ?_
  refine AO.c (Calm.lenL rfl rfl Try.underlying158) ?_
  refine AO.c (x := eI64 (w64 ((p0.length : Int) + (7 : Int)))) (Calm.int rfl rfl rfl rfl) ?_
  refine AO.c (x := eI64 (IntKind.i64.wrap ((w64 ((p0.length : Int) + (7 : Int))).tdiv (8 : Int)))) (Calm.quo rfl rfl rfl (by decide)) ?_
  obtain ⟨hg4, h⟩ := of_guard h
  refine AO.makeL (f := eU8) (0 : Int) rfl 12 rfl (by decide) rfl rfl rfl Try.underlying102 sz5 by5 zr5 lay5 rfl hg4 fun n3 => ?_
  refine AO.ag rfl rfl ?_
  refine AO.nK [0, 1, 5] ?_
  refine AW.seq_mid (fun ρ H => ∃ (x5 : (List Int)), ρ = [(5, (.own n3 0 x5.length))] ∧ H = [(n3, (.mem (.ar 1 (x5.map eU8))))] ∧ F122_c0 k x5 = some r) ?_ ?_
  ·refine AW.sr ?_
   refine AO.mv rfl rfl ?_
   refine AO.c (Calm.lenL rfl rfl Try.underlying158) ?_
   refine AO.mv rfl rfl ?_
   refine AO.nK [1, 5, 13, 14, 15] ?_
   refine AW.block ?_
   refine AW.wK [1, 5, 13, 14, 15] ?_
   refine AW.loop (fun kq ρ H => ∃ (x6 : (List Int)) (x7 : Int), ρ = [(1, (eU8 p1)), (5, (.own n3 0 x6.length)), (13, (.fz 4 (p0.map e62))), (14, (eI64 (p0.length : Int))), (15, (eI64 x7))] ∧ H = [(n3, (.mem (.ar 1 (x6.map eU8))))] ∧ F122_l2 k p0 p1 kq x6 x7 = some r) k ⟨(List.replicate (IntKind.i64.wrap ((w64 ((p0.length : Int) + (7 : Int))).tdiv (8 : Int))).toNat (0 : Int)), (0 : Int), rfl, rfl, h⟩ ?_
   rintro kq9 _ _ ⟨x6, x7, rfl, rfl, h⟩
   cases kq9 with
   | zero => rw [F122_l2.eq_1] at h; cases h
   | succ kq9 =>
   rw [F122_l2.eq_2] at h
   generalize hrec8 : F122_l2 k p0 p1 kq9 = rec8 at h
   refine AW.sr ?_
   refine AO.c (x := eBool (decide (x7 < (p0.length : Int)))) (Calm.int rfl rfl rfl rfl) ?_
   refine AO.nK [1, 5, 13, 14, 15, 16] ?_
   refine AW.seq ?_
   rcases of_ite h with ⟨hc10, h⟩ | ⟨hc10, h⟩
   ·refine AW.condP _ rfl hc10 ?_
    refine AW.sK [1, 5, 13, 14, 15] ?_
    refine AW.seq_mid (fun ρ H => ∃ (x11 : (List Int)), ρ = [(1, (eU8 p1)), (5, (.own n3 0 x11.length)), (13, (.fz 4 (p0.map e62))), (14, (eI64 (p0.length : Int))), (15, (eI64 x7))] ∧ H = [(n3, (.mem (.ar 1 (x11.map eU8))))] ∧ F122_c1 k rec8 x7 x11 = some r) ?_ ?_
    ·refine AW.block ?_
     refine AW.sr ?_
     refine AO.mv rfl rfl ?_
     obtain ⟨hg12, h⟩ := of_guard h
     refine AO.c (Calm.idxL (f := e62) rfl rfl rfl hg12 Try.underlying158 sz62) ?_
     refine AO.c (Calm.loadRp rfl rfl ag62 (by rw [sz62]; simp [AV.size])) ?_
     refine AO.alloc rfl 7 rfl (by decide) rfl zr62 lay62 fun n13 => ?_
     refine AO.ag rfl rfl ?_
     refine AO.store (X' := (.ar 1 ((lget p0 x7).toList.map eU64))) 0 rfl rfl rfl rfl rfl rfl (Put.cast Put.here rfl) rfl (by simp [AV.size]) (by rw [sz62]; simp [AV.size]) rfl ?_
     refine AO.nH [1, 5, 6, 7, 13, 14, 15] (H' := [(n3, (.mem (.ar 1 (x6.map eU8)))), (n13, (.mem (.ar 1 ((lget p0 x7).toList.map eU64))))]) (Sub.cons 1 rfl (Sub.cons 0 rfl (Sub.nil _))) ?_
     refine AW.sr ?_
     refine AO.c (Calm.load 1 rfl rfl rfl (At.cast At.here rfl) ag62 (by rw [sz62]; simp [AV.size])) ?_
     refine AO.mv rfl rfl ?_
     obtain ⟨t14, et14, h⟩ := of_bind h
     refine AO.callS [(.ar 1 ((lget p0 x7).toList.map eU64)), (eU8 p1)] (eBool t14) 22 rfl (by decide) ok125 rfl rfl rfl ⟨rfl, rfl, rfl, rfl, trivial⟩ (F125_spec et14) ?_
     refine AO.nH [1, 5, 6, 13, 14, 15, 22] (H' := [(n3, (.mem (.ar 1 (x6.map eU8))))]) (Sub.cons 0 rfl (Sub.nil _)) ?_
     rcases of_ite h with ⟨hc15, h⟩ | ⟨hc15, h⟩
     ·refine AW.condT' _ rfl hc15 ?_
      refine AW.reg ?_
      refine AO.mv rfl rfl ?_
      refine AO.mv rfl rfl ?_
      refine AO.c (x := eI64 (IntKind.i64.wrap (x7.tdiv (8 : Int)))) (Calm.quo rfl rfl rfl (by decide)) ?_
      obtain ⟨hg16, h⟩ := of_guard h
      refine AO.c (Calm.idxO 0 rfl rfl rfl rfl hg16 Try.underlying102 sz5) ?_
      refine AO.c (Calm.load 0 rfl rfl rfl (At.cast (At.lidx (IntKind.i64.wrap (x7.tdiv (8 : Int))) hg16.1 hg16.2 At.here) (by omega)) ag5 sz5) ?_
      refine AO.mv rfl rfl ?_
      refine AO.c (x := eI64 (x7.tmod (8 : Int))) (Calm.rem rfl rfl rfl (by decide)) ?_
      refine AO.c (x := eU64 (u64 (x7.tmod (8 : Int)))) (Calm.conv rfl rfl Try.underlying3 Try.underlying186) ?_
      obtain ⟨hg17, h⟩ := of_guard h
      refine AO.c (x := eU8 (IntKind.u8.wrap ((1 : Int) * 2 ^ (min (u64 (x7.tmod (8 : Int))).toNat IntKind.u8.bits)))) (Calm.shl rfl rfl rfl hg17) ?_
      refine AO.c (x := eU8 (bits .or .u8 (lget x6 (IntKind.i64.wrap (x7.tdiv (8 : Int)))) (IntKind.u8.wrap ((1 : Int) * 2 ^ (min (u64 (x7.tmod (8 : Int))).toNat IntKind.u8.bits))))) (Calm.int rfl rfl rfl rfl) ?_
      obtain ⟨hg18, h⟩ := of_guard h
      refine AO.c (Calm.idxO 0 rfl rfl rfl rfl hg18 Try.underlying102 sz5) ?_
      refine AO.store (X' := (.ar 1 ((lset x6 (IntKind.i64.wrap (x7.tdiv (8 : Int))) (bits .or .u8 (lget x6 (IntKind.i64.wrap (x7.tdiv (8 : Int)))) (IntKind.u8.wrap ((1 : Int) * 2 ^ (min (u64 (x7.tmod (8 : Int))).toNat IntKind.u8.bits))))).map eU8))) 0 rfl rfl rfl rfl rfl rfl (Put.cast (Put.lidx (IntKind.i64.wrap (x7.tdiv (8 : Int))) (bits .or .u8 (lget x6 (IntKind.i64.wrap (x7.tdiv (8 : Int)))) (IntKind.u8.wrap ((1 : Int) * 2 ^ (min (u64 (x7.tmod (8 : Int))).toNat IntKind.u8.bits)))) hg18.1 hg18.2 Put.here) (by omega)) rfl rfl sz5 rfl ?_
      refine AO.coe 5 (y' := (.own n3 0 (lset x6 (IntKind.i64.wrap (x7.tdiv (8 : Int))) (bits .or .u8 (lget x6 (IntKind.i64.wrap (x7.tdiv (8 : Int)))) (IntKind.u8.wrap ((1 : Int) * 2 ^ (min (u64 (x7.tmod (8 : Int))).toNat IntKind.u8.bits))))).length)) rfl (fun _ _ h => lset_own h) ?_
      refine AO.coe 23 (y' := (.own n3 0 (lset x6 (IntKind.i64.wrap (x7.tdiv (8 : Int))) (bits .or .u8 (lget x6 (IntKind.i64.wrap (x7.tdiv (8 : Int)))) (IntKind.u8.wrap ((1 : Int) * 2 ^ (min (u64 (x7.tmod (8 : Int))).toNat IntKind.u8.bits))))).length)) rfl (fun _ _ h => lset_own h) ?_
      refine AO.nK [1, 5, 13, 14, 15] ?_
      exact ⟨(lset x6 (IntKind.i64.wrap (x7.tdiv (8 : Int))) (bits .or .u8 (lget x6 (IntKind.i64.wrap (x7.tdiv (8 : Int)))) (IntKind.u8.wrap ((1 : Int) * 2 ^ (min (u64 (x7.tmod (8 : Int))).toNat IntKind.u8.bits))))), rfl, rfl, h⟩
     ·refine AW.condF' _ rfl hc15 ?_
      refine AW.sK [1, 5, 13, 14, 15] ?_
      exact ⟨x6, rfl, rfl, h⟩
    ·rintro _ _ ⟨x11, rfl, rfl, h⟩
     rw [F122_c1.eq_1] at h
     refine AW.reg ?_
     refine AO.c (x := eI64 (w64 (x7 + (1 : Int)))) (Calm.int rfl rfl rfl rfl) ?_
     refine AO.mv rfl rfl ?_
     refine AO.nK [1, 5, 13, 14, 15] ?_
     exact ⟨kq9, Nat.lt_succ_self _, x11, (w64 (x7 + (1 : Int))), rfl, rfl, by rw [hrec8]; exact h⟩
   ·refine AW.condN _ rfl hc10 ?_
    refine AW.eK [5] ?_
    exact ⟨x6, rfl, rfl, h⟩
  ·rintro _ _ ⟨x5, rfl, rfl, h⟩
   rw [F122_c0.eq_1] at h
   refine AW.sr ?_
   refine AO.mv rfl rfl ?_
   refine AO.c (x := eStr (strOfNums x5)) (Calm.strO 0 rfl rfl rfl Try.underlying102 Try.underlying9 Try.underlying5) ?_
   refine AO.ag rfl rfl ?_
   refine AO.nH [4] (H' := []) (Sub.nil _) ?_
   refine AW.rK [4] ?_
   have hr := Option.some.inj h
   subst hr
   exact ⟨[(eStr (strOfNums x5))], ⟨rfl, rfl, trivial⟩, rfl⟩
end Go.Avl.T7
/- bosket/byteset.Classes; printed by avmain.py. -/
namespace Go.Avl.T7
open Go Go.RowKit Go.Proofs Go.Avl
set_option linter.unusedVariables false
set_option maxRecDepth 100000
set_option maxHeartbeats 4000000
attribute [local irreducible] AW AO AQ Spec SpecH Calm

def F96_c0 (k : Nat) (x5 : (Vector Int 256)) : Option (Vector Int 256) :=
  some (x5)
def F96_c1 (k : Nat) (rec9 : ((Vector Int 256) → (List (ByteArray × Int)) → Int → Option (Vector Int 256))) (x6 : (Vector Int 256)) (x8 : Int) (x13 : (List (ByteArray × Int))) (x14 : Int) : Option (Vector Int 256) :=
  if 0 ≤ x8 ∧ x8 < (256 : Int) then rec9 (vset x6 x8 (w8 x14)) x13 (w64 (x8 + (1 : Int)))
  else none
def F96_l2 (k : Nat) (p0 : (List (Vector Int 4))) : Nat → (Vector Int 256) → (List (ByteArray × Int)) → Int → Option (Vector Int 256)
  | 0, _, _, _ => none
  | j + 1, x6, x7, x8 =>
    if x8 < (256 : Int) then (F122 k p0 (w8 x8)).bind fun t12 =>
    if (!((mget x7 t12).isSome)) = true then F96_c1 k (F96_l2 k p0 j) x6 x8 (mput x7 t12 (x7.length : Int)) (x7.length : Int)
    else F96_c1 k (F96_l2 k p0 j) x6 x8 x7 ((mget x7 t12).getD (0 : Int))
    else F96_c0 k x6
def F96 (k : Nat) (p0 : (List (Vector Int 4))) : Option (Vector Int 256) :=
  F96_l2 k p0 k (Vector.replicate 256 (0 : Int)) ([] : List (ByteArray × Int)) (0 : Int)
theorem F96_spec {k : Nat} {p0 : (List (Vector Int 4))} {r : (Vector Int 256)} (h : F96 k p0 = some r) : Spec Try.prog 96 [(.fz 4 (p0.map e62))] (e52 r) := by
  rw [F96.eq_1] at h
  refine Spec.intro (res := [.cell 2 52]) Try.func96 rfl rfl rfl (Nat.le_of_ble_eq_true rfl) ?_
  refine AW.sr ?_
  refine AO.alloc rfl 2 rfl (by decide) rfl zr52 lay52 fun n2 => ?_
  refine AO.nK [0, 2] ?_
  refine AW.sr ?_
  refine AO.alloc rfl 3 rfl (by decide) rfl zr52 lay52 fun n3 => ?_
  refine AO.nH [0, 2, 3] (H' := [(n2, (.mem (.ar 1 ((Vector.replicate 256 (0 : Int)).toList.map eU8)))), (n3, (.mem (.ar 1 ((Vector.replicate 256 (0 : Int)).toList.map eU8))))]) (Sub.cons 1 rfl (Sub.cons 0 rfl (Sub.nil _))) ?_
  refine AW.sr ?_
  refine AO.makeMap rfl 9 rfl (by decide) rfl fun n4 => ?_
  refine AO.ag rfl rfl ?_
  refine AO.nH [0, 2, 3, 4] (H' := [(n2, (.mem (.ar 1 ((Vector.replicate 256 (0 : Int)).toList.map eU8)))), (n3, (.mem (.ar 1 ((Vector.replicate 256 (0 : Int)).toList.map eU8)))), (n4, (.map (encM Value.string eI64 ([] : List (ByteArray × Int)))))]) (Sub.cons 1 rfl (Sub.cons 1 rfl (Sub.cons 0 rfl (Sub.nil _)))) ?_
  refine AW.seq_mid (fun ρ H => ∃ (x5 : (Vector Int 256)), ρ = [(2, (.ptr n2 0)), (3, (.ptr n3 0))] ∧ H = [(n2, (.mem (.ar 1 ((Vector.replicate 256 (0 : Int)).toList.map eU8)))), (n3, (.mem (.ar 1 (x5.toList.map eU8))))] ∧ F96_c0 k x5 = some r) ?_ ?_
  ·refine AW.sr ?_
   refine AO.mv rfl rfl ?_
   refine AO.nK [0, 2, 3, 4, 10] ?_
   refine AW.block ?_
   refine AW.wK [0, 2, 3, 4, 10] ?_
   refine AW.loop (fun kq ρ H => ∃ (x6 : (Vector Int 256)) (x7 : (List (ByteArray × Int))) (x8 : Int), ρ = [(0, (.fz 4 (p0.map e62))), (2, (.ptr n2 0)), (3, (.ptr n3 0)), (4, (.mp n4)), (10, (eI64 x8))] ∧ H = [(n2, (.mem (.ar 1 ((Vector.replicate 256 (0 : Int)).toList.map eU8)))), (n3, (.mem (.ar 1 (x6.toList.map eU8)))), (n4, (.map (encM Value.string eI64 x7)))] ∧ F96_l2 k p0 kq x6 x7 x8 = some r) k ⟨(Vector.replicate 256 (0 : Int)), ([] : List (ByteArray × Int)), (0 : Int), rfl, rfl, h⟩ ?_
   rintro kq10 _ _ ⟨x6, x7, x8, rfl, rfl, h⟩
   cases kq10 with
   | zero => rw [F96_l2.eq_1] at h; cases h
   | succ kq10 =>
   rw [F96_l2.eq_2] at h
   generalize hrec9 : F96_l2 k p0 kq10 = rec9 at h
   refine AW.sr ?_
   refine AO.c (x := eBool (decide (x8 < (256 : Int)))) (Calm.int rfl rfl rfl rfl) ?_
   refine AO.nK [0, 2, 3, 4, 10, 11] ?_
   refine AW.seq ?_
   rcases of_ite h with ⟨hc11, h⟩ | ⟨hc11, h⟩
   ·refine AW.condP _ rfl hc11 ?_
    refine AW.sK [0, 2, 3, 4, 10] ?_
    refine AW.seq ?_
    refine AW.block ?_
    refine AW.sr ?_
    refine AO.mv rfl rfl ?_
    refine AO.ag rfl rfl ?_
    refine AO.nK [0, 2, 3, 4, 5, 10] ?_
    refine AW.sr ?_
    refine AO.mv rfl rfl ?_
    refine AO.mv rfl rfl ?_
    refine AO.c (x := eU8 (w8 x8)) (Calm.conv rfl rfl Try.underlying3 Try.underlying5) ?_
    obtain ⟨t12, et12, h⟩ := of_bind h
    refine AO.callS [(.fz 4 (p0.map e62)), (eU8 (w8 x8))] (eStr t12) 16 rfl (by decide) ok122 rfl rfl rfl ⟨rfl, rfl, rfl, rfl, trivial⟩ (F122_spec et12) ?_
    refine AO.ag rfl rfl ?_
    refine AO.nK [0, 2, 3, 4, 5, 6, 10] ?_
    refine AW.sr ?_
    refine AO.mv rfl rfl ?_
    refine AO.mv rfl rfl ?_
    refine AO.c (x := .tup [(eI64 ((mget x7 t12).getD (0 : Int))), (eBool ((mget x7 t12).isSome))]) (Calm.look2 (f := eI64) string_inj string_key (0 : Int) 2 rfl rfl rfl rfl Try.underlying109 Try.underlying9 mz3) ?_
    refine AO.mv rfl rfl ?_
    refine AO.c (Calm.extract rfl rfl rfl) ?_
    refine AO.c (Calm.extract rfl rfl rfl) ?_
    refine AO.ag rfl rfl ?_
    refine AO.ag rfl rfl ?_
    refine AO.nK [0, 2, 3, 4, 5, 6, 7, 8, 10] ?_
    refine AW.seq_mid (fun ρ H => ∃ (x13 : (List (ByteArray × Int))) (x14 : Int), ρ = [(0, (.fz 4 (p0.map e62))), (2, (.ptr n2 0)), (3, (.ptr n3 0)), (4, (.mp n4)), (5, (eI64 x8)), (7, (eI64 x14)), (10, (eI64 x8))] ∧ H = [(n2, (.mem (.ar 1 ((Vector.replicate 256 (0 : Int)).toList.map eU8)))), (n3, (.mem (.ar 1 (x6.toList.map eU8)))), (n4, (.map (encM Value.string eI64 x13)))] ∧ F96_c1 k rec9 x6 x8 x13 x14 = some r) ?_ ?_
    ·refine AW.sr ?_
     refine AO.mv rfl rfl ?_
     refine AO.c (Calm.not rfl rfl) ?_
     refine AO.nK [0, 2, 3, 4, 5, 6, 7, 10, 24] ?_
     rcases of_ite h with ⟨hc16, h⟩ | ⟨hc16, h⟩
     ·refine AW.condT' _ rfl hc16 ?_
      refine AW.sr ?_
      refine AO.mv rfl rfl ?_
      refine AO.c (x := eI64 (x7.length : Int)) (Calm.lenMap 2 rfl rfl rfl Try.underlying109) ?_
      refine AO.ag rfl rfl ?_
      refine AO.nK [0, 2, 3, 4, 5, 6, 7, 10] ?_
      refine AW.reg ?_
      refine AO.mv rfl rfl ?_
      refine AO.mv rfl rfl ?_
      refine AO.mv rfl rfl ?_
      refine AO.mapPut (f := eI64) string_inj string_key 2 rfl rfl rfl rfl rfl rfl rfl rfl Try.underlying109 Try.underlying9 ?_
      refine AO.nK [0, 2, 3, 4, 5, 7, 10] ?_
      exact ⟨(mput x7 t12 (x7.length : Int)), (x7.length : Int), rfl, rfl, h⟩
     ·refine AW.condF' _ rfl hc16 ?_
      refine AW.sK [0, 2, 3, 4, 5, 7, 10] ?_
      exact ⟨x7, ((mget x7 t12).getD (0 : Int)), rfl, rfl, h⟩
    ·rintro _ _ ⟨x13, x14, rfl, rfl, h⟩
     rw [F96_c1.eq_1] at h
     refine AW.reg ?_
     refine AO.mv rfl rfl ?_
     refine AO.mv rfl rfl ?_
     refine AO.c (x := eU8 (w8 x14)) (Calm.conv rfl rfl Try.underlying3 Try.underlying5) ?_
     obtain ⟨hg15, h⟩ := of_guard h
     refine AO.c (Calm.idxP rfl rfl rfl hg15 Try.underlying52 sz5) ?_
     refine AO.store (X' := (.ar 1 ((vset x6 x8 (w8 x14)).toList.map eU8))) 1 rfl rfl rfl rfl rfl rfl (Put.cast (Put.vidx x8 (w8 x14) hg15.1 hg15.2 Put.here) (by omega)) rfl rfl sz5 rfl ?_
     refine AO.nK [0, 2, 3, 4, 10] ?_
     refine AW.reg ?_
     refine AO.c (x := eI64 (w64 (x8 + (1 : Int)))) (Calm.int rfl rfl rfl rfl) ?_
     refine AO.mv rfl rfl ?_
     refine AO.nK [0, 2, 3, 4, 10] ?_
     exact ⟨kq10, Nat.lt_succ_self _, (vset x6 x8 (w8 x14)), x13, (w64 (x8 + (1 : Int))), rfl, rfl, by rw [hrec9]; exact h⟩
   ·refine AW.condN _ rfl hc11 ?_
    refine AW.eH [2, 3] (H' := [(n2, (.mem (.ar 1 ((Vector.replicate 256 (0 : Int)).toList.map eU8)))), (n3, (.mem (.ar 1 (x6.toList.map eU8))))]) (Sub.cons 0 rfl (Sub.cons 0 rfl (Sub.nil _))) ?_
    exact ⟨x6, rfl, rfl, h⟩
  ·rintro _ _ ⟨x5, rfl, rfl, h⟩
   rw [F96_c0.eq_1] at h
   refine AW.sr ?_
   refine AO.c (Calm.load 1 rfl rfl rfl (At.cast At.here rfl) ag52 (by rw [sz52]; simp [AV.size])) ?_
   refine AO.store (X' := (.ar 1 (x5.toList.map eU8))) 0 rfl rfl rfl rfl rfl rfl (Put.cast Put.here rfl) rfl (by simp [AV.size]) (by rw [sz52]; simp [AV.size]) rfl ?_
   refine AO.nH [2] (H' := [(n2, (.mem (.ar 1 (x5.toList.map eU8))))]) (Sub.cons 0 rfl (Sub.nil _)) ?_
   refine AW.rK [2] ?_
   have hr := Option.some.inj h
   subst hr
   exact ⟨[(.ar 1 (x5.toList.map eU8))], ⟨⟨_, 0, rfl, rfl, ag52, (by rw [sz52]; simp [AV.size])⟩, trivial⟩, rfl⟩
end Go.Avl.T7
/- bosket/nfa.Close; printed by avmain.py. -/
namespace Go.Avl.T7
open Go Go.RowKit Go.Proofs Go.Avl
set_option linter.unusedVariables false
set_option maxRecDepth 100000
set_option maxHeartbeats 4000000
attribute [local irreducible] AW AO AQ Spec SpecH Calm

def F99_c0 (k : Nat) (x6 : (List Bool)) : Option (List Bool) :=
  some (x6)
def F99_c1 (k : Nat) (rec15 : ((List Bool) → Bool → Int → Option (List Bool))) (x14 : Int) (x18 : (List Bool)) (b19 : Bool) : Option (List Bool) :=
  rec15 x18 b19 (w64 (x14 + (1 : Int)))
def F99_l2 (k : Nat) (rec9 : ((List Bool) → Bool → Option (List Bool))) (p0 : S121) : Nat → (List Bool) → Bool → Int → Option (List Bool)
  | 0, _, _, _ => none
  | j + 1, x12, b13, x14 =>
    if x14 < (p0.f1.length : Int) then if 0 ≤ x14 ∧ x14 < (p0.f1.length : Int) then Option.bind (α := Bool) (if ((lget p0.f1 x14).f3) = true then if 0 ≤ ((lget p0.f1 x14).f0) ∧ ((lget p0.f1 x14).f0) < (x12.length : Int) then if (lget x12 ((lget p0.f1 x14).f0)) = true then if 0 ≤ ((lget p0.f1 x14).f1) ∧ ((lget p0.f1 x14).f1) < (x12.length : Int) then some (!(lget x12 ((lget p0.f1 x14).f1)))
    else none
    else some (false)
    else none
    else some (false)) fun b22 =>
    if b22 = true then if 0 ≤ ((lget p0.f1 x14).f1) ∧ ((lget p0.f1 x14).f1) < (x12.length : Int) then F99_c1 k (F99_l2 k rec9 p0 j) x14 (lset x12 ((lget p0.f1 x14).f1) true) true
    else none
    else F99_c1 k (F99_l2 k rec9 p0 j) x14 x12 b13
    else none
    else rec9 x12 b13
def F99_l3 (k : Nat) (p0 : S121) : Nat → (List Bool) → Bool → Option (List Bool)
  | 0, _, _ => none
  | j + 1, x7, b8 =>
    if b8 = true then F99_l2 k (F99_l3 k p0 j) p0 k x7 false (0 : Int)
    else F99_c0 k x7
def F99 (k : Nat) (p0 : S121) (p1 : (List Bool)) : Option (List Bool) :=
  if 0 ≤ p0.f0 ∧ p0.f0 * (1 : Int) ≤ 140737488355328 ∧ p0.f0 ≤ 9223372036854775807 then F99_l3 k p0 k (lcopy (List.replicate p0.f0.toNat false) p1) true
  else none
theorem F99_spec {k : Nat} {p0 : S121} {p1 : (List Bool)} {r : (List Bool)} (h : F99 k p0 p1 = some r) : Spec Try.prog 99 [(e121 p0), (.fz 1 (p1.map eBool))] (e98 r) := by
  rw [F99.eq_1] at h
  refine Spec.intro (res := [.tmp 4]) Try.func99 rfl rfl rfl (Nat.le_of_ble_eq_true rfl) ?_
  refine AW.sr ?_
  refine AO.box rfl 2 rfl (by decide) rfl rfl rfl fun n3 => ?_
  refine AO.ag rfl rfl ?_
  refine AO.nK [1, 2] ?_
  refine AW.sr ?_
  refine AO.c (x := .ptr n3 0) (Calm.fldPtr rfl rfl Try.underlying121 rfl sz3 _ rfl) ?_
  refine AO.c (Calm.load 0 rfl rfl rfl (At.cast (At.fld0 At.here) rfl) ag3 sz3) ?_
  obtain ⟨hg5, h⟩ := of_guard h
  refine AO.makeL (f := eBool) false rfl 11 rfl (by decide) rfl rfl rfl Try.underlying98 sz4 by4 zr4 lay4 rfl hg5 fun n4 => ?_
  refine AO.ag rfl rfl ?_
  refine AO.nH [1, 2, 5] (H' := [(n3, (.mem (e121 p0))), (n4, (.mem (.ar 1 ((List.replicate p0.f0.toNat false).map eBool))))]) (Sub.cons 1 rfl (Sub.cons 0 rfl (Sub.nil _))) ?_
  refine AW.sr ?_
  refine AO.mv rfl rfl ?_
  refine AO.mv rfl rfl ?_
  refine AO.copyL (l := (List.replicate p0.f0.toNat false)) (m := p1) (f := eBool) 1 14 rfl (by decide) rfl rfl rfl rfl rfl Try.underlying98 sz4 ?_
  refine AO.coe 5 (y' := (.own n4 0 (lcopy (List.replicate p0.f0.toNat false) p1).length)) rfl (fun _ _ h => lcopy_own h) ?_
  refine AO.coe 12 (y' := (.own n4 0 (lcopy (List.replicate p0.f0.toNat false) p1).length)) rfl (fun _ _ h => lcopy_own h) ?_
  refine AO.nK [2, 5] ?_
  refine AW.seq_mid (fun ρ H => ∃ (x6 : (List Bool)), ρ = [(5, (.own n4 0 x6.length))] ∧ H = [(n4, (.mem (.ar 1 (x6.map eBool))))] ∧ F99_c0 k x6 = some r) ?_ ?_
  ·refine AW.sr ?_
   refine AO.ag rfl rfl ?_
   refine AO.nK [2, 5, 6] ?_
   refine AW.block ?_
   refine AW.wK [2, 5, 6] ?_
   refine AW.loop (fun kq ρ H => ∃ (x7 : (List Bool)) (b8 : Bool), ρ = [(2, (.ptr n3 0)), (5, (.own n4 0 x7.length)), (6, (eBool b8))] ∧ H = [(n3, (.mem (e121 p0))), (n4, (.mem (.ar 1 (x7.map eBool))))] ∧ F99_l3 k p0 kq x7 b8 = some r) k ⟨(lcopy (List.replicate p0.f0.toNat false) p1), true, rfl, rfl, h⟩ ?_
   rintro kq10 _ _ ⟨x7, b8, rfl, rfl, h⟩
   cases kq10 with
   | zero => rw [F99_l3.eq_1] at h; cases h
   | succ kq10 =>
   rw [F99_l3.eq_2] at h
   generalize hrec9 : F99_l3 k p0 kq10 = rec9 at h
   refine AW.seq ?_
   refine AW.sr ?_
   refine AO.mv rfl rfl ?_
   refine AO.nK [2, 5, 15] ?_
   rcases of_ite h with ⟨hc11, h⟩ | ⟨hc11, h⟩
   ·refine AW.condT' _ rfl hc11 ?_
    refine AW.sK [2, 5] ?_
    refine AW.block ?_
    refine AW.sr ?_
    refine AO.ag rfl rfl ?_
    refine AO.nK [2, 5, 6] ?_
    refine AW.sr ?_
    refine AO.c (x := .ptr n3 1) (Calm.fldPtr rfl rfl Try.underlying121 rfl sz119 _ rfl) ?_
    refine AO.c (Calm.load 0 rfl rfl rfl (At.cast (At.fldS (At.fld0 At.here)) rfl) ag119 sz119) ?_
    refine AO.c (Calm.lenL rfl rfl Try.underlying119) ?_
    refine AO.mv rfl rfl ?_
    refine AO.nK [2, 5, 6, 17, 18, 19] ?_
    refine AW.block ?_
    refine AW.wK [2, 5, 6, 17, 18, 19] ?_
    refine AW.loop (fun kq ρ H => ∃ (x12 : (List Bool)) (b13 : Bool) (x14 : Int), ρ = [(2, (.ptr n3 0)), (5, (.own n4 0 x12.length)), (6, (eBool b13)), (17, (.fz 7 (p0.f1.map e152))), (18, (eI64 (p0.f1.length : Int))), (19, (eI64 x14))] ∧ H = [(n3, (.mem (e121 p0))), (n4, (.mem (.ar 1 (x12.map eBool))))] ∧ F99_l2 k rec9 p0 kq x12 b13 x14 = some r) k ⟨x7, false, (0 : Int), rfl, rfl, h⟩ ?_
    rintro kq16 _ _ ⟨x12, b13, x14, rfl, rfl, h⟩
    cases kq16 with
    | zero => rw [F99_l2.eq_1] at h; cases h
    | succ kq16 =>
    rw [F99_l2.eq_2] at h
    generalize hrec15 : F99_l2 k rec9 p0 kq16 = rec15 at h
    refine AW.sr ?_
    refine AO.c (x := eBool (decide (x14 < (p0.f1.length : Int)))) (Calm.int rfl rfl rfl rfl) ?_
    refine AO.nK [2, 5, 6, 17, 18, 19, 20] ?_
    refine AW.seq ?_
    rcases of_ite h with ⟨hc17, h⟩ | ⟨hc17, h⟩
    ·refine AW.condP _ rfl hc17 ?_
     refine AW.sK [2, 5, 6, 17, 18, 19] ?_
     refine AW.seq_mid (fun ρ H => ∃ (x18 : (List Bool)) (b19 : Bool), ρ = [(2, (.ptr n3 0)), (5, (.own n4 0 x18.length)), (6, (eBool b19)), (17, (.fz 7 (p0.f1.map e152))), (18, (eI64 (p0.f1.length : Int))), (19, (eI64 x14))] ∧ H = [(n3, (.mem (e121 p0))), (n4, (.mem (.ar 1 (x18.map eBool))))] ∧ F99_c1 k rec15 x14 x18 b19 = some r) ?_ ?_
     ·refine AW.block ?_
      refine AW.sr ?_
      obtain ⟨hg20, h⟩ := of_guard h
      refine AO.c (Calm.idxL (f := e152) rfl rfl rfl hg20 Try.underlying119 sz152) ?_
      refine AO.c (Calm.loadRp rfl rfl ag152 sz152) ?_
      refine AO.alloc rfl 8 rfl (by decide) rfl zr152 lay152 fun n21 => ?_
      refine AO.store (X' := (e152 (lget p0.f1 x14))) 0 rfl rfl rfl rfl rfl rfl (Put.cast Put.here rfl) rfl rfl sz152 rfl ?_
      refine AO.nH [2, 5, 6, 8, 17, 18, 19] (H' := [(n3, (.mem (e121 p0))), (n4, (.mem (.ar 1 (x12.map eBool)))), (n21, (.mem (e152 (lget p0.f1 x14))))]) (Sub.cons 1 rfl (Sub.cons 1 rfl (Sub.cons 0 rfl (Sub.nil _)))) ?_
      refine AW.seq ?_
      obtain ⟨b22, hq23, h⟩ := of_bind h
      refine AW.regM [(2, (.ptr n3 0)), (5, (.own n4 0 x12.length)), (6, (eBool b13)), (8, (.ptr n21 0)), (17, (.fz 7 (p0.f1.map e152))), (18, (eI64 (p0.f1.length : Int))), (19, (eI64 x14)), (39, (eBool b22))] [(n3, (.mem (e121 p0))), (n4, (.mem (.ar 1 (x12.map eBool)))), (n21, (.mem (e152 (lget p0.f1 x14))))] ?_ ?_
      ·refine AO.c (x := .ptr n21 6) (Calm.fldPtr rfl rfl Try.underlying152 rfl sz4 _ rfl) ?_
       refine AO.c (Calm.load 2 rfl rfl rfl (At.cast (At.fldS (At.fldS (At.fldS (At.fld0 At.here)))) rfl) ag4 sz4) ?_
       refine AO.mv rfl rfl ?_
       rcases of_ite hq23 with ⟨hc24, hq23⟩ | ⟨hc24, hq23⟩
       ·refine AO.cG rfl rfl (bD hc24) (Calm.move rfl rfl) ?_
        refine AO.cG (x := .ptr n21 0) rfl rfl (bD hc24) (Calm.fldPtr rfl rfl Try.underlying152 rfl sz3 _ rfl) ?_
        refine AO.cG rfl rfl (bD hc24) (Calm.load 2 rfl rfl rfl (At.cast (At.fld0 At.here) rfl) ag3 sz3) ?_
        obtain ⟨hg25, hq23⟩ := of_guard hq23
        refine AO.cG rfl rfl (bD hc24) (Calm.idxO 1 rfl rfl rfl rfl hg25 Try.underlying98 sz4) ?_
        refine AO.cG rfl rfl (bD hc24) (Calm.load 1 rfl rfl rfl (At.cast (At.lidx ((lget p0.f1 x14).f0) hg25.1 hg25.2 At.here) (by omega)) ag4 sz4) ?_
        refine AO.c (Calm.pickT rfl (bD hc24) rfl) ?_
        refine AO.mv rfl rfl ?_
        rcases of_ite hq23 with ⟨hc26, hq23⟩ | ⟨hc26, hq23⟩
        ·refine AO.cG rfl rfl (bD hc26) (Calm.move rfl rfl) ?_
         refine AO.cG (x := .ptr n21 1) rfl rfl (bD hc26) (Calm.fldPtr rfl rfl Try.underlying152 rfl sz3 _ rfl) ?_
         refine AO.cG rfl rfl (bD hc26) (Calm.load 2 rfl rfl rfl (At.cast (At.fldS (At.fld0 At.here)) rfl) ag3 sz3) ?_
         obtain ⟨hg27, hq23⟩ := of_guard hq23
         refine AO.cG rfl rfl (bD hc26) (Calm.idxO 1 rfl rfl rfl rfl hg27 Try.underlying98 sz4) ?_
         refine AO.cG rfl rfl (bD hc26) (Calm.load 1 rfl rfl rfl (At.cast (At.lidx ((lget p0.f1 x14).f1) hg27.1 hg27.2 At.here) (by omega)) ag4 sz4) ?_
         refine AO.cG rfl rfl (bD hc26) (Calm.not rfl rfl) ?_
         refine AO.c (Calm.pickT rfl (bD hc26) rfl) ?_
         cases hq23
         refine AO.nilE ⟨rfl, rfl⟩ ?_ ?_
         · exact ⟨rfl, rfl, rfl, rfl, rfl, rfl, rfl, rfl, trivial⟩
         · exact (Sub.refl _)
        ·refine AO.sT rfl rfl (bD (eq_false_of_ne_true hc26)) ?_
         refine AO.sT rfl rfl (bD (eq_false_of_ne_true hc26)) ?_
         refine AO.sT rfl rfl (bD (eq_false_of_ne_true hc26)) ?_
         refine AO.sT rfl rfl (bD (eq_false_of_ne_true hc26)) ?_
         refine AO.sT rfl rfl (bD (eq_false_of_ne_true hc26)) ?_
         refine AO.sT rfl rfl (bD (eq_false_of_ne_true hc26)) ?_
         refine AO.c (Calm.pickF rfl (bD (eq_false_of_ne_true hc26)) rfl) ?_
         cases hq23
         refine AO.nilE ⟨rfl, rfl⟩ ?_ ?_
         · exact ⟨rfl, rfl, rfl, rfl, rfl, rfl, rfl, rfl, trivial⟩
         · exact (Sub.refl _)
       ·refine AO.sT rfl rfl (bD (eq_false_of_ne_true hc24)) ?_
        refine AO.sT rfl rfl (bD (eq_false_of_ne_true hc24)) ?_
        refine AO.sT rfl rfl (bD (eq_false_of_ne_true hc24)) ?_
        refine AO.sT rfl rfl (bD (eq_false_of_ne_true hc24)) ?_
        refine AO.sT rfl rfl (bD (eq_false_of_ne_true hc24)) ?_
        refine AO.c (Calm.pickF rfl (bD (eq_false_of_ne_true hc24)) rfl) ?_
        refine AO.mv rfl rfl ?_
        refine AO.sT rfl rfl rfl ?_
        refine AO.sT rfl rfl rfl ?_
        refine AO.sT rfl rfl rfl ?_
        refine AO.sT rfl rfl rfl ?_
        refine AO.sT rfl rfl rfl ?_
        refine AO.sT rfl rfl rfl ?_
        refine AO.c (Calm.pickF rfl rfl rfl) ?_
        cases hq23
        refine AO.nilE ⟨rfl, rfl⟩ ?_ ?_
        · exact ⟨rfl, rfl, rfl, rfl, rfl, rfl, rfl, rfl, trivial⟩
        · exact (Sub.refl _)
      ·rcases of_ite h with ⟨hc28, h⟩ | ⟨hc28, h⟩
       ·refine AW.condT' _ rfl hc28 ?_
        refine AW.reg ?_
        refine AO.mv rfl rfl ?_
        refine AO.c (x := .ptr n21 1) (Calm.fldPtr rfl rfl Try.underlying152 rfl sz3 _ rfl) ?_
        refine AO.c (Calm.load 2 rfl rfl rfl (At.cast (At.fldS (At.fld0 At.here)) rfl) ag3 sz3) ?_
        obtain ⟨hg29, h⟩ := of_guard h
        refine AO.c (Calm.idxO 1 rfl rfl rfl rfl hg29 Try.underlying98 sz4) ?_
        refine AO.store (X' := (.ar 1 ((lset x12 ((lget p0.f1 x14).f1) true).map eBool))) 1 rfl rfl rfl rfl rfl rfl (Put.cast (Put.lidx ((lget p0.f1 x14).f1) true hg29.1 hg29.2 Put.here) (by omega)) rfl rfl sz4 rfl ?_
        refine AO.coe 5 (y' := (.own n4 0 (lset x12 ((lget p0.f1 x14).f1) true).length)) rfl (fun _ _ h => lset_own h) ?_
        refine AO.coe 40 (y' := (.own n4 0 (lset x12 ((lget p0.f1 x14).f1) true).length)) rfl (fun _ _ h => lset_own h) ?_
        refine AO.ag rfl rfl ?_
        refine AO.nH [2, 5, 6, 17, 18, 19] (H' := [(n3, (.mem (e121 p0))), (n4, (.mem (.ar 1 ((lset x12 ((lget p0.f1 x14).f1) true).map eBool))))]) (Sub.cons 0 rfl (Sub.cons 0 rfl (Sub.nil _))) ?_
        exact ⟨(lset x12 ((lget p0.f1 x14).f1) true), true, rfl, rfl, h⟩
       ·refine AW.condF' _ rfl hc28 ?_
        refine AW.sH [2, 5, 6, 17, 18, 19] (H' := [(n3, (.mem (e121 p0))), (n4, (.mem (.ar 1 (x12.map eBool))))]) (Sub.cons 0 rfl (Sub.cons 0 rfl (Sub.nil _))) ?_
        exact ⟨x12, b13, rfl, rfl, h⟩
     ·rintro _ _ ⟨x18, b19, rfl, rfl, h⟩
      rw [F99_c1.eq_1] at h
      refine AW.reg ?_
      refine AO.c (x := eI64 (w64 (x14 + (1 : Int)))) (Calm.int rfl rfl rfl rfl) ?_
      refine AO.mv rfl rfl ?_
      refine AO.nK [2, 5, 6, 17, 18, 19] ?_
      exact ⟨kq16, Nat.lt_succ_self _, x18, b19, (w64 (x14 + (1 : Int))), rfl, rfl, by rw [hrec15]; exact h⟩
    ·refine AW.condN _ rfl hc17 ?_
     refine AW.eK [2, 5, 6] ?_
     exact ⟨kq10, Nat.lt_succ_self _, x12, b13, rfl, rfl, by rw [hrec9]; exact h⟩
   ·refine AW.condF' _ rfl hc11 ?_
    refine AW.eH [5] (H' := [(n4, (.mem (.ar 1 (x7.map eBool))))]) (Sub.cons 1 rfl (Sub.nil _)) ?_
    exact ⟨x7, rfl, rfl, h⟩
  ·rintro _ _ ⟨x6, rfl, rfl, h⟩
   rw [F99_c0.eq_1] at h
   refine AW.sr ?_
   refine AO.mv rfl rfl ?_
   refine AO.ag rfl rfl ?_
   refine AO.nK [4] ?_
   refine AW.freezeS 0 [(4, (.fz 1 (x6.map eBool)))] rfl ⟨fz_all rfl, trivial⟩ ?_
   refine AW.rK [4] ?_
   have hr := Option.some.inj h
   subst hr
   exact ⟨[(.fz 1 (x6.map eBool))], ⟨rfl, rfl, trivial⟩, rfl⟩
end Go.Avl.T7
/- bosket/subset.key; printed by avmain.py. -/
namespace Go.Avl.T7
open Go Go.RowKit Go.Proofs Go.Avl
set_option linter.unusedVariables false
set_option maxRecDepth 100000
set_option maxHeartbeats 4000000
attribute [local irreducible] AW AO AQ Spec SpecH Calm

def F123_c0 (k : Nat) (x4 : (List Int)) : Option ByteArray :=
  some ((strOfNums x4))
def F123_c1 (k : Nat) (rec7 : ((List Int) → Int → Option ByteArray)) (x6 : Int) (x10 : (List Int)) : Option ByteArray :=
  rec7 x10 (w64 (x6 + (1 : Int)))
def F123_l2 (k : Nat) (p0 : (List Bool)) : Nat → (List Int) → Int → Option ByteArray
  | 0, _, _ => none
  | j + 1, x5, x6 =>
    if x6 < (p0.length : Int) then if 0 ≤ x6 ∧ x6 < (p0.length : Int) then if (lget p0 x6) = true then if 0 ≤ (IntKind.i64.wrap (x6.tdiv (8 : Int))) ∧ (IntKind.i64.wrap (x6.tdiv (8 : Int))) < (x5.length : Int) then if 0 ≤ (u64 (x6.tmod (8 : Int))) then if 0 ≤ (IntKind.i64.wrap (x6.tdiv (8 : Int))) ∧ (IntKind.i64.wrap (x6.tdiv (8 : Int))) < (x5.length : Int) then F123_c1 k (F123_l2 k p0 j) x6 (lset x5 (IntKind.i64.wrap (x6.tdiv (8 : Int))) (bits .or .u8 (lget x5 (IntKind.i64.wrap (x6.tdiv (8 : Int)))) (IntKind.u8.wrap ((1 : Int) * 2 ^ (min (u64 (x6.tmod (8 : Int))).toNat IntKind.u8.bits)))))
    else none
    else none
    else none
    else F123_c1 k (F123_l2 k p0 j) x6 x5
    else none
    else F123_c0 k x5
def F123 (k : Nat) (p0 : (List Bool)) : Option ByteArray :=
  if 0 ≤ (IntKind.i64.wrap ((w64 ((p0.length : Int) + (7 : Int))).tdiv (8 : Int))) ∧ (IntKind.i64.wrap ((w64 ((p0.length : Int) + (7 : Int))).tdiv (8 : Int))) * (1 : Int) ≤ 140737488355328 ∧ (IntKind.i64.wrap ((w64 ((p0.length : Int) + (7 : Int))).tdiv (8 : Int))) ≤ 9223372036854775807 then F123_l2 k p0 k (List.replicate (IntKind.i64.wrap ((w64 ((p0.length : Int) + (7 : Int))).tdiv (8 : Int))).toNat (0 : Int)) (0 : Int)
  else none
theorem F123_spec {k : Nat} {p0 : (List Bool)} {r : ByteArray} (h : F123 k p0 = some r) : Spec Try.prog 123 [(.fz 1 (p0.map eBool))] (eStr r) := by
  rw [F123.eq_1] at h
  refine Spec.intro (res := [.tmp 2]) Try.func123 rfl rfl rfl (Nat.le_of_ble_eq_true rfl) ?_
  refine AW.sr ?_
  refine AO.ag rfl rfl ?_
  refine AO.nK [0] ?_
  refine AW.sr ?_
  refine AO.mv rfl rfl ?_
  refine AO.c (Calm.lenL rfl rfl Try.underlying98) ?_
  refine AO.c (x := eI64 (w64 ((p0.length : Int) + (7 : Int)))) (Calm.int rfl rfl rfl rfl) ?_
  refine AO.c (x := eI64 (IntKind.i64.wrap ((w64 ((p0.length : Int) + (7 : Int))).tdiv (8 : Int)))) (Calm.quo rfl rfl rfl (by decide)) ?_
  obtain ⟨hg3, h⟩ := of_guard h
  refine AO.makeL (f := eU8) (0 : Int) rfl 10 rfl (by decide) rfl rfl rfl Try.underlying102 sz5 by5 zr5 lay5 rfl hg3 fun n2 => ?_
  refine AO.ag rfl rfl ?_
  refine AO.nK [0, 3] ?_
  refine AW.seq_mid (fun ρ H => ∃ (x4 : (List Int)), ρ = [(3, (.own n2 0 x4.length))] ∧ H = [(n2, (.mem (.ar 1 (x4.map eU8))))] ∧ F123_c0 k x4 = some r) ?_ ?_
  ·refine AW.sr ?_
   refine AO.mv rfl rfl ?_
   refine AO.c (Calm.lenL rfl rfl Try.underlying98) ?_
   refine AO.mv rfl rfl ?_
   refine AO.nK [3, 11, 12, 13] ?_
   refine AW.block ?_
   refine AW.wK [3, 11, 12, 13] ?_
   refine AW.loop (fun kq ρ H => ∃ (x5 : (List Int)) (x6 : Int), ρ = [(3, (.own n2 0 x5.length)), (11, (.fz 1 (p0.map eBool))), (12, (eI64 (p0.length : Int))), (13, (eI64 x6))] ∧ H = [(n2, (.mem (.ar 1 (x5.map eU8))))] ∧ F123_l2 k p0 kq x5 x6 = some r) k ⟨(List.replicate (IntKind.i64.wrap ((w64 ((p0.length : Int) + (7 : Int))).tdiv (8 : Int))).toNat (0 : Int)), (0 : Int), rfl, rfl, h⟩ ?_
   rintro kq8 _ _ ⟨x5, x6, rfl, rfl, h⟩
   cases kq8 with
   | zero => rw [F123_l2.eq_1] at h; cases h
   | succ kq8 =>
   rw [F123_l2.eq_2] at h
   generalize hrec7 : F123_l2 k p0 kq8 = rec7 at h
   refine AW.sr ?_
   refine AO.c (x := eBool (decide (x6 < (p0.length : Int)))) (Calm.int rfl rfl rfl rfl) ?_
   refine AO.nK [3, 11, 12, 13, 14] ?_
   refine AW.seq ?_
   rcases of_ite h with ⟨hc9, h⟩ | ⟨hc9, h⟩
   ·refine AW.condP _ rfl hc9 ?_
    refine AW.sK [3, 11, 12, 13] ?_
    refine AW.seq_mid (fun ρ H => ∃ (x10 : (List Int)), ρ = [(3, (.own n2 0 x10.length)), (11, (.fz 1 (p0.map eBool))), (12, (eI64 (p0.length : Int))), (13, (eI64 x6))] ∧ H = [(n2, (.mem (.ar 1 (x10.map eU8))))] ∧ F123_c1 k rec7 x6 x10 = some r) ?_ ?_
    ·refine AW.block ?_
     refine AW.sr ?_
     refine AO.mv rfl rfl ?_
     obtain ⟨hg11, h⟩ := of_guard h
     refine AO.c (Calm.idxL (f := eBool) rfl rfl rfl hg11 Try.underlying98 sz4) ?_
     refine AO.c (Calm.loadRp rfl rfl ag4 sz4) ?_
     refine AO.ag rfl rfl ?_
     refine AO.ag rfl rfl ?_
     refine AO.nK [3, 4, 5, 11, 12, 13] ?_
     refine AW.sr ?_
     refine AO.mv rfl rfl ?_
     refine AO.nK [3, 4, 11, 12, 13, 18] ?_
     rcases of_ite h with ⟨hc12, h⟩ | ⟨hc12, h⟩
     ·refine AW.condT' _ rfl hc12 ?_
      refine AW.reg ?_
      refine AO.mv rfl rfl ?_
      refine AO.mv rfl rfl ?_
      refine AO.c (x := eI64 (IntKind.i64.wrap (x6.tdiv (8 : Int)))) (Calm.quo rfl rfl rfl (by decide)) ?_
      obtain ⟨hg13, h⟩ := of_guard h
      refine AO.c (Calm.idxO 0 rfl rfl rfl rfl hg13 Try.underlying102 sz5) ?_
      refine AO.c (Calm.load 0 rfl rfl rfl (At.cast (At.lidx (IntKind.i64.wrap (x6.tdiv (8 : Int))) hg13.1 hg13.2 At.here) (by omega)) ag5 sz5) ?_
      refine AO.mv rfl rfl ?_
      refine AO.c (x := eI64 (x6.tmod (8 : Int))) (Calm.rem rfl rfl rfl (by decide)) ?_
      refine AO.c (x := eU64 (u64 (x6.tmod (8 : Int)))) (Calm.conv rfl rfl Try.underlying3 Try.underlying186) ?_
      obtain ⟨hg14, h⟩ := of_guard h
      refine AO.c (x := eU8 (IntKind.u8.wrap ((1 : Int) * 2 ^ (min (u64 (x6.tmod (8 : Int))).toNat IntKind.u8.bits)))) (Calm.shl rfl rfl rfl hg14) ?_
      refine AO.c (x := eU8 (bits .or .u8 (lget x5 (IntKind.i64.wrap (x6.tdiv (8 : Int)))) (IntKind.u8.wrap ((1 : Int) * 2 ^ (min (u64 (x6.tmod (8 : Int))).toNat IntKind.u8.bits))))) (Calm.int rfl rfl rfl rfl) ?_
      obtain ⟨hg15, h⟩ := of_guard h
      refine AO.c (Calm.idxO 0 rfl rfl rfl rfl hg15 Try.underlying102 sz5) ?_
      refine AO.store (X' := (.ar 1 ((lset x5 (IntKind.i64.wrap (x6.tdiv (8 : Int))) (bits .or .u8 (lget x5 (IntKind.i64.wrap (x6.tdiv (8 : Int)))) (IntKind.u8.wrap ((1 : Int) * 2 ^ (min (u64 (x6.tmod (8 : Int))).toNat IntKind.u8.bits))))).map eU8))) 0 rfl rfl rfl rfl rfl rfl (Put.cast (Put.lidx (IntKind.i64.wrap (x6.tdiv (8 : Int))) (bits .or .u8 (lget x5 (IntKind.i64.wrap (x6.tdiv (8 : Int)))) (IntKind.u8.wrap ((1 : Int) * 2 ^ (min (u64 (x6.tmod (8 : Int))).toNat IntKind.u8.bits)))) hg15.1 hg15.2 Put.here) (by omega)) rfl rfl sz5 rfl ?_
      refine AO.coe 3 (y' := (.own n2 0 (lset x5 (IntKind.i64.wrap (x6.tdiv (8 : Int))) (bits .or .u8 (lget x5 (IntKind.i64.wrap (x6.tdiv (8 : Int)))) (IntKind.u8.wrap ((1 : Int) * 2 ^ (min (u64 (x6.tmod (8 : Int))).toNat IntKind.u8.bits))))).length)) rfl (fun _ _ h => lset_own h) ?_
      refine AO.coe 19 (y' := (.own n2 0 (lset x5 (IntKind.i64.wrap (x6.tdiv (8 : Int))) (bits .or .u8 (lget x5 (IntKind.i64.wrap (x6.tdiv (8 : Int)))) (IntKind.u8.wrap ((1 : Int) * 2 ^ (min (u64 (x6.tmod (8 : Int))).toNat IntKind.u8.bits))))).length)) rfl (fun _ _ h => lset_own h) ?_
      refine AO.nK [3, 11, 12, 13] ?_
      exact ⟨(lset x5 (IntKind.i64.wrap (x6.tdiv (8 : Int))) (bits .or .u8 (lget x5 (IntKind.i64.wrap (x6.tdiv (8 : Int)))) (IntKind.u8.wrap ((1 : Int) * 2 ^ (min (u64 (x6.tmod (8 : Int))).toNat IntKind.u8.bits))))), rfl, rfl, h⟩
     ·refine AW.condF' _ rfl hc12 ?_
      refine AW.sK [3, 11, 12, 13] ?_
      exact ⟨x5, rfl, rfl, h⟩
    ·rintro _ _ ⟨x10, rfl, rfl, h⟩
     rw [F123_c1.eq_1] at h
     refine AW.reg ?_
     refine AO.c (x := eI64 (w64 (x6 + (1 : Int)))) (Calm.int rfl rfl rfl rfl) ?_
     refine AO.mv rfl rfl ?_
     refine AO.nK [3, 11, 12, 13] ?_
     exact ⟨kq8, Nat.lt_succ_self _, x10, (w64 (x6 + (1 : Int))), rfl, rfl, by rw [hrec7]; exact h⟩
   ·refine AW.condN _ rfl hc9 ?_
    refine AW.eK [3] ?_
    exact ⟨x5, rfl, rfl, h⟩
  ·rintro _ _ ⟨x4, rfl, rfl, h⟩
   rw [F123_c0.eq_1] at h
   refine AW.sr ?_
   refine AO.mv rfl rfl ?_
   refine AO.c (x := eStr (strOfNums x4)) (Calm.strO 0 rfl rfl rfl Try.underlying102 Try.underlying9 Try.underlying5) ?_
   refine AO.ag rfl rfl ?_
   refine AO.nH [2] (H' := []) (Sub.nil _) ?_
   refine AW.rK [2] ?_
   have hr := Option.some.inj h
   subst hr
   exact ⟨[(eStr (strOfNums x4))], ⟨rfl, rfl, trivial⟩, rfl⟩
end Go.Avl.T7
/- bosket/subset.markOf; printed by avmain.py. -/
namespace Go.Avl.T7
open Go Go.RowKit Go.Proofs Go.Avl
set_option linter.unusedVariables false
set_option maxRecDepth 100000
set_option maxHeartbeats 4000000
attribute [local irreducible] AW AO AQ Spec SpecH Calm

def F135 (k : Nat) (p0 : (List Int)) (p1 : Int) : Option Int :=
  if (p0.length : Int) ≤ p1 then some ((-1 : Int))
  else if 0 ≤ p1 ∧ p1 < (p0.length : Int) then some ((lget p0 p1))
  else none
theorem F135_spec {k : Nat} {p0 : (List Int)} {p1 : Int} {r : Int} (h : F135 k p0 p1 = some r) : Spec Try.prog 135 [(.fz 1 (p0.map eI64)), (eI64 p1)] (eI64 r) := by
  rw [F135.eq_1] at h
  refine Spec.intro (res := [.tmp 4]) Try.func135 rfl rfl rfl (Nat.le_of_ble_eq_true rfl) ?_
  refine AW.sr ?_
  refine AO.ag rfl rfl ?_
  refine AO.nK [0, 1] ?_
  refine AW.seq ?_
  refine AW.sr ?_
  refine AO.mv rfl rfl ?_
  refine AO.mv rfl rfl ?_
  refine AO.c (Calm.lenL rfl rfl Try.underlying35) ?_
  refine AO.c (x := eBool (decide ((p0.length : Int) ≤ p1))) (Calm.int rfl rfl rfl rfl) ?_
  refine AO.nK [0, 1, 8] ?_
  rcases of_ite h with ⟨hc3, h⟩ | ⟨hc3, h⟩
  ·refine AW.condP _ rfl hc3 ?_
   refine AW.sr ?_
   refine AO.ag rfl rfl ?_
   refine AO.nK [4] ?_
   refine AW.rK [4] ?_
   have hr := Option.some.inj h
   subst hr
   exact ⟨[(eI64 (-1 : Int))], ⟨rfl, rfl, trivial⟩, rfl⟩
  ·refine AW.condN _ rfl hc3 ?_
   refine AW.sK [0, 1] ?_
   refine AW.sr ?_
   refine AO.mv rfl rfl ?_
   refine AO.mv rfl rfl ?_
   obtain ⟨hg4, h⟩ := of_guard h
   refine AO.c (Calm.idxL (f := eI64) rfl rfl rfl hg4 Try.underlying35 sz3) ?_
   refine AO.c (Calm.loadRp rfl rfl ag3 sz3) ?_
   refine AO.ag rfl rfl ?_
   refine AO.nK [4] ?_
   refine AW.rK [4] ?_
   have hr := Option.some.inj h
   subst hr
   exact ⟨[(eI64 (lget p0 p1))], ⟨rfl, rfl, trivial⟩, rfl⟩
end Go.Avl.T7
/- (*bosket/subset.builder).mark; printed by avmain.py. -/
namespace Go.Avl.T7
open Go Go.RowKit Go.Proofs Go.Avl
set_option linter.unusedVariables false
set_option maxRecDepth 100000
set_option maxHeartbeats 4000000
attribute [local irreducible] AW AO AQ Spec SpecH Calm

def F124_c0 (k : Nat) (x3 : Int) : Option Int :=
  some (x3)
def F124_c1 (k : Nat) (rec6 : (Int → Int → Option Int)) (x5 : Int) (x9 : Int) : Option Int :=
  rec6 x9 (w64 (x5 + (1 : Int)))
def F124_l2 (k : Nat) (p0 : S156) (p1 : (List Bool)) : Nat → Int → Int → Option Int
  | 0, _, _ => none
  | j + 1, x4, x5 =>
    if x5 < (p1.length : Int) then if 0 ≤ x5 ∧ x5 < (p1.length : Int) then (F135 k p0.f1 x5).bind fun t11 =>
    Option.bind (α := Bool) (if (lget p1 x5) = true then if (0 : Int) ≤ t11 then if x4 < (0 : Int) then some (true)
    else some (decide (t11 < x4))
    else some (false)
    else some (false)) fun b12 =>
    if b12 = true then F124_c1 k (F124_l2 k p0 p1 j) x5 t11
    else F124_c1 k (F124_l2 k p0 p1 j) x5 x4
    else none
    else F124_c0 k x4
def F124 (k : Nat) (p0 : S156) (p1 : (List Bool)) : Option Int :=
  F124_l2 k p0 p1 k (-1 : Int) (0 : Int)
theorem F124_spec {k : Nat} {p0 : S156} {p1 : (List Bool)} {r : Int} (h : F124 k p0 p1 = some r) {q0 : Nat} {q0_0 : Nat} {q0_1 : Nat} {q0_2 : Nat} {q0_3 : Nat} {T0 : Heap} : SpecH Try.prog 124 [(.ptr q0 0), (.fz 1 (p1.map eBool))] ((q0, (.mem (.st [(4, (e121 p0.f0)), (1, (.fz 1 (p0.f1.map eI64))), (1, (.fz 1 (p0.f2.map eU8))), (1, (.mp q0_0)), (1, (.own q0_1 0 p0.f4.length)), (258, (.st [(256, (.ar 1 (p0.f5.f0.toList.map eU8))), (1, (.own q0_2 0 p0.f5.f1.length)), (1, (.own q0_3 0 p0.f5.f2.length))]))]))) :: (q0_0, (.map (encM Value.string eI64 p0.f3))) :: (q0_1, (.mem (.ar 1 (p0.f4.map e98)))) :: (q0_2, (.mem (.ar 1 (p0.f5.f1.map e35)))) :: (q0_3, (.mem (.ar 1 (p0.f5.f2.map eI64)))) :: T0) (fun x H' => x = eI64 r ∧ Sub ((q0, (.mem (.st [(4, (e121 p0.f0)), (1, (.fz 1 (p0.f1.map eI64))), (1, (.fz 1 (p0.f2.map eU8))), (1, (.mp q0_0)), (1, (.own q0_1 0 p0.f4.length)), (258, (.st [(256, (.ar 1 (p0.f5.f0.toList.map eU8))), (1, (.own q0_2 0 p0.f5.f1.length)), (1, (.own q0_3 0 p0.f5.f2.length))]))]))) :: (q0_0, (.map (encM Value.string eI64 p0.f3))) :: (q0_1, (.mem (.ar 1 (p0.f4.map e98)))) :: (q0_2, (.mem (.ar 1 (p0.f5.f1.map e35)))) :: (q0_3, (.mem (.ar 1 (p0.f5.f2.map eI64)))) :: T0) H') := by
  rw [F124.eq_1] at h
  refine SpecH.intro (res := [.tmp 4]) Try.func124 rfl rfl rfl (Nat.le_of_ble_eq_true rfl) ?_
  refine AW.sr ?_
  refine AO.ag rfl rfl ?_
  refine AO.nK [0, 1] ?_
  refine AW.sr ?_
  refine AO.ag rfl rfl ?_
  refine AO.nK [0, 1, 5] ?_
  refine AW.seq_mid (fun ρ H => ∃ (x3 : Int), ρ = [(5, (eI64 x3))] ∧ H = ((q0, (.mem (.st [(4, (e121 p0.f0)), (1, (.fz 1 (p0.f1.map eI64))), (1, (.fz 1 (p0.f2.map eU8))), (1, (.mp q0_0)), (1, (.own q0_1 0 p0.f4.length)), (258, (.st [(256, (.ar 1 (p0.f5.f0.toList.map eU8))), (1, (.own q0_2 0 p0.f5.f1.length)), (1, (.own q0_3 0 p0.f5.f2.length))]))]))) :: (q0_0, (.map (encM Value.string eI64 p0.f3))) :: (q0_1, (.mem (.ar 1 (p0.f4.map e98)))) :: (q0_2, (.mem (.ar 1 (p0.f5.f1.map e35)))) :: (q0_3, (.mem (.ar 1 (p0.f5.f2.map eI64)))) :: T0) ∧ F124_c0 k x3 = some r) ?_ ?_
  ·refine AW.sr ?_
   refine AO.mv rfl rfl ?_
   refine AO.c (Calm.lenL rfl rfl Try.underlying98) ?_
   refine AO.mv rfl rfl ?_
   refine AO.nK [0, 5, 9, 10, 11] ?_
   refine AW.block ?_
   refine AW.wK [0, 5, 9, 10, 11] ?_
   refine AW.loop (fun kq ρ H => ∃ (x4 : Int) (x5 : Int), ρ = [(0, (.ptr q0 0)), (5, (eI64 x4)), (9, (.fz 1 (p1.map eBool))), (10, (eI64 (p1.length : Int))), (11, (eI64 x5))] ∧ H = ((q0, (.mem (.st [(4, (e121 p0.f0)), (1, (.fz 1 (p0.f1.map eI64))), (1, (.fz 1 (p0.f2.map eU8))), (1, (.mp q0_0)), (1, (.own q0_1 0 p0.f4.length)), (258, (.st [(256, (.ar 1 (p0.f5.f0.toList.map eU8))), (1, (.own q0_2 0 p0.f5.f1.length)), (1, (.own q0_3 0 p0.f5.f2.length))]))]))) :: (q0_0, (.map (encM Value.string eI64 p0.f3))) :: (q0_1, (.mem (.ar 1 (p0.f4.map e98)))) :: (q0_2, (.mem (.ar 1 (p0.f5.f1.map e35)))) :: (q0_3, (.mem (.ar 1 (p0.f5.f2.map eI64)))) :: T0) ∧ F124_l2 k p0 p1 kq x4 x5 = some r) k ⟨(-1 : Int), (0 : Int), rfl, rfl, h⟩ ?_
   rintro kq7 _ _ ⟨x4, x5, rfl, rfl, h⟩
   cases kq7 with
   | zero => rw [F124_l2.eq_1] at h; cases h
   | succ kq7 =>
   rw [F124_l2.eq_2] at h
   generalize hrec6 : F124_l2 k p0 p1 kq7 = rec6 at h
   refine AW.sr ?_
   refine AO.c (x := eBool (decide (x5 < (p1.length : Int)))) (Calm.int rfl rfl rfl rfl) ?_
   refine AO.nK [0, 5, 9, 10, 11, 12] ?_
   refine AW.seq ?_
   rcases of_ite h with ⟨hc8, h⟩ | ⟨hc8, h⟩
   ·refine AW.condP _ rfl hc8 ?_
    refine AW.sK [0, 5, 9, 10, 11] ?_
    refine AW.seq_mid (fun ρ H => ∃ (x9 : Int), ρ = [(0, (.ptr q0 0)), (5, (eI64 x9)), (9, (.fz 1 (p1.map eBool))), (10, (eI64 (p1.length : Int))), (11, (eI64 x5))] ∧ H = ((q0, (.mem (.st [(4, (e121 p0.f0)), (1, (.fz 1 (p0.f1.map eI64))), (1, (.fz 1 (p0.f2.map eU8))), (1, (.mp q0_0)), (1, (.own q0_1 0 p0.f4.length)), (258, (.st [(256, (.ar 1 (p0.f5.f0.toList.map eU8))), (1, (.own q0_2 0 p0.f5.f1.length)), (1, (.own q0_3 0 p0.f5.f2.length))]))]))) :: (q0_0, (.map (encM Value.string eI64 p0.f3))) :: (q0_1, (.mem (.ar 1 (p0.f4.map e98)))) :: (q0_2, (.mem (.ar 1 (p0.f5.f1.map e35)))) :: (q0_3, (.mem (.ar 1 (p0.f5.f2.map eI64)))) :: T0) ∧ F124_c1 k rec6 x5 x9 = some r) ?_ ?_
    ·refine AW.block ?_
     refine AW.sr ?_
     refine AO.mv rfl rfl ?_
     obtain ⟨hg10, h⟩ := of_guard h
     refine AO.c (Calm.idxL (f := eBool) rfl rfl rfl hg10 Try.underlying98 sz4) ?_
     refine AO.c (Calm.loadRp rfl rfl ag4 sz4) ?_
     refine AO.ag rfl rfl ?_
     refine AO.ag rfl rfl ?_
     refine AO.nK [0, 5, 6, 7, 9, 10, 11] ?_
     refine AW.sr ?_
     refine AO.mv rfl rfl ?_
     refine AO.c (Calm.nilCheck rfl rfl) ?_
     refine AO.c (x := .ptr q0 4) (Calm.fldPtr rfl rfl Try.underlying156 rfl sz35 _ rfl) ?_
     refine AO.c (Calm.load 0 rfl rfl rfl (At.cast (At.fldS (At.fld0 At.here)) rfl) ag35 sz35) ?_
     refine AO.mv rfl rfl ?_
     obtain ⟨t11, et11, h⟩ := of_bind h
     refine AO.callS [(.fz 1 (p0.f1.map eI64)), (eI64 x5)] (eI64 t11) 21 rfl (by decide) ok135 rfl rfl rfl ⟨rfl, rfl, rfl, rfl, trivial⟩ (F135_spec et11) ?_
     refine AO.ag rfl rfl ?_
     refine AO.nK [0, 5, 7, 8, 9, 10, 11] ?_
     refine AW.seq ?_
     obtain ⟨b12, hq13, h⟩ := of_bind h
     refine AW.regM [(0, (.ptr q0 0)), (5, (eI64 x4)), (8, (eI64 t11)), (9, (.fz 1 (p1.map eBool))), (10, (eI64 (p1.length : Int))), (11, (eI64 x5)), (35, (eBool b12))] ((q0, (.mem (.st [(4, (e121 p0.f0)), (1, (.fz 1 (p0.f1.map eI64))), (1, (.fz 1 (p0.f2.map eU8))), (1, (.mp q0_0)), (1, (.own q0_1 0 p0.f4.length)), (258, (.st [(256, (.ar 1 (p0.f5.f0.toList.map eU8))), (1, (.own q0_2 0 p0.f5.f1.length)), (1, (.own q0_3 0 p0.f5.f2.length))]))]))) :: (q0_0, (.map (encM Value.string eI64 p0.f3))) :: (q0_1, (.mem (.ar 1 (p0.f4.map e98)))) :: (q0_2, (.mem (.ar 1 (p0.f5.f1.map e35)))) :: (q0_3, (.mem (.ar 1 (p0.f5.f2.map eI64)))) :: T0) ?_ ?_
     ·refine AO.mv rfl rfl ?_
      refine AO.mv rfl rfl ?_
      rcases of_ite hq13 with ⟨hc14, hq13⟩ | ⟨hc14, hq13⟩
      ·refine AO.cG rfl rfl (bD hc14) (Calm.move rfl rfl) ?_
       refine AO.cG (x := eBool (decide ((0 : Int) ≤ t11))) rfl rfl (bD hc14) (Calm.int rfl rfl rfl rfl) ?_
       refine AO.c (Calm.pickT rfl (bD hc14) rfl) ?_
       refine AO.mv rfl rfl ?_
       rcases of_ite hq13 with ⟨hc15, hq13⟩ | ⟨hc15, hq13⟩
       ·refine AO.cG rfl rfl (bD (decide_eq_true hc15)) (Calm.move rfl rfl) ?_
        refine AO.cG (x := eBool (decide (x4 < (0 : Int)))) rfl rfl (bD (decide_eq_true hc15)) (Calm.int rfl rfl rfl rfl) ?_
        refine AO.cG rfl rfl (bD (decide_eq_true hc15)) (Calm.move rfl rfl) ?_
        rcases of_ite hq13 with ⟨hc16, hq13⟩ | ⟨hc16, hq13⟩
        ·refine AO.sF rfl rfl (bD (decide_eq_true hc16)) ?_
         refine AO.sF rfl rfl (bD (decide_eq_true hc16)) ?_
         refine AO.sF rfl rfl (bD (decide_eq_true hc16)) ?_
         refine AO.cG rfl rfl (bD (decide_eq_true hc15)) (Calm.pickT rfl (bD (decide_eq_true hc16)) rfl) ?_
         refine AO.c (Calm.pickT rfl (bD (decide_eq_true hc15)) rfl) ?_
         cases hq13
         refine AO.nilE ⟨rfl, rfl⟩ ?_ ?_
         · exact ⟨rfl, rfl, rfl, rfl, rfl, rfl, rfl, trivial⟩
         · exact (Sub.refl _)
        ·refine AO.cG rfl rfl (bD (decide_eq_false hc16)) (Calm.move rfl rfl) ?_
         refine AO.cG rfl rfl (bD (decide_eq_false hc16)) (Calm.move rfl rfl) ?_
         refine AO.cG (x := eBool (decide (t11 < x4))) rfl rfl (bD (decide_eq_false hc16)) (Calm.int rfl rfl rfl rfl) ?_
         refine AO.cG rfl rfl (bD (decide_eq_true hc15)) (Calm.pickF rfl (bD (decide_eq_false hc16)) rfl) ?_
         refine AO.c (Calm.pickT rfl (bD (decide_eq_true hc15)) rfl) ?_
         cases hq13
         refine AO.nilE ⟨rfl, rfl⟩ ?_ ?_
         · exact ⟨rfl, rfl, rfl, rfl, rfl, rfl, rfl, trivial⟩
         · exact (Sub.refl _)
       ·refine AO.sT rfl rfl (bD (decide_eq_false hc15)) ?_
        refine AO.sT rfl rfl (bD (decide_eq_false hc15)) ?_
        refine AO.sT rfl rfl (bD (decide_eq_false hc15)) ?_
        refine AO.sU rfl rfl rfl ?_
        refine AO.sU rfl rfl rfl ?_
        refine AO.sU rfl rfl rfl ?_
        refine AO.sT rfl rfl (bD (decide_eq_false hc15)) ?_
        refine AO.c (Calm.pickF rfl (bD (decide_eq_false hc15)) rfl) ?_
        cases hq13
        refine AO.nilE ⟨rfl, rfl⟩ ?_ ?_
        · exact ⟨rfl, rfl, rfl, rfl, rfl, rfl, rfl, trivial⟩
        · exact (Sub.refl _)
      ·refine AO.sT rfl rfl (bD (eq_false_of_ne_true hc14)) ?_
       refine AO.sT rfl rfl (bD (eq_false_of_ne_true hc14)) ?_
       refine AO.c (Calm.pickF rfl (bD (eq_false_of_ne_true hc14)) rfl) ?_
       refine AO.mv rfl rfl ?_
       refine AO.sT rfl rfl rfl ?_
       refine AO.sT rfl rfl rfl ?_
       refine AO.sT rfl rfl rfl ?_
       refine AO.sU rfl rfl rfl ?_
       refine AO.sU rfl rfl rfl ?_
       refine AO.sU rfl rfl rfl ?_
       refine AO.sT rfl rfl rfl ?_
       refine AO.c (Calm.pickF rfl rfl rfl) ?_
       cases hq13
       refine AO.nilE ⟨rfl, rfl⟩ ?_ ?_
       · exact ⟨rfl, rfl, rfl, rfl, rfl, rfl, rfl, trivial⟩
       · exact (Sub.refl _)
     ·rcases of_ite h with ⟨hc17, h⟩ | ⟨hc17, h⟩
      ·refine AW.condT' _ rfl hc17 ?_
       refine AW.reg ?_
       refine AO.mv rfl rfl ?_
       refine AO.ag rfl rfl ?_
       refine AO.nK [0, 5, 9, 10, 11] ?_
       exact ⟨t11, rfl, rfl, h⟩
      ·refine AW.condF' _ rfl hc17 ?_
       refine AW.sK [0, 5, 9, 10, 11] ?_
       exact ⟨x4, rfl, rfl, h⟩
    ·rintro _ _ ⟨x9, rfl, rfl, h⟩
     rw [F124_c1.eq_1] at h
     refine AW.reg ?_
     refine AO.c (x := eI64 (w64 (x5 + (1 : Int)))) (Calm.int rfl rfl rfl rfl) ?_
     refine AO.mv rfl rfl ?_
     refine AO.nK [0, 5, 9, 10, 11] ?_
     exact ⟨kq7, Nat.lt_succ_self _, x9, (w64 (x5 + (1 : Int))), rfl, rfl, by rw [hrec6]; exact h⟩
   ·refine AW.condN _ rfl hc8 ?_
    refine AW.eK [5] ?_
    exact ⟨x4, rfl, rfl, h⟩
  ·rintro _ _ ⟨x3, rfl, rfl, h⟩
   rw [F124_c0.eq_1] at h
   refine AW.sr ?_
   refine AO.mv rfl rfl ?_
   refine AO.ag rfl rfl ?_
   refine AO.nK [4] ?_
   refine AW.rK [4] ?_
   have hr := Option.some.inj h
   subst hr
   exact ⟨[(eI64 x3)], ⟨rfl, rfl, trivial⟩, rfl, (Sub.cons 0 rfl (Sub.cons 0 rfl (Sub.cons 0 rfl (Sub.cons 0 rfl (Sub.cons 0 rfl (Sub.refl _))))))⟩
end Go.Avl.T7
/- (*bosket/subset.builder).state; printed by avmain.py. -/
namespace Go.Avl.T7
open Go Go.RowKit Go.Proofs Go.Avl
set_option linter.unusedVariables false
set_option maxRecDepth 100000
set_option maxHeartbeats 4000000
set_option linter.unusedSimpArgs false
attribute [local irreducible] AW AO AQ Spec SpecH Calm

def F98_c0 (k : Nat) (p0 : S156) (p1 : (List Bool)) (b3 : Bool) : Option (Int × S156) :=
  if (!b3) = true then some ((-1 : Int), (S156.mk p0.f0 p0.f1 p0.f2 p0.f3 p0.f4 (S55.mk p0.f5.f0 p0.f5.f1 p0.f5.f2)))
  else (F123 k p1).bind fun t5 =>
  if ((mget p0.f3 t5).isSome) = true then some (((mget p0.f3 t5).getD (0 : Int)), (S156.mk p0.f0 p0.f1 p0.f2 p0.f3 p0.f4 (S55.mk p0.f5.f0 p0.f5.f1 p0.f5.f2)))
  else if (p0.f4 ++ ([p1] : List (List Bool))).length * 24 ≤ 140737488355328 then (F124 k (S156.mk p0.f0 p0.f1 p0.f2 (mput p0.f3 t5 (p0.f4.length : Int)) (p0.f4 ++ ([p1] : List (List Bool))) (S55.mk p0.f5.f0 p0.f5.f1 p0.f5.f2)) p1).bind fun t10 =>
  if (p0.f5.f2 ++ ([t10] : List Int)).length * 8 ≤ 140737488355328 then (some (w64 (((p0.f4 ++ ([p1] : List (List Bool))).length : Int) - (1 : Int)))).bind fun x15 =>
  some (x15, (S156.mk p0.f0 p0.f1 p0.f2 (mput p0.f3 t5 (p0.f4.length : Int)) (p0.f4 ++ ([p1] : List (List Bool))) (S55.mk p0.f5.f0 p0.f5.f1 (p0.f5.f2 ++ ([t10] : List Int)))))
  else none
  else none
def F98_l1 (k : Nat) (p0 : S156) (p1 : (List Bool)) : Nat → Bool → Int → Option (Int × S156)
  | 0, _, _ => none
  | j + 1, b16, x17 =>
    if x17 < (p1.length : Int) then if 0 ≤ x17 ∧ x17 < (p1.length : Int) then Option.bind (α := Bool) (if b16 = true then some (true)
    else some ((lget p1 x17))) fun b22 =>
    (F98_l1 k p0 p1 j) b22 (w64 (x17 + (1 : Int)))
    else none
    else F98_c0 k p0 p1 b16
def F98 (k : Nat) (p0 : S156) (p1 : (List Bool)) : Option (Int × S156) :=
  F98_l1 k p0 p1 k false (0 : Int)
theorem F98_spec {k : Nat} {p0 : S156} {p1 : (List Bool)} {r : (Int × S156)} (h : F98 k p0 p1 = some r) {q0 : Nat} {q0_0 : Nat} {q0_1 : Nat} {q0_2 : Nat} {q0_3 : Nat} {T0 : Heap} : SpecH Try.prog 98 [(.ptr q0 0), (.fz 1 (p1.map eBool))] ((q0, (.mem (.st [(4, (e121 p0.f0)), (1, (.fz 1 (p0.f1.map eI64))), (1, (.fz 1 (p0.f2.map eU8))), (1, (.mp q0_0)), (1, (.own q0_1 0 p0.f4.length)), (258, (.st [(256, (.ar 1 (p0.f5.f0.toList.map eU8))), (1, (.own q0_2 0 p0.f5.f1.length)), (1, (.own q0_3 0 p0.f5.f2.length))]))]))) :: (q0_0, (.map (encM Value.string eI64 p0.f3))) :: (q0_1, (.mem (.ar 1 (p0.f4.map e98)))) :: (q0_2, (.mem (.ar 1 (p0.f5.f1.map e35)))) :: (q0_3, (.mem (.ar 1 (p0.f5.f2.map eI64)))) :: T0) (fun x H' => ∃ m0_0 m0_1 m0_2 m0_3, x = (eI64 r.1) ∧ Sub ((q0, (.mem (.st [(4, (e121 r.2.f0)), (1, (.fz 1 (r.2.f1.map eI64))), (1, (.fz 1 (r.2.f2.map eU8))), (1, (.mp m0_0)), (1, (.own m0_1 0 r.2.f4.length)), (258, (.st [(256, (.ar 1 (r.2.f5.f0.toList.map eU8))), (1, (.own m0_2 0 r.2.f5.f1.length)), (1, (.own m0_3 0 r.2.f5.f2.length))]))]))) :: (m0_0, (.map (encM Value.string eI64 r.2.f3))) :: (m0_1, (.mem (.ar 1 (r.2.f4.map e98)))) :: (m0_2, (.mem (.ar 1 (r.2.f5.f1.map e35)))) :: (m0_3, (.mem (.ar 1 (r.2.f5.f2.map eI64)))) :: T0) H') := by
  rw [F98.eq_1] at h
  refine SpecH.intro (res := [.tmp 4]) Try.func98 rfl rfl rfl (Nat.le_of_ble_eq_true rfl) ?_
  refine AW.sr ?_
  refine AO.ag rfl rfl ?_
  refine AO.nK [0, 1] ?_
  refine AW.sr ?_
  refine AO.ag rfl rfl ?_
  refine AO.nK [0, 1, 5] ?_
  refine AW.seq_mid (fun ρ H => ∃ (b3 : Bool), ρ = [(0, (.ptr q0 0)), (1, (.fz 1 (p1.map eBool))), (5, (eBool b3))] ∧ H = ((q0, (.mem (.st [(4, (e121 p0.f0)), (1, (.fz 1 (p0.f1.map eI64))), (1, (.fz 1 (p0.f2.map eU8))), (1, (.mp q0_0)), (1, (.own q0_1 0 p0.f4.length)), (258, (.st [(256, (.ar 1 (p0.f5.f0.toList.map eU8))), (1, (.own q0_2 0 p0.f5.f1.length)), (1, (.own q0_3 0 p0.f5.f2.length))]))]))) :: (q0_0, (.map (encM Value.string eI64 p0.f3))) :: (q0_1, (.mem (.ar 1 (p0.f4.map e98)))) :: (q0_2, (.mem (.ar 1 (p0.f5.f1.map e35)))) :: (q0_3, (.mem (.ar 1 (p0.f5.f2.map eI64)))) :: T0) ∧ F98_c0 k p0 p1 b3 = some r) ?_ ?_
  ·refine AW.sr ?_
   refine AO.mv rfl rfl ?_
   refine AO.c (Calm.lenL rfl rfl Try.underlying98) ?_
   refine AO.mv rfl rfl ?_
   refine AO.nK [0, 1, 5, 11, 12, 13] ?_
   refine AW.block ?_
   refine AW.wK [0, 1, 5, 11, 12, 13] ?_
   refine AW.loop (fun kq ρ H => ∃ (b16 : Bool) (x17 : Int), ρ = [(0, (.ptr q0 0)), (1, (.fz 1 (p1.map eBool))), (5, (eBool b16)), (11, (.fz 1 (p1.map eBool))), (12, (eI64 (p1.length : Int))), (13, (eI64 x17))] ∧ H = ((q0, (.mem (.st [(4, (e121 p0.f0)), (1, (.fz 1 (p0.f1.map eI64))), (1, (.fz 1 (p0.f2.map eU8))), (1, (.mp q0_0)), (1, (.own q0_1 0 p0.f4.length)), (258, (.st [(256, (.ar 1 (p0.f5.f0.toList.map eU8))), (1, (.own q0_2 0 p0.f5.f1.length)), (1, (.own q0_3 0 p0.f5.f2.length))]))]))) :: (q0_0, (.map (encM Value.string eI64 p0.f3))) :: (q0_1, (.mem (.ar 1 (p0.f4.map e98)))) :: (q0_2, (.mem (.ar 1 (p0.f5.f1.map e35)))) :: (q0_3, (.mem (.ar 1 (p0.f5.f2.map eI64)))) :: T0) ∧ F98_l1 k p0 p1 kq b16 x17 = some r) k ⟨false, (0 : Int), rfl, rfl, h⟩ ?_
   rintro kq19 _ _ ⟨b16, x17, rfl, rfl, h⟩
   cases kq19 with
   | zero => rw [F98_l1.eq_1] at h; cases h
   | succ kq19 =>
   rw [F98_l1.eq_2] at h
   generalize hrec18 : F98_l1 k p0 p1 kq19 = rec18 at h
   refine AW.sr ?_
   refine AO.c (x := eBool (decide (x17 < (p1.length : Int)))) (Calm.int rfl rfl rfl rfl) ?_
   refine AO.nK [0, 1, 5, 11, 12, 13, 14] ?_
   refine AW.seq ?_
   rcases of_ite h with ⟨hc20, h⟩ | ⟨hc20, h⟩
   ·refine AW.condP _ rfl hc20 ?_
    refine AW.sK [0, 1, 5, 11, 12, 13] ?_
    refine AW.seq ?_
    refine AW.block ?_
    refine AW.sr ?_
    obtain ⟨hg21, h⟩ := of_guard h
    refine AO.c (Calm.idxL (f := eBool) rfl rfl rfl hg21 Try.underlying98 sz4) ?_
    refine AO.c (Calm.loadRp rfl rfl ag4 sz4) ?_
    refine AO.ag rfl rfl ?_
    refine AO.nK [0, 1, 5, 7, 11, 12, 13] ?_
    obtain ⟨b22, hq23, h⟩ := of_bind h
    refine AW.regM [(0, (.ptr q0 0)), (1, (.fz 1 (p1.map eBool))), (5, (eBool b22)), (11, (.fz 1 (p1.map eBool))), (12, (eI64 (p1.length : Int))), (13, (eI64 x17))] ((q0, (.mem (.st [(4, (e121 p0.f0)), (1, (.fz 1 (p0.f1.map eI64))), (1, (.fz 1 (p0.f2.map eU8))), (1, (.mp q0_0)), (1, (.own q0_1 0 p0.f4.length)), (258, (.st [(256, (.ar 1 (p0.f5.f0.toList.map eU8))), (1, (.own q0_2 0 p0.f5.f1.length)), (1, (.own q0_3 0 p0.f5.f2.length))]))]))) :: (q0_0, (.map (encM Value.string eI64 p0.f3))) :: (q0_1, (.mem (.ar 1 (p0.f4.map e98)))) :: (q0_2, (.mem (.ar 1 (p0.f5.f1.map e35)))) :: (q0_3, (.mem (.ar 1 (p0.f5.f2.map eI64)))) :: T0) ?_ ?_
    ·refine AO.mv rfl rfl ?_
     refine AO.mv rfl rfl ?_
     rcases of_ite hq23 with ⟨hc24, hq23⟩ | ⟨hc24, hq23⟩
     ·refine AO.sF rfl rfl (bD hc24) ?_
      refine AO.c (Calm.pickT rfl (bD hc24) rfl) ?_
      refine AO.ag rfl rfl ?_
      cases hq23
      refine AO.nilE ⟨rfl, rfl⟩ ?_ ?_
      · exact ⟨rfl, rfl, rfl, rfl, rfl, rfl, trivial⟩
      · exact (Sub.refl _)
     ·refine AO.cG rfl rfl (bD (eq_false_of_ne_true hc24)) (Calm.move rfl rfl) ?_
      refine AO.c (Calm.pickF rfl (bD (eq_false_of_ne_true hc24)) rfl) ?_
      refine AO.ag rfl rfl ?_
      cases hq23
      refine AO.nilE ⟨rfl, rfl⟩ ?_ ?_
      · exact ⟨rfl, rfl, rfl, rfl, rfl, rfl, trivial⟩
      · exact (Sub.refl _)
    ·refine AW.reg ?_
     refine AO.c (x := eI64 (w64 (x17 + (1 : Int)))) (Calm.int rfl rfl rfl rfl) ?_
     refine AO.mv rfl rfl ?_
     refine AO.nK [0, 1, 5, 11, 12, 13] ?_
     exact ⟨kq19, Nat.lt_succ_self _, b22, (w64 (x17 + (1 : Int))), rfl, rfl, by rw [hrec18]; exact h⟩
   ·refine AW.condN _ rfl hc20 ?_
    refine AW.eK [0, 1, 5] ?_
    exact ⟨b16, rfl, rfl, h⟩
  ·rintro _ _ ⟨b3, rfl, rfl, h⟩
   rw [F98_c0.eq_1] at h
   refine AW.seq ?_
   refine AW.sr ?_
   refine AO.mv rfl rfl ?_
   refine AO.c (Calm.not rfl rfl) ?_
   refine AO.nK [0, 1, 23] ?_
   rcases of_ite h with ⟨hc4, h⟩ | ⟨hc4, h⟩
   ·refine AW.condT' _ rfl hc4 ?_
    refine AW.sr ?_
    refine AO.ag rfl rfl ?_
    refine AO.nK [4] ?_
    refine AW.rK [4] ?_
    have hr := Option.some.inj h
    subst hr
    exact ⟨[(eI64 (-1 : Int))], ⟨rfl, rfl, trivial⟩, q0_0, q0_1, q0_2, q0_3, rfl, (Sub.cons 0 rfl (Sub.cons 0 rfl (Sub.cons 0 rfl (Sub.cons 0 rfl (Sub.cons 0 rfl (Sub.refl _))))))⟩
   ·refine AW.condF' _ rfl hc4 ?_
    refine AW.sK [0, 1] ?_
    refine AW.sr ?_
    refine AO.mv rfl rfl ?_
    obtain ⟨t5, et5, h⟩ := of_bind h
    refine AO.callS [(.fz 1 (p1.map eBool))] (eStr t5) 25 rfl (by decide) ok123 rfl rfl rfl ⟨rfl, rfl, trivial⟩ (F123_spec et5) ?_
    refine AO.ag rfl rfl ?_
    refine AO.nK [0, 1, 8] ?_
    refine AW.seq ?_
    refine AW.sr ?_
    refine AO.mv rfl rfl ?_
    refine AO.c (Calm.nilCheck rfl rfl) ?_
    refine AO.c (x := .ptr q0 6) (Calm.fldPtr rfl rfl Try.underlying156 rfl sz109 _ rfl) ?_
    refine AO.c (Calm.load 0 rfl rfl rfl (At.cast (At.fldS (At.fldS (At.fldS (At.fld0 At.here)))) rfl) ag109 sz109) ?_
    refine AO.mv rfl rfl ?_
    refine AO.c (x := .tup [(eI64 ((mget p0.f3 t5).getD (0 : Int))), (eBool ((mget p0.f3 t5).isSome))]) (Calm.look2 (f := eI64) string_inj string_key (0 : Int) 1 rfl rfl rfl rfl Try.underlying109 Try.underlying9 mz3) ?_
    refine AO.mv rfl rfl ?_
    refine AO.c (Calm.extract rfl rfl rfl) ?_
    refine AO.c (Calm.extract rfl rfl rfl) ?_
    refine AO.ag rfl rfl ?_
    refine AO.ag rfl rfl ?_
    refine AO.nK [0, 1, 8, 9, 10] ?_
    refine AW.sr ?_
    refine AO.mv rfl rfl ?_
    refine AO.nK [0, 1, 8, 9, 35] ?_
    rcases of_ite h with ⟨hc6, h⟩ | ⟨hc6, h⟩
    ·refine AW.condT' _ rfl hc6 ?_
     refine AW.sr ?_
     refine AO.mv rfl rfl ?_
     refine AO.ag rfl rfl ?_
     refine AO.nK [4] ?_
     refine AW.rK [4] ?_
     have hr := Option.some.inj h
     subst hr
     exact ⟨[(eI64 ((mget p0.f3 t5).getD (0 : Int)))], ⟨rfl, rfl, trivial⟩, q0_0, q0_1, q0_2, q0_3, rfl, (Sub.cons 0 rfl (Sub.cons 0 rfl (Sub.cons 0 rfl (Sub.cons 0 rfl (Sub.cons 0 rfl (Sub.refl _))))))⟩
    ·refine AW.condF' _ rfl hc6 ?_
     refine AW.sK [0, 1, 8] ?_
     refine AW.seq ?_
     refine AW.regEff (by rfl) (by decide +kernel) (fun (σ : Nat → Nat) => ([(.ptr q0 0), (.ptr q0 0), (.ptr q0 6), (.mp q0_0), (eStr t5), (.ptr q0 0), (.ptr q0 0), (.ptr q0 7), (.own q0_1 0 p0.f4.length), (eI64 (p0.f4.length : Int)), (.fl undef)] : List AV)) (fun (L : Nat → Bool) (σ : Nat → Nat) => ((q0, (.mem (.st [(4, (e121 p0.f0)), (1, (.fz 1 (p0.f1.map eI64))), (1, (.fz 1 (p0.f2.map eU8))), (1, (.mp q0_0)), (1, (.own q0_1 0 p0.f4.length)), (258, (.st [(256, (.ar 1 (p0.f5.f0.toList.map eU8))), (1, (.own q0_2 0 p0.f5.f1.length)), (1, (.own q0_3 0 p0.f5.f2.length))]))]))) :: (q0_1, (.mem (.ar 1 (p0.f4.map e98)))) :: (q0_2, (.mem (.ar 1 (p0.f5.f1.map e35)))) :: (q0_3, (.mem (.ar 1 (p0.f5.f2.map eI64)))) :: (bif L 10 then ((q0_0, (.map (encM Value.string eI64 (mput p0.f3 t5 (p0.f4.length : Int))))) :: T0) else ((q0_0, (.map (encM Value.string eI64 p0.f3))) :: T0)) : Heap)) [(0, (.ptr q0 0)), (1, (.fz 1 (p1.map eBool))), (8, (eStr t5))] ⟨rfl, rfl, rfl, trivial⟩ (fun _ => rfl) (fun σ => (Sub.cons 0 rfl (Sub.cons 1 rfl (Sub.cons 1 rfl (Sub.cons 1 rfl (Sub.cons 0 rfl (Sub.refl _))))))) ⟨?_, ?_, ?_, ?_, ?_, ?_, ?_, ?_, ?_, ?_, ?_, trivial⟩ (fun σ => [(0, (.ptr q0 0)), (1, (.fz 1 (p1.map eBool)))]) (fun σ => ((q0, (.mem (.st [(4, (e121 p0.f0)), (1, (.fz 1 (p0.f1.map eI64))), (1, (.fz 1 (p0.f2.map eU8))), (1, (.mp q0_0)), (1, (.own q0_1 0 p0.f4.length)), (258, (.st [(256, (.ar 1 (p0.f5.f0.toList.map eU8))), (1, (.own q0_2 0 p0.f5.f1.length)), (1, (.own q0_3 0 p0.f5.f2.length))]))]))) :: (q0_1, (.mem (.ar 1 (p0.f4.map e98)))) :: (q0_2, (.mem (.ar 1 (p0.f5.f1.map e35)))) :: (q0_3, (.mem (.ar 1 (p0.f5.f2.map eI64)))) :: (q0_0, (.map (encM Value.string eI64 (mput p0.f3 t5 (p0.f4.length : Int))))) :: T0)) (fun σ => ⟨rfl, rfl, trivial⟩) (fun σ => Sub.refl _) (fun σ => ?_)
     ·refine StepE.calm (fun _ _ => rfl) fun L σ hc hi hd => ?_
      refine AO.wK [0] ?_
      refine AO.mv rfl rfl ?_
      exact AO.nE (d := 37) rfl ⟨⟨37, _, rfl, rfl, rfl⟩, Sub.refl _⟩
     ·refine StepE.calm (fun _ _ => rfl) fun L σ hc hi hd => ?_
      refine AO.wK [37] ?_
      refine AO.c (Calm.nilCheck rfl rfl) ?_
      exact AO.nE (d := 38) rfl ⟨⟨38, _, rfl, rfl, rfl⟩, Sub.refl _⟩
     ·refine StepE.calm (fun _ _ => rfl) fun L σ hc hi hd => ?_
      refine AO.wK [38] ?_
      refine AO.c (x := .ptr q0 6) (Calm.fldPtr rfl rfl Try.underlying156 rfl sz109 _ rfl) ?_
      exact AO.nE (d := 39) rfl ⟨⟨39, _, rfl, rfl, rfl⟩, Sub.refl _⟩
     ·refine StepE.calm (fun _ _ => rfl) fun L σ hc hi hd => ?_
      refine AO.wK [39] ?_
      refine AO.c (Calm.load 0 rfl rfl rfl (At.cast (At.fldS (At.fldS (At.fldS (At.fld0 At.here)))) rfl) ag109 sz109) ?_
      exact AO.nE (d := 40) rfl ⟨⟨40, _, rfl, rfl, rfl⟩, Sub.refl _⟩
     ·refine StepE.calm (fun _ _ => rfl) fun L σ hc hi hd => ?_
      refine AO.wK [8] ?_
      refine AO.mv rfl rfl ?_
      exact AO.nE (d := 41) rfl ⟨⟨41, _, rfl, rfl, rfl⟩, Sub.refl _⟩
     ·refine StepE.calm (fun _ _ => rfl) fun L σ hc hi hd => ?_
      refine AO.wK [0] ?_
      refine AO.mv rfl rfl ?_
      exact AO.nE (d := 42) rfl ⟨⟨42, _, rfl, rfl, rfl⟩, Sub.refl _⟩
     ·refine StepE.calm (fun _ _ => rfl) fun L σ hc hi hd => ?_
      refine AO.wK [42] ?_
      refine AO.c (Calm.nilCheck rfl rfl) ?_
      exact AO.nE (d := 43) rfl ⟨⟨43, _, rfl, rfl, rfl⟩, Sub.refl _⟩
     ·refine StepE.calm (fun _ _ => rfl) fun L σ hc hi hd => ?_
      refine AO.wK [43] ?_
      refine AO.c (x := .ptr q0 7) (Calm.fldPtr rfl rfl Try.underlying156 rfl sz107 _ rfl) ?_
      exact AO.nE (d := 44) rfl ⟨⟨44, _, rfl, rfl, rfl⟩, Sub.refl _⟩
     ·refine StepE.calm (fun _ _ => rfl) fun L σ hc hi hd => ?_
      refine AO.wK [44] ?_
      refine AO.c (Calm.load 0 rfl rfl rfl (At.cast (At.fldS (At.fldS (At.fldS (At.fldS (At.fld0 At.here))))) rfl) ag107 sz107) ?_
      exact AO.nE (d := 45) rfl ⟨⟨45, _, rfl, rfl, rfl⟩, Sub.refl _⟩
     ·refine StepE.calm (fun _ _ => rfl) fun L σ hc hi hd => ?_
      refine AO.wK [45] ?_
      refine AO.c (Calm.lenOwn rfl rfl Try.underlying107) ?_
      exact AO.nE (d := 46) rfl ⟨⟨46, _, rfl, rfl, rfl⟩, Sub.refl _⟩
     ·intro L σ hc hi hd
      refine AO.heq (H' := ((q0, (.mem (.st [(4, (e121 p0.f0)), (1, (.fz 1 (p0.f1.map eI64))), (1, (.fz 1 (p0.f2.map eU8))), (1, (.mp q0_0)), (1, (.own q0_1 0 p0.f4.length)), (258, (.st [(256, (.ar 1 (p0.f5.f0.toList.map eU8))), (1, (.own q0_2 0 p0.f5.f1.length)), (1, (.own q0_3 0 p0.f5.f2.length))]))]))) :: (q0_1, (.mem (.ar 1 (p0.f4.map e98)))) :: (q0_2, (.mem (.ar 1 (p0.f5.f1.map e35)))) :: (q0_3, (.mem (.ar 1 (p0.f5.f2.map eI64)))) :: (q0_0, (.map (encM Value.string eI64 p0.f3))) :: T0)) (by first | rfl | simp only [hi, cond_true, cond_false]) ?_
      refine AO.wK [40, 41, 46] ?_
      refine AO.mapPut (f := eI64) string_inj string_key 4 rfl rfl rfl rfl rfl rfl rfl rfl Try.underlying109 Try.underlying9 ?_
      have a10 : addL L 10 10 = true := rfl
      exact AO.n0 ⟨σ, (fun _ _ => rfl), (fun d' hd' => by cases hd'), Sub.of_eq (B := ((q0, (.mem (.st [(4, (e121 p0.f0)), (1, (.fz 1 (p0.f1.map eI64))), (1, (.fz 1 (p0.f2.map eU8))), (1, (.mp q0_0)), (1, (.own q0_1 0 p0.f4.length)), (258, (.st [(256, (.ar 1 (p0.f5.f0.toList.map eU8))), (1, (.own q0_2 0 p0.f5.f1.length)), (1, (.own q0_3 0 p0.f5.f2.length))]))]))) :: (q0_1, (.mem (.ar 1 (p0.f4.map e98)))) :: (q0_2, (.mem (.ar 1 (p0.f5.f1.map e35)))) :: (q0_3, (.mem (.ar 1 (p0.f5.f2.map eI64)))) :: (q0_0, (.map (encM Value.string eI64 (mput p0.f3 t5 (p0.f4.length : Int))))) :: T0)) (by simp only [a10, cond_true, cond_false]) (Sub.refl _)⟩
     ·refine AO.nH [0, 1] (H' := ((q0, (.mem (.st [(4, (e121 p0.f0)), (1, (.fz 1 (p0.f1.map eI64))), (1, (.fz 1 (p0.f2.map eU8))), (1, (.mp q0_0)), (1, (.own q0_1 0 p0.f4.length)), (258, (.st [(256, (.ar 1 (p0.f5.f0.toList.map eU8))), (1, (.own q0_2 0 p0.f5.f1.length)), (1, (.own q0_3 0 p0.f5.f2.length))]))]))) :: (q0_0, (.map (encM Value.string eI64 (mput p0.f3 t5 (p0.f4.length : Int))))) :: (q0_1, (.mem (.ar 1 (p0.f4.map e98)))) :: (q0_2, (.mem (.ar 1 (p0.f5.f1.map e35)))) :: (q0_3, (.mem (.ar 1 (p0.f5.f2.map eI64)))) :: T0)) (Sub.cons 0 rfl (Sub.cons 3 rfl (Sub.cons 0 rfl (Sub.cons 0 rfl (Sub.cons 0 rfl (Sub.refl _)))))) ?_
      refine AW.sr ?_
      refine AO.mv rfl rfl ?_
      refine AO.mv rfl rfl ?_
      refine AO.c (Calm.nilCheck rfl rfl) ?_
      refine AO.c (x := .ptr q0 7) (Calm.fldPtr rfl rfl Try.underlying156 rfl sz107 _ rfl) ?_
      refine AO.c (Calm.load 0 rfl rfl rfl (At.cast (At.fldS (At.fldS (At.fldS (At.fldS (At.fld0 At.here))))) rfl) ag107 sz107) ?_
      refine AO.mv rfl rfl ?_
      refine AO.lit (Z := (.fl (.slice none 0 0))) (xs := (([p1] : List (List Bool)).map e98)) (qs := [(0, (.fz 1 (p1.map eBool)))]) rfl 53 rfl (by decide) rfl ⟨rfl, rfl, rfl, trivial⟩ Try.underlying107 sz98 zr98 lay98 rfl (by decide) (litOK (z := 1) [(.fz 1 (p1.map eBool))] rfl ⟨⟨rfl, rfl⟩, trivial⟩) rfl fun n7 => ?_
      obtain ⟨hg9, h⟩ := of_guard h
      refine AO.appendL (l := p0.f4) (m := ([p1] : List (List Bool))) 3 54 rfl (by decide) rfl rfl rfl rfl rfl (Src.ownL (f := e98) (l := ([p1] : List (List Bool))) 0 rfl) Try.underlying107 Try.underlying107 sz98 by98 zr98 rfl hg9 (by decide) fun n8 => ?_
      refine AO.c (Calm.nilCheck rfl rfl) ?_
      refine AO.c (x := .ptr q0 7) (Calm.fldPtr rfl rfl Try.underlying156 rfl sz107 _ rfl) ?_
      refine AO.store (X' := (.st [(4, (e121 p0.f0)), (1, (.fz 1 (p0.f1.map eI64))), (1, (.fz 1 (p0.f2.map eU8))), (1, (.mp q0_0)), (1, (.own n8 0 (p0.f4 ++ ([p1] : List (List Bool))).length)), (258, (.st [(256, (.ar 1 (p0.f5.f0.toList.map eU8))), (1, (.own q0_2 0 p0.f5.f1.length)), (1, (.own q0_3 0 p0.f5.f2.length))]))])) 1 rfl rfl rfl rfl rfl rfl (Put.cast (Put.fldS (Put.fldS (Put.fldS (Put.fldS (Put.fld0 Put.here))))) rfl) rfl rfl sz107 rfl ?_
      refine AO.nH [0, 1] (H' := ((q0, (.mem (.st [(4, (e121 p0.f0)), (1, (.fz 1 (p0.f1.map eI64))), (1, (.fz 1 (p0.f2.map eU8))), (1, (.mp q0_0)), (1, (.own n8 0 (p0.f4 ++ ([p1] : List (List Bool))).length)), (258, (.st [(256, (.ar 1 (p0.f5.f0.toList.map eU8))), (1, (.own q0_2 0 p0.f5.f1.length)), (1, (.own q0_3 0 p0.f5.f2.length))]))]))) :: (q0_0, (.map (encM Value.string eI64 (mput p0.f3 t5 (p0.f4.length : Int))))) :: (n8, (.mem (.ar 1 ((p0.f4 ++ ([p1] : List (List Bool))).map e98)))) :: (q0_2, (.mem (.ar 1 (p0.f5.f1.map e35)))) :: (q0_3, (.mem (.ar 1 (p0.f5.f2.map eI64)))) :: T0)) (Sub.cons 1 rfl (Sub.cons 1 rfl (Sub.cons 1 rfl (Sub.cons 1 rfl (Sub.cons 1 rfl (Sub.drop (Sub.refl _))))))) ?_
      refine AW.seq ?_
      obtain ⟨t10, et10, h⟩ := of_bind h
      obtain ⟨hg14, h⟩ := of_guard h
      refine AW.regEff (by rfl) (by decide +kernel) (fun (σ : Nat → Nat) => ([(.ptr q0 0), (.ptr q0 0), (.ptr q0 0), (.ptr q0 8), (.ptr q0 265), (.own q0_3 0 p0.f5.f2.length), (.ptr q0 0), (.fz 1 (p1.map eBool)), (eI64 t10), (.fz 1 (([t10] : List Int).map eI64)), (.own (σ 10) 0 (p0.f5.f2 ++ ([t10] : List Int)).length), (.ptr q0 0), (.ptr q0 8), (.ptr q0 265), (.fl undef)] : List AV)) (fun (L : Nat → Bool) (σ : Nat → Nat) => ((q0_0, (.map (encM Value.string eI64 (mput p0.f3 t5 (p0.f4.length : Int))))) :: (n8, (.mem (.ar 1 ((p0.f4 ++ ([p1] : List (List Bool))).map e98)))) :: (q0_2, (.mem (.ar 1 (p0.f5.f1.map e35)))) :: (bif L 10 then (bif L 14 then ((q0, (.mem (.st [(4, (e121 p0.f0)), (1, (.fz 1 (p0.f1.map eI64))), (1, (.fz 1 (p0.f2.map eU8))), (1, (.mp q0_0)), (1, (.own n8 0 (p0.f4 ++ ([p1] : List (List Bool))).length)), (258, (.st [(256, (.ar 1 (p0.f5.f0.toList.map eU8))), (1, (.own q0_2 0 p0.f5.f1.length)), (1, (.own (σ 10) 0 (p0.f5.f2 ++ ([t10] : List Int)).length))]))]))) :: ((σ 10), (.mem (.ar 1 ((p0.f5.f2 ++ ([t10] : List Int)).map eI64)))) :: T0) else ((q0, (.mem (.st [(4, (e121 p0.f0)), (1, (.fz 1 (p0.f1.map eI64))), (1, (.fz 1 (p0.f2.map eU8))), (1, (.mp q0_0)), (1, (.own n8 0 (p0.f4 ++ ([p1] : List (List Bool))).length)), (258, (.st [(256, (.ar 1 (p0.f5.f0.toList.map eU8))), (1, (.own q0_2 0 p0.f5.f1.length)), (1, (.own q0_3 0 p0.f5.f2.length))]))]))) :: ((σ 10), (.mem (.ar 1 ((p0.f5.f2 ++ ([t10] : List Int)).map eI64)))) :: T0)) else ((q0, (.mem (.st [(4, (e121 p0.f0)), (1, (.fz 1 (p0.f1.map eI64))), (1, (.fz 1 (p0.f2.map eU8))), (1, (.mp q0_0)), (1, (.own n8 0 (p0.f4 ++ ([p1] : List (List Bool))).length)), (258, (.st [(256, (.ar 1 (p0.f5.f0.toList.map eU8))), (1, (.own q0_2 0 p0.f5.f1.length)), (1, (.own q0_3 0 p0.f5.f2.length))]))]))) :: (q0_3, (.mem (.ar 1 (p0.f5.f2.map eI64)))) :: T0)) : Heap)) [(0, (.ptr q0 0)), (1, (.fz 1 (p1.map eBool)))] ⟨rfl, rfl, trivial⟩ (fun _ => rfl) (fun σ => (Sub.cons 1 rfl (Sub.cons 1 rfl (Sub.cons 1 rfl (Sub.cons 0 rfl (Sub.cons 0 rfl (Sub.refl _))))))) ⟨?_, ?_, ?_, ?_, ?_, ?_, ?_, ?_, ?_, ?_, ?_, ?_, ?_, ?_, ?_, trivial⟩ (fun σ => [(0, (.ptr q0 0))]) (fun σ => ((q0_0, (.map (encM Value.string eI64 (mput p0.f3 t5 (p0.f4.length : Int))))) :: (n8, (.mem (.ar 1 ((p0.f4 ++ ([p1] : List (List Bool))).map e98)))) :: (q0_2, (.mem (.ar 1 (p0.f5.f1.map e35)))) :: (q0, (.mem (.st [(4, (e121 p0.f0)), (1, (.fz 1 (p0.f1.map eI64))), (1, (.fz 1 (p0.f2.map eU8))), (1, (.mp q0_0)), (1, (.own n8 0 (p0.f4 ++ ([p1] : List (List Bool))).length)), (258, (.st [(256, (.ar 1 (p0.f5.f0.toList.map eU8))), (1, (.own q0_2 0 p0.f5.f1.length)), (1, (.own (σ 10) 0 (p0.f5.f2 ++ ([t10] : List Int)).length))]))]))) :: ((σ 10), (.mem (.ar 1 ((p0.f5.f2 ++ ([t10] : List Int)).map eI64)))) :: T0)) (fun σ => ⟨rfl, trivial⟩) (fun σ => Sub.refl _) (fun σ => ?_)
      ·refine StepE.calm (fun _ _ => rfl) fun L σ hc hi hd => ?_
       have m14 : L 14 = false := hc.neg (i := 0) (j := 14) rfl (by rfl) hi
       cases b10 : L 10 with
       | true =>
         refine AO.heq (H' := ((q0_0, (.map (encM Value.string eI64 (mput p0.f3 t5 (p0.f4.length : Int))))) :: (n8, (.mem (.ar 1 ((p0.f4 ++ ([p1] : List (List Bool))).map e98)))) :: (q0_2, (.mem (.ar 1 (p0.f5.f1.map e35)))) :: (q0, (.mem (.st [(4, (e121 p0.f0)), (1, (.fz 1 (p0.f1.map eI64))), (1, (.fz 1 (p0.f2.map eU8))), (1, (.mp q0_0)), (1, (.own n8 0 (p0.f4 ++ ([p1] : List (List Bool))).length)), (258, (.st [(256, (.ar 1 (p0.f5.f0.toList.map eU8))), (1, (.own q0_2 0 p0.f5.f1.length)), (1, (.own q0_3 0 p0.f5.f2.length))]))]))) :: ((σ 10), (.mem (.ar 1 ((p0.f5.f2 ++ ([t10] : List Int)).map eI64)))) :: T0)) (by first | rfl | simp only [b10, m14, cond_true, cond_false]) ?_
         refine AO.wK [0] ?_
         refine AO.mv rfl rfl ?_
         exact AO.nE (d := 57) rfl ⟨⟨57, _, rfl, rfl, rfl⟩, Sub.of_eq (by first | rfl | simp only [b10, m14, cond_true, cond_false]) (Sub.refl _)⟩
       | false =>
         refine AO.heq (H' := ((q0_0, (.map (encM Value.string eI64 (mput p0.f3 t5 (p0.f4.length : Int))))) :: (n8, (.mem (.ar 1 ((p0.f4 ++ ([p1] : List (List Bool))).map e98)))) :: (q0_2, (.mem (.ar 1 (p0.f5.f1.map e35)))) :: (q0, (.mem (.st [(4, (e121 p0.f0)), (1, (.fz 1 (p0.f1.map eI64))), (1, (.fz 1 (p0.f2.map eU8))), (1, (.mp q0_0)), (1, (.own n8 0 (p0.f4 ++ ([p1] : List (List Bool))).length)), (258, (.st [(256, (.ar 1 (p0.f5.f0.toList.map eU8))), (1, (.own q0_2 0 p0.f5.f1.length)), (1, (.own q0_3 0 p0.f5.f2.length))]))]))) :: (q0_3, (.mem (.ar 1 (p0.f5.f2.map eI64)))) :: T0)) (by first | rfl | simp only [b10, m14, cond_true, cond_false]) ?_
         refine AO.wK [0] ?_
         refine AO.mv rfl rfl ?_
         exact AO.nE (d := 57) rfl ⟨⟨57, _, rfl, rfl, rfl⟩, Sub.of_eq (by first | rfl | simp only [b10, m14, cond_true, cond_false]) (Sub.refl _)⟩
      ·refine StepE.calm (fun _ _ => rfl) fun L σ hc hi hd => ?_
       have m2 : L 2 = false := hc.neg (i := 1) (j := 2) rfl (by rfl) hi
       have m3 : L 3 = false := hc.neg (i := 2) (j := 3) rfl (by rfl) m2
       have m4 : L 4 = false := hc.neg (i := 3) (j := 4) rfl (by rfl) m3
       have m5 : L 5 = false := hc.neg (i := 4) (j := 5) rfl (by rfl) m4
       have m10 : L 10 = false := hc.neg (i := 5) (j := 10) rfl (by rfl) m5
       have m14 : L 14 = false := hc.neg (i := 1) (j := 14) rfl (by rfl) hi
       refine AO.heq (H' := ((q0_0, (.map (encM Value.string eI64 (mput p0.f3 t5 (p0.f4.length : Int))))) :: (n8, (.mem (.ar 1 ((p0.f4 ++ ([p1] : List (List Bool))).map e98)))) :: (q0_2, (.mem (.ar 1 (p0.f5.f1.map e35)))) :: (q0, (.mem (.st [(4, (e121 p0.f0)), (1, (.fz 1 (p0.f1.map eI64))), (1, (.fz 1 (p0.f2.map eU8))), (1, (.mp q0_0)), (1, (.own n8 0 (p0.f4 ++ ([p1] : List (List Bool))).length)), (258, (.st [(256, (.ar 1 (p0.f5.f0.toList.map eU8))), (1, (.own q0_2 0 p0.f5.f1.length)), (1, (.own q0_3 0 p0.f5.f2.length))]))]))) :: (q0_3, (.mem (.ar 1 (p0.f5.f2.map eI64)))) :: T0)) (by first | rfl | simp only [m10, m14, cond_true, cond_false]) ?_
       refine AO.wK [0] ?_
       refine AO.mv rfl rfl ?_
       exact AO.nE (d := 58) rfl ⟨⟨58, _, rfl, rfl, rfl⟩, Sub.of_eq (by first | rfl | simp only [m10, m14, cond_true, cond_false]) (Sub.refl _)⟩
      ·refine StepE.calm (fun _ _ => rfl) fun L σ hc hi hd => ?_
       have m3 : L 3 = false := hc.neg (i := 2) (j := 3) rfl (by rfl) hi
       have m4 : L 4 = false := hc.neg (i := 3) (j := 4) rfl (by rfl) m3
       have m5 : L 5 = false := hc.neg (i := 4) (j := 5) rfl (by rfl) m4
       have m10 : L 10 = false := hc.neg (i := 5) (j := 10) rfl (by rfl) m5
       have m14 : L 14 = false := hc.neg (i := 2) (j := 14) rfl (by rfl) hi
       refine AO.heq (H' := ((q0_0, (.map (encM Value.string eI64 (mput p0.f3 t5 (p0.f4.length : Int))))) :: (n8, (.mem (.ar 1 ((p0.f4 ++ ([p1] : List (List Bool))).map e98)))) :: (q0_2, (.mem (.ar 1 (p0.f5.f1.map e35)))) :: (q0, (.mem (.st [(4, (e121 p0.f0)), (1, (.fz 1 (p0.f1.map eI64))), (1, (.fz 1 (p0.f2.map eU8))), (1, (.mp q0_0)), (1, (.own n8 0 (p0.f4 ++ ([p1] : List (List Bool))).length)), (258, (.st [(256, (.ar 1 (p0.f5.f0.toList.map eU8))), (1, (.own q0_2 0 p0.f5.f1.length)), (1, (.own q0_3 0 p0.f5.f2.length))]))]))) :: (q0_3, (.mem (.ar 1 (p0.f5.f2.map eI64)))) :: T0)) (by first | rfl | simp only [m10, m14, cond_true, cond_false]) ?_
       refine AO.wK [58] ?_
       refine AO.c (Calm.nilCheck rfl rfl) ?_
       exact AO.nE (d := 59) rfl ⟨⟨59, _, rfl, rfl, rfl⟩, Sub.of_eq (by first | rfl | simp only [m10, m14, cond_true, cond_false]) (Sub.refl _)⟩
      ·refine StepE.calm (fun _ _ => rfl) fun L σ hc hi hd => ?_
       have m4 : L 4 = false := hc.neg (i := 3) (j := 4) rfl (by rfl) hi
       have m5 : L 5 = false := hc.neg (i := 4) (j := 5) rfl (by rfl) m4
       have m10 : L 10 = false := hc.neg (i := 5) (j := 10) rfl (by rfl) m5
       have m14 : L 14 = false := hc.neg (i := 3) (j := 14) rfl (by rfl) hi
       refine AO.heq (H' := ((q0_0, (.map (encM Value.string eI64 (mput p0.f3 t5 (p0.f4.length : Int))))) :: (n8, (.mem (.ar 1 ((p0.f4 ++ ([p1] : List (List Bool))).map e98)))) :: (q0_2, (.mem (.ar 1 (p0.f5.f1.map e35)))) :: (q0, (.mem (.st [(4, (e121 p0.f0)), (1, (.fz 1 (p0.f1.map eI64))), (1, (.fz 1 (p0.f2.map eU8))), (1, (.mp q0_0)), (1, (.own n8 0 (p0.f4 ++ ([p1] : List (List Bool))).length)), (258, (.st [(256, (.ar 1 (p0.f5.f0.toList.map eU8))), (1, (.own q0_2 0 p0.f5.f1.length)), (1, (.own q0_3 0 p0.f5.f2.length))]))]))) :: (q0_3, (.mem (.ar 1 (p0.f5.f2.map eI64)))) :: T0)) (by first | rfl | simp only [m10, m14, cond_true, cond_false]) ?_
       refine AO.wK [59] ?_
       refine AO.c (x := .ptr q0 8) (Calm.fldPtr rfl rfl Try.underlying156 rfl sz55 _ rfl) ?_
       exact AO.nE (d := 60) rfl ⟨⟨60, _, rfl, rfl, rfl⟩, Sub.of_eq (by first | rfl | simp only [m10, m14, cond_true, cond_false]) (Sub.refl _)⟩
      ·refine StepE.calm (fun _ _ => rfl) fun L σ hc hi hd => ?_
       have m5 : L 5 = false := hc.neg (i := 4) (j := 5) rfl (by rfl) hi
       have m10 : L 10 = false := hc.neg (i := 5) (j := 10) rfl (by rfl) m5
       have m14 : L 14 = false := hc.neg (i := 4) (j := 14) rfl (by rfl) hi
       refine AO.heq (H' := ((q0_0, (.map (encM Value.string eI64 (mput p0.f3 t5 (p0.f4.length : Int))))) :: (n8, (.mem (.ar 1 ((p0.f4 ++ ([p1] : List (List Bool))).map e98)))) :: (q0_2, (.mem (.ar 1 (p0.f5.f1.map e35)))) :: (q0, (.mem (.st [(4, (e121 p0.f0)), (1, (.fz 1 (p0.f1.map eI64))), (1, (.fz 1 (p0.f2.map eU8))), (1, (.mp q0_0)), (1, (.own n8 0 (p0.f4 ++ ([p1] : List (List Bool))).length)), (258, (.st [(256, (.ar 1 (p0.f5.f0.toList.map eU8))), (1, (.own q0_2 0 p0.f5.f1.length)), (1, (.own q0_3 0 p0.f5.f2.length))]))]))) :: (q0_3, (.mem (.ar 1 (p0.f5.f2.map eI64)))) :: T0)) (by first | rfl | simp only [m10, m14, cond_true, cond_false]) ?_
       refine AO.wK [60] ?_
       refine AO.c (x := .ptr q0 265) (Calm.fldPtr rfl rfl Try.underlying55 rfl sz35 _ rfl) ?_
       exact AO.nE (d := 61) rfl ⟨⟨61, _, rfl, rfl, rfl⟩, Sub.of_eq (by first | rfl | simp only [m10, m14, cond_true, cond_false]) (Sub.refl _)⟩
      ·refine StepE.calm (fun _ _ => rfl) fun L σ hc hi hd => ?_
       have m10 : L 10 = false := hc.neg (i := 5) (j := 10) rfl (by rfl) hi
       have m14 : L 14 = false := hc.neg (i := 5) (j := 14) rfl (by rfl) hi
       refine AO.heq (H' := ((q0_0, (.map (encM Value.string eI64 (mput p0.f3 t5 (p0.f4.length : Int))))) :: (n8, (.mem (.ar 1 ((p0.f4 ++ ([p1] : List (List Bool))).map e98)))) :: (q0_2, (.mem (.ar 1 (p0.f5.f1.map e35)))) :: (q0, (.mem (.st [(4, (e121 p0.f0)), (1, (.fz 1 (p0.f1.map eI64))), (1, (.fz 1 (p0.f2.map eU8))), (1, (.mp q0_0)), (1, (.own n8 0 (p0.f4 ++ ([p1] : List (List Bool))).length)), (258, (.st [(256, (.ar 1 (p0.f5.f0.toList.map eU8))), (1, (.own q0_2 0 p0.f5.f1.length)), (1, (.own q0_3 0 p0.f5.f2.length))]))]))) :: (q0_3, (.mem (.ar 1 (p0.f5.f2.map eI64)))) :: T0)) (by first | rfl | simp only [m10, m14, cond_true, cond_false]) ?_
       refine AO.wK [61] ?_
       refine AO.c (Calm.load 3 rfl rfl rfl (At.cast (At.fldS (At.fldS (At.fldS (At.fldS (At.fldS (At.fld0 (At.fldS (At.fldS (At.fld0 At.here))))))))) rfl) ag35 sz35) ?_
       exact AO.nE (d := 62) rfl ⟨⟨62, _, rfl, rfl, rfl⟩, Sub.of_eq (by first | rfl | simp only [m10, m14, cond_true, cond_false]) (Sub.refl _)⟩
      ·refine StepE.calm (fun _ _ => rfl) fun L σ hc hi hd => ?_
       have m8 : L 8 = false := hc.neg (i := 6) (j := 8) rfl (by rfl) hi
       have m10 : L 10 = false := hc.neg (i := 8) (j := 10) rfl (by rfl) m8
       have m14 : L 14 = false := hc.neg (i := 6) (j := 14) rfl (by rfl) hi
       refine AO.heq (H' := ((q0_0, (.map (encM Value.string eI64 (mput p0.f3 t5 (p0.f4.length : Int))))) :: (n8, (.mem (.ar 1 ((p0.f4 ++ ([p1] : List (List Bool))).map e98)))) :: (q0_2, (.mem (.ar 1 (p0.f5.f1.map e35)))) :: (q0, (.mem (.st [(4, (e121 p0.f0)), (1, (.fz 1 (p0.f1.map eI64))), (1, (.fz 1 (p0.f2.map eU8))), (1, (.mp q0_0)), (1, (.own n8 0 (p0.f4 ++ ([p1] : List (List Bool))).length)), (258, (.st [(256, (.ar 1 (p0.f5.f0.toList.map eU8))), (1, (.own q0_2 0 p0.f5.f1.length)), (1, (.own q0_3 0 p0.f5.f2.length))]))]))) :: (q0_3, (.mem (.ar 1 (p0.f5.f2.map eI64)))) :: T0)) (by first | rfl | simp only [m10, m14, cond_true, cond_false]) ?_
       refine AO.wK [0] ?_
       refine AO.mv rfl rfl ?_
       exact AO.nE (d := 63) rfl ⟨⟨63, _, rfl, rfl, rfl⟩, Sub.of_eq (by first | rfl | simp only [m10, m14, cond_true, cond_false]) (Sub.refl _)⟩
      ·refine StepE.calm (fun _ _ => rfl) fun L σ hc hi hd => ?_
       refine AO.wK [1] ?_
       refine AO.mv rfl rfl ?_
       exact AO.nE (d := 64) rfl ⟨⟨64, _, rfl, rfl, rfl⟩, Sub.refl _⟩
      ·refine StepE.calm (fun _ _ => rfl) fun L σ hc hi hd => ?_
       have m10 : L 10 = false := hc.neg (i := 8) (j := 10) rfl (by rfl) hi
       have m14 : L 14 = false := hc.neg (i := 8) (j := 14) rfl (by rfl) hi
       refine AO.heq (H' := ((q0_0, (.map (encM Value.string eI64 (mput p0.f3 t5 (p0.f4.length : Int))))) :: (n8, (.mem (.ar 1 ((p0.f4 ++ ([p1] : List (List Bool))).map e98)))) :: (q0_2, (.mem (.ar 1 (p0.f5.f1.map e35)))) :: (q0, (.mem (.st [(4, (e121 p0.f0)), (1, (.fz 1 (p0.f1.map eI64))), (1, (.fz 1 (p0.f2.map eU8))), (1, (.mp q0_0)), (1, (.own n8 0 (p0.f4 ++ ([p1] : List (List Bool))).length)), (258, (.st [(256, (.ar 1 (p0.f5.f0.toList.map eU8))), (1, (.own q0_2 0 p0.f5.f1.length)), (1, (.own q0_3 0 p0.f5.f2.length))]))]))) :: (q0_3, (.mem (.ar 1 (p0.f5.f2.map eI64)))) :: T0)) (by first | rfl | simp only [m10, m14, cond_true, cond_false]) ?_
       refine AO.wK [63, 64] ?_
       refine AO.callH [(.ptr q0 0), (.fz 1 (p1.map eBool))] ((q0, (.mem (.st [(4, (e121 p0.f0)), (1, (.fz 1 (p0.f1.map eI64))), (1, (.fz 1 (p0.f2.map eU8))), (1, (.mp q0_0)), (1, (.own n8 0 (p0.f4 ++ ([p1] : List (List Bool))).length)), (258, (.st [(256, (.ar 1 (p0.f5.f0.toList.map eU8))), (1, (.own q0_2 0 p0.f5.f1.length)), (1, (.own q0_3 0 p0.f5.f2.length))]))]))) :: (q0_0, (.map (encM Value.string eI64 (mput p0.f3 t5 (p0.f4.length : Int))))) :: (n8, (.mem (.ar 1 ((p0.f4 ++ ([p1] : List (List Bool))).map e98)))) :: (q0_2, (.mem (.ar 1 (p0.f5.f1.map e35)))) :: (q0_3, (.mem (.ar 1 (p0.f5.f2.map eI64)))) :: T0) _ rfl rfl rfl 65 rfl (by decide) ok124 ⟨rfl, rfl, rfl, rfl, trivial⟩ (Sub.cons 3 rfl (Sub.cons 0 rfl (Sub.cons 0 rfl (Sub.cons 0 rfl (Sub.cons 0 rfl (Sub.refl _)))))) (F124_spec et10) ?_
       rintro _ _ ⟨rfl, hs11⟩
       refine AO.wH [63, 64, 65] hs11 ?_
       refine AO.wH [63, 64, 65] (H' := ((q0_0, (.map (encM Value.string eI64 (mput p0.f3 t5 (p0.f4.length : Int))))) :: (n8, (.mem (.ar 1 ((p0.f4 ++ ([p1] : List (List Bool))).map e98)))) :: (q0_2, (.mem (.ar 1 (p0.f5.f1.map e35)))) :: (q0, (.mem (.st [(4, (e121 p0.f0)), (1, (.fz 1 (p0.f1.map eI64))), (1, (.fz 1 (p0.f2.map eU8))), (1, (.mp q0_0)), (1, (.own n8 0 (p0.f4 ++ ([p1] : List (List Bool))).length)), (258, (.st [(256, (.ar 1 (p0.f5.f0.toList.map eU8))), (1, (.own q0_2 0 p0.f5.f1.length)), (1, (.own q0_3 0 p0.f5.f2.length))]))]))) :: (q0_3, (.mem (.ar 1 (p0.f5.f2.map eI64)))) :: T0)) (Sub.cons 1 rfl (Sub.cons 1 rfl (Sub.cons 1 rfl (Sub.cons 0 rfl (Sub.cons 0 rfl (Sub.refl _)))))) ?_
       exact AO.nE (d := 65) rfl ⟨⟨65, _, rfl, rfl, rfl⟩, Sub.of_eq (by first | rfl | simp only [m10, m14, cond_true, cond_false]) (Sub.refl _)⟩
      ·refine StepE.calm (fun _ _ => rfl) fun L σ hc hi hd => ?_
       refine AO.wK [65] ?_
       refine AO.lit (Z := (eI64 (0 : Int))) (xs := (([t10] : List Int).map eI64)) (qs := [(0, (eI64 t10))]) rfl 66 rfl (by decide) rfl ⟨rfl, rfl, rfl, trivial⟩ Try.underlying35 sz3 zr3 lay3 rfl (by decide) (litOK (z := 1) [(eI64 t10)] rfl ⟨⟨rfl, rfl⟩, trivial⟩) rfl fun n12 => ?_
       refine AO.freezeS 0 [(66, (.fz 1 (([t10] : List Int).map eI64)))] rfl ⟨fz_all rfl, trivial⟩ ?_
       exact AO.nE (d := 66) rfl ⟨⟨66, _, rfl, rfl, rfl⟩, Sub.refl _⟩
      ·intro L σ hc hi hd
       have m14 : L 14 = false := hc.neg (i := 10) (j := 14) rfl (by rfl) hi
       refine AO.heq (H' := ((q0_0, (.map (encM Value.string eI64 (mput p0.f3 t5 (p0.f4.length : Int))))) :: (n8, (.mem (.ar 1 ((p0.f4 ++ ([p1] : List (List Bool))).map e98)))) :: (q0_2, (.mem (.ar 1 (p0.f5.f1.map e35)))) :: (q0, (.mem (.st [(4, (e121 p0.f0)), (1, (.fz 1 (p0.f1.map eI64))), (1, (.fz 1 (p0.f2.map eU8))), (1, (.mp q0_0)), (1, (.own n8 0 (p0.f4 ++ ([p1] : List (List Bool))).length)), (258, (.st [(256, (.ar 1 (p0.f5.f0.toList.map eU8))), (1, (.own q0_2 0 p0.f5.f1.length)), (1, (.own q0_3 0 p0.f5.f2.length))]))]))) :: (q0_3, (.mem (.ar 1 (p0.f5.f2.map eI64)))) :: T0)) (by first | rfl | simp only [hi, m14, cond_true, cond_false]) ?_
       refine AO.wK [62, 66] ?_
       refine AO.appendL (l := p0.f5.f2) (m := ([t10] : List Int)) 4 67 rfl (by decide) rfl rfl rfl rfl rfl Src.fz Try.underlying35 Try.underlying35 sz3 by3 zr3 rfl hg14 (by decide) fun n13 => ?_
       have a10 : addL L 10 10 = true := rfl
       have a14 : addL L 10 14 = false := m14
       have u10 : upd σ 10 n13 10 = n13 := rfl
       exact AO.nE (d := 67) rfl ⟨(upd σ 10 n13), (fun j hj => match j, hj with | 0, _ => rfl | 1, _ => rfl | 2, _ => rfl | 3, _ => rfl | 4, _ => rfl | 5, _ => rfl | 6, _ => rfl | 7, _ => rfl | 8, _ => rfl | 9, _ => rfl | 10, hj => Bool.noConfusion (hj.symm.trans hi) | 11, _ => rfl | 12, _ => rfl | 13, _ => rfl | 14, _ => rfl | _ + 15, _ => rfl), (fun d' hd' => ⟨_, rfl, by cases hd'; rfl⟩), Sub.of_eq (B := ((q0_0, (.map (encM Value.string eI64 (mput p0.f3 t5 (p0.f4.length : Int))))) :: (n8, (.mem (.ar 1 ((p0.f4 ++ ([p1] : List (List Bool))).map e98)))) :: (q0_2, (.mem (.ar 1 (p0.f5.f1.map e35)))) :: (q0, (.mem (.st [(4, (e121 p0.f0)), (1, (.fz 1 (p0.f1.map eI64))), (1, (.fz 1 (p0.f2.map eU8))), (1, (.mp q0_0)), (1, (.own n8 0 (p0.f4 ++ ([p1] : List (List Bool))).length)), (258, (.st [(256, (.ar 1 (p0.f5.f0.toList.map eU8))), (1, (.own q0_2 0 p0.f5.f1.length)), (1, (.own q0_3 0 p0.f5.f2.length))]))]))) :: (n13, (.mem (.ar 1 ((p0.f5.f2 ++ ([t10] : List Int)).map eI64)))) :: T0)) (by simp only [a10, a14, u10, cond_true, cond_false]) (Sub.refl _)⟩
      ·refine StepE.calm (fun _ _ => rfl) fun L σ hc hi hd => ?_
       have y10 : L 10 = true := on_get hd (i := 10) (by rfl)
       have m12 : L 12 = false := hc.neg (i := 11) (j := 12) rfl (by rfl) hi
       have m13 : L 13 = false := hc.neg (i := 12) (j := 13) rfl (by rfl) m12
       have m14 : L 14 = false := hc.neg (i := 13) (j := 14) rfl (by rfl) m13
       refine AO.heq (H' := ((q0_0, (.map (encM Value.string eI64 (mput p0.f3 t5 (p0.f4.length : Int))))) :: (n8, (.mem (.ar 1 ((p0.f4 ++ ([p1] : List (List Bool))).map e98)))) :: (q0_2, (.mem (.ar 1 (p0.f5.f1.map e35)))) :: (q0, (.mem (.st [(4, (e121 p0.f0)), (1, (.fz 1 (p0.f1.map eI64))), (1, (.fz 1 (p0.f2.map eU8))), (1, (.mp q0_0)), (1, (.own n8 0 (p0.f4 ++ ([p1] : List (List Bool))).length)), (258, (.st [(256, (.ar 1 (p0.f5.f0.toList.map eU8))), (1, (.own q0_2 0 p0.f5.f1.length)), (1, (.own q0_3 0 p0.f5.f2.length))]))]))) :: ((σ 10), (.mem (.ar 1 ((p0.f5.f2 ++ ([t10] : List Int)).map eI64)))) :: T0)) (by first | rfl | simp only [y10, m14, cond_true, cond_false]) ?_
       refine AO.wK [57] ?_
       refine AO.c (Calm.nilCheck rfl rfl) ?_
       exact AO.nE (d := 68) rfl ⟨⟨68, _, rfl, rfl, rfl⟩, Sub.of_eq (by first | rfl | simp only [y10, m14, cond_true, cond_false]) (Sub.refl _)⟩
      ·refine StepE.calm (fun _ _ => rfl) fun L σ hc hi hd => ?_
       have y10 : L 10 = true := on_get hd (i := 10) (by rfl)
       have m13 : L 13 = false := hc.neg (i := 12) (j := 13) rfl (by rfl) hi
       have m14 : L 14 = false := hc.neg (i := 13) (j := 14) rfl (by rfl) m13
       refine AO.heq (H' := ((q0_0, (.map (encM Value.string eI64 (mput p0.f3 t5 (p0.f4.length : Int))))) :: (n8, (.mem (.ar 1 ((p0.f4 ++ ([p1] : List (List Bool))).map e98)))) :: (q0_2, (.mem (.ar 1 (p0.f5.f1.map e35)))) :: (q0, (.mem (.st [(4, (e121 p0.f0)), (1, (.fz 1 (p0.f1.map eI64))), (1, (.fz 1 (p0.f2.map eU8))), (1, (.mp q0_0)), (1, (.own n8 0 (p0.f4 ++ ([p1] : List (List Bool))).length)), (258, (.st [(256, (.ar 1 (p0.f5.f0.toList.map eU8))), (1, (.own q0_2 0 p0.f5.f1.length)), (1, (.own q0_3 0 p0.f5.f2.length))]))]))) :: ((σ 10), (.mem (.ar 1 ((p0.f5.f2 ++ ([t10] : List Int)).map eI64)))) :: T0)) (by first | rfl | simp only [y10, m14, cond_true, cond_false]) ?_
       refine AO.wK [68] ?_
       refine AO.c (x := .ptr q0 8) (Calm.fldPtr rfl rfl Try.underlying156 rfl sz55 _ rfl) ?_
       exact AO.nE (d := 69) rfl ⟨⟨69, _, rfl, rfl, rfl⟩, Sub.of_eq (by first | rfl | simp only [y10, m14, cond_true, cond_false]) (Sub.refl _)⟩
      ·refine StepE.calm (fun _ _ => rfl) fun L σ hc hi hd => ?_
       have y10 : L 10 = true := on_get hd (i := 10) (by rfl)
       have m14 : L 14 = false := hc.neg (i := 13) (j := 14) rfl (by rfl) hi
       refine AO.heq (H' := ((q0_0, (.map (encM Value.string eI64 (mput p0.f3 t5 (p0.f4.length : Int))))) :: (n8, (.mem (.ar 1 ((p0.f4 ++ ([p1] : List (List Bool))).map e98)))) :: (q0_2, (.mem (.ar 1 (p0.f5.f1.map e35)))) :: (q0, (.mem (.st [(4, (e121 p0.f0)), (1, (.fz 1 (p0.f1.map eI64))), (1, (.fz 1 (p0.f2.map eU8))), (1, (.mp q0_0)), (1, (.own n8 0 (p0.f4 ++ ([p1] : List (List Bool))).length)), (258, (.st [(256, (.ar 1 (p0.f5.f0.toList.map eU8))), (1, (.own q0_2 0 p0.f5.f1.length)), (1, (.own q0_3 0 p0.f5.f2.length))]))]))) :: ((σ 10), (.mem (.ar 1 ((p0.f5.f2 ++ ([t10] : List Int)).map eI64)))) :: T0)) (by first | rfl | simp only [y10, m14, cond_true, cond_false]) ?_
       refine AO.wK [69] ?_
       refine AO.c (x := .ptr q0 265) (Calm.fldPtr rfl rfl Try.underlying55 rfl sz35 _ rfl) ?_
       exact AO.nE (d := 70) rfl ⟨⟨70, _, rfl, rfl, rfl⟩, Sub.of_eq (by first | rfl | simp only [y10, m14, cond_true, cond_false]) (Sub.refl _)⟩
      ·intro L σ hc hi hd
       have y10 : L 10 = true := on_get hd (i := 10) (by rfl)
       refine AO.heq (H' := ((q0_0, (.map (encM Value.string eI64 (mput p0.f3 t5 (p0.f4.length : Int))))) :: (n8, (.mem (.ar 1 ((p0.f4 ++ ([p1] : List (List Bool))).map e98)))) :: (q0_2, (.mem (.ar 1 (p0.f5.f1.map e35)))) :: (q0, (.mem (.st [(4, (e121 p0.f0)), (1, (.fz 1 (p0.f1.map eI64))), (1, (.fz 1 (p0.f2.map eU8))), (1, (.mp q0_0)), (1, (.own n8 0 (p0.f4 ++ ([p1] : List (List Bool))).length)), (258, (.st [(256, (.ar 1 (p0.f5.f0.toList.map eU8))), (1, (.own q0_2 0 p0.f5.f1.length)), (1, (.own q0_3 0 p0.f5.f2.length))]))]))) :: ((σ 10), (.mem (.ar 1 ((p0.f5.f2 ++ ([t10] : List Int)).map eI64)))) :: T0)) (by first | rfl | simp only [hi, y10, cond_true, cond_false]) ?_
       refine AO.wK [67, 70] ?_
       refine AO.store (X' := (.st [(4, (e121 p0.f0)), (1, (.fz 1 (p0.f1.map eI64))), (1, (.fz 1 (p0.f2.map eU8))), (1, (.mp q0_0)), (1, (.own n8 0 (p0.f4 ++ ([p1] : List (List Bool))).length)), (258, (.st [(256, (.ar 1 (p0.f5.f0.toList.map eU8))), (1, (.own q0_2 0 p0.f5.f1.length)), (1, (.own (σ 10) 0 (p0.f5.f2 ++ ([t10] : List Int)).length))]))])) 3 rfl rfl rfl rfl rfl rfl (Put.cast (Put.fldS (Put.fldS (Put.fldS (Put.fldS (Put.fldS (Put.fld0 (Put.fldS (Put.fldS (Put.fld0 Put.here))))))))) rfl) rfl rfl sz35 rfl ?_
       have a10 : addL L 14 10 = true := y10
       have a14 : addL L 14 14 = true := rfl
       exact AO.n0 ⟨σ, (fun _ _ => rfl), (fun d' hd' => by cases hd'), Sub.of_eq (B := ((q0_0, (.map (encM Value.string eI64 (mput p0.f3 t5 (p0.f4.length : Int))))) :: (n8, (.mem (.ar 1 ((p0.f4 ++ ([p1] : List (List Bool))).map e98)))) :: (q0_2, (.mem (.ar 1 (p0.f5.f1.map e35)))) :: (q0, (.mem (.st [(4, (e121 p0.f0)), (1, (.fz 1 (p0.f1.map eI64))), (1, (.fz 1 (p0.f2.map eU8))), (1, (.mp q0_0)), (1, (.own n8 0 (p0.f4 ++ ([p1] : List (List Bool))).length)), (258, (.st [(256, (.ar 1 (p0.f5.f0.toList.map eU8))), (1, (.own q0_2 0 p0.f5.f1.length)), (1, (.own (σ 10) 0 (p0.f5.f2 ++ ([t10] : List Int)).length))]))]))) :: ((σ 10), (.mem (.ar 1 ((p0.f5.f2 ++ ([t10] : List Int)).map eI64)))) :: T0)) (by simp only [a10, a14, cond_true, cond_false]) (Sub.refl _)⟩
      ·generalize σ 10 = n13
       refine AO.nH [0] (H' := ((q0, (.mem (.st [(4, (e121 p0.f0)), (1, (.fz 1 (p0.f1.map eI64))), (1, (.fz 1 (p0.f2.map eU8))), (1, (.mp q0_0)), (1, (.own n8 0 (p0.f4 ++ ([p1] : List (List Bool))).length)), (258, (.st [(256, (.ar 1 (p0.f5.f0.toList.map eU8))), (1, (.own q0_2 0 p0.f5.f1.length)), (1, (.own n13 0 (p0.f5.f2 ++ ([t10] : List Int)).length))]))]))) :: (q0_0, (.map (encM Value.string eI64 (mput p0.f3 t5 (p0.f4.length : Int))))) :: (n8, (.mem (.ar 1 ((p0.f4 ++ ([p1] : List (List Bool))).map e98)))) :: (q0_2, (.mem (.ar 1 (p0.f5.f1.map e35)))) :: (n13, (.mem (.ar 1 ((p0.f5.f2 ++ ([t10] : List Int)).map eI64)))) :: T0)) (Sub.cons 3 rfl (Sub.cons 0 rfl (Sub.cons 0 rfl (Sub.cons 0 rfl (Sub.cons 0 rfl (Sub.refl _)))))) ?_
       refine AW.sr ?_
       refine AO.mv rfl rfl ?_
       refine AO.c (Calm.nilCheck rfl rfl) ?_
       refine AO.c (x := .ptr q0 7) (Calm.fldPtr rfl rfl Try.underlying156 rfl sz107 _ rfl) ?_
       refine AO.c (Calm.load 0 rfl rfl rfl (At.cast (At.fldS (At.fldS (At.fldS (At.fldS (At.fld0 At.here))))) rfl) ag107 sz107) ?_
       refine AO.c (Calm.lenOwn rfl rfl Try.underlying107) ?_
       refine AO.c (x := eI64 (w64 (((p0.f4 ++ ([p1] : List (List Bool))).length : Int) - (1 : Int)))) (Calm.int rfl rfl rfl rfl) ?_
       obtain ⟨x15, ex15, h⟩ := of_bind h
       refine AO.c (Calm.assign rfl (congrArg (fun x => some (eI64 x)) (Option.some.inj ex15))) ?_
       refine AO.nK [4] ?_
       refine AW.rK [4] ?_
       have hr := Option.some.inj h
       subst hr
       exact ⟨[(eI64 x15)], ⟨rfl, rfl, trivial⟩, q0_0, n8, q0_2, n13, rfl, (Sub.cons 0 rfl (Sub.cons 0 rfl (Sub.cons 0 rfl (Sub.cons 0 rfl (Sub.cons 0 rfl (Sub.refl _))))))⟩
end Go.Avl.T7
/- bosket/nfa.Move; printed by avmain.py. -/
namespace Go.Avl.T7
open Go Go.RowKit Go.Proofs Go.Avl
set_option linter.unusedVariables false
set_option maxRecDepth 100000
set_option maxHeartbeats 4000000
attribute [local irreducible] AW AO AQ Spec SpecH Calm

def F100_c0 (k : Nat) (x7 : (List Bool)) : Option (List Bool) :=
  some (x7)
def F100_c1 (k : Nat) (rec10 : ((List Bool) → Int → Option (List Bool))) (x9 : Int) (x13 : (List Bool)) : Option (List Bool) :=
  rec10 x13 (w64 (x9 + (1 : Int)))
def F100_l2 (k : Nat) (p0 : S121) (p1 : (List Bool)) (p2 : Int) : Nat → (List Bool) → Int → Option (List Bool)
  | 0, _, _ => none
  | j + 1, x8, x9 =>
    if x9 < (p0.f1.length : Int) then if 0 ≤ x9 ∧ x9 < (p0.f1.length : Int) then Option.bind (α := Bool) (if (!((lget p0.f1 x9).f3)) = true then if ((lget p0.f1 x9).f0) < (p1.length : Int) then if 0 ≤ ((lget p0.f1 x9).f0) ∧ ((lget p0.f1 x9).f0) < (p1.length : Int) then if (lget p1 ((lget p0.f1 x9).f0)) = true then (F125 k ((lget p0.f1 x9).f2) p2).bind fun t22 =>
    some (t22)
    else some (false)
    else none
    else some (false)
    else some (false)) fun b16 =>
    if b16 = true then if 0 ≤ ((lget p0.f1 x9).f1) ∧ ((lget p0.f1 x9).f1) < (x8.length : Int) then F100_c1 k (F100_l2 k p0 p1 p2 j) x9 (lset x8 ((lget p0.f1 x9).f1) true)
    else none
    else F100_c1 k (F100_l2 k p0 p1 p2 j) x9 x8
    else none
    else F100_c0 k x8
def F100 (k : Nat) (p0 : S121) (p1 : (List Bool)) (p2 : Int) : Option (List Bool) :=
  if 0 ≤ p0.f0 ∧ p0.f0 * (1 : Int) ≤ 140737488355328 ∧ p0.f0 ≤ 9223372036854775807 then F100_l2 k p0 p1 p2 k (List.replicate p0.f0.toNat false) (0 : Int)
  else none
theorem F100_spec {k : Nat} {p0 : S121} {p1 : (List Bool)} {p2 : Int} {r : (List Bool)} (h : F100 k p0 p1 p2 = some r) : Spec Try.prog 100 [(e121 p0), (.fz 1 (p1.map eBool)), (eU8 p2)] (e98 r) := by
  rw [F100.eq_1] at h
  refine Spec.intro (res := [.tmp 6]) Try.func100 rfl rfl rfl (Nat.le_of_ble_eq_true rfl) ?_
  refine AW.sr ?_
  refine AO.box rfl 3 rfl (by decide) rfl rfl rfl fun n4 => ?_
  refine AO.ag rfl rfl ?_
  refine AO.nK [1, 2, 3] ?_
  refine AW.sr ?_
  refine AO.c (x := .ptr n4 0) (Calm.fldPtr rfl rfl Try.underlying121 rfl sz3 _ rfl) ?_
  refine AO.c (Calm.load 0 rfl rfl rfl (At.cast (At.fld0 At.here) rfl) ag3 sz3) ?_
  obtain ⟨hg6, h⟩ := of_guard h
  refine AO.makeL (f := eBool) false rfl 12 rfl (by decide) rfl rfl rfl Try.underlying98 sz4 by4 zr4 lay4 rfl hg6 fun n5 => ?_
  refine AO.ag rfl rfl ?_
  refine AO.nH [1, 2, 3, 7] (H' := [(n4, (.mem (e121 p0))), (n5, (.mem (.ar 1 ((List.replicate p0.f0.toNat false).map eBool))))]) (Sub.cons 1 rfl (Sub.cons 0 rfl (Sub.nil _))) ?_
  refine AW.seq_mid (fun ρ H => ∃ (x7 : (List Bool)), ρ = [(7, (.own n5 0 x7.length))] ∧ H = [(n5, (.mem (.ar 1 (x7.map eBool))))] ∧ F100_c0 k x7 = some r) ?_ ?_
  ·refine AW.sr ?_
   refine AO.c (x := .ptr n4 1) (Calm.fldPtr rfl rfl Try.underlying121 rfl sz119 _ rfl) ?_
   refine AO.c (Calm.load 0 rfl rfl rfl (At.cast (At.fldS (At.fld0 At.here)) rfl) ag119 sz119) ?_
   refine AO.c (Calm.lenL rfl rfl Try.underlying119) ?_
   refine AO.mv rfl rfl ?_
   refine AO.nH [1, 2, 7, 14, 15, 16] (H' := [(n5, (.mem (.ar 1 ((List.replicate p0.f0.toNat false).map eBool))))]) (Sub.cons 1 rfl (Sub.nil _)) ?_
   refine AW.block ?_
   refine AW.wK [1, 2, 7, 14, 15, 16] ?_
   refine AW.loop (fun kq ρ H => ∃ (x8 : (List Bool)) (x9 : Int), ρ = [(1, (.fz 1 (p1.map eBool))), (2, (eU8 p2)), (7, (.own n5 0 x8.length)), (14, (.fz 7 (p0.f1.map e152))), (15, (eI64 (p0.f1.length : Int))), (16, (eI64 x9))] ∧ H = [(n5, (.mem (.ar 1 (x8.map eBool))))] ∧ F100_l2 k p0 p1 p2 kq x8 x9 = some r) k ⟨(List.replicate p0.f0.toNat false), (0 : Int), rfl, rfl, h⟩ ?_
   rintro kq11 _ _ ⟨x8, x9, rfl, rfl, h⟩
   cases kq11 with
   | zero => rw [F100_l2.eq_1] at h; cases h
   | succ kq11 =>
   rw [F100_l2.eq_2] at h
   generalize hrec10 : F100_l2 k p0 p1 p2 kq11 = rec10 at h
   refine AW.sr ?_
   refine AO.c (x := eBool (decide (x9 < (p0.f1.length : Int)))) (Calm.int rfl rfl rfl rfl) ?_
   refine AO.nK [1, 2, 7, 14, 15, 16, 17] ?_
   refine AW.seq ?_
   rcases of_ite h with ⟨hc12, h⟩ | ⟨hc12, h⟩
   ·refine AW.condP _ rfl hc12 ?_
    refine AW.sK [1, 2, 7, 14, 15, 16] ?_
    refine AW.seq_mid (fun ρ H => ∃ (x13 : (List Bool)), ρ = [(1, (.fz 1 (p1.map eBool))), (2, (eU8 p2)), (7, (.own n5 0 x13.length)), (14, (.fz 7 (p0.f1.map e152))), (15, (eI64 (p0.f1.length : Int))), (16, (eI64 x9))] ∧ H = [(n5, (.mem (.ar 1 (x13.map eBool))))] ∧ F100_c1 k rec10 x9 x13 = some r) ?_ ?_
    ·refine AW.block ?_
     refine AW.sr ?_
     obtain ⟨hg14, h⟩ := of_guard h
     refine AO.c (Calm.idxL (f := e152) rfl rfl rfl hg14 Try.underlying119 sz152) ?_
     refine AO.c (Calm.loadRp rfl rfl ag152 sz152) ?_
     refine AO.alloc rfl 9 rfl (by decide) rfl zr152 lay152 fun n15 => ?_
     refine AO.store (X' := (e152 (lget p0.f1 x9))) 0 rfl rfl rfl rfl rfl rfl (Put.cast Put.here rfl) rfl rfl sz152 rfl ?_
     refine AO.nH [1, 2, 7, 9, 14, 15, 16] (H' := [(n5, (.mem (.ar 1 (x8.map eBool)))), (n15, (.mem (e152 (lget p0.f1 x9))))]) (Sub.cons 1 rfl (Sub.cons 0 rfl (Sub.nil _))) ?_
     refine AW.seq ?_
     obtain ⟨b16, hq17, h⟩ := of_bind h
     refine AW.regM [(1, (.fz 1 (p1.map eBool))), (2, (eU8 p2)), (7, (.own n5 0 x8.length)), (9, (.ptr n15 0)), (14, (.fz 7 (p0.f1.map e152))), (15, (eI64 (p0.f1.length : Int))), (16, (eI64 x9)), (42, (eBool b16))] [(n5, (.mem (.ar 1 (x8.map eBool)))), (n15, (.mem (e152 (lget p0.f1 x9))))] ?_ ?_
     ·refine AO.c (x := .ptr n15 6) (Calm.fldPtr rfl rfl Try.underlying152 rfl sz4 _ rfl) ?_
      refine AO.c (Calm.load 1 rfl rfl rfl (At.cast (At.fldS (At.fldS (At.fldS (At.fld0 At.here)))) rfl) ag4 sz4) ?_
      refine AO.c (Calm.not rfl rfl) ?_
      refine AO.mv rfl rfl ?_
      rcases of_ite hq17 with ⟨hc18, hq17⟩ | ⟨hc18, hq17⟩
      ·refine AO.cG (x := .ptr n15 0) rfl rfl (bD hc18) (Calm.fldPtr rfl rfl Try.underlying152 rfl sz3 _ rfl) ?_
       refine AO.cG rfl rfl (bD hc18) (Calm.load 1 rfl rfl rfl (At.cast (At.fld0 At.here) rfl) ag3 sz3) ?_
       refine AO.cG rfl rfl (bD hc18) (Calm.move rfl rfl) ?_
       refine AO.cG rfl rfl (bD hc18) (Calm.lenL rfl rfl Try.underlying98) ?_
       refine AO.cG (x := eBool (decide (((lget p0.f1 x9).f0) < (p1.length : Int)))) rfl rfl (bD hc18) (Calm.int rfl rfl rfl rfl) ?_
       refine AO.c (Calm.pickT rfl (bD hc18) rfl) ?_
       refine AO.mv rfl rfl ?_
       rcases of_ite hq17 with ⟨hc19, hq17⟩ | ⟨hc19, hq17⟩
       ·refine AO.cG rfl rfl (bD (decide_eq_true hc19)) (Calm.move rfl rfl) ?_
        refine AO.cG (x := .ptr n15 0) rfl rfl (bD (decide_eq_true hc19)) (Calm.fldPtr rfl rfl Try.underlying152 rfl sz3 _ rfl) ?_
        refine AO.cG rfl rfl (bD (decide_eq_true hc19)) (Calm.load 1 rfl rfl rfl (At.cast (At.fld0 At.here) rfl) ag3 sz3) ?_
        obtain ⟨hg20, hq17⟩ := of_guard hq17
        refine AO.cG rfl rfl (bD (decide_eq_true hc19)) (Calm.idxL (f := eBool) rfl rfl rfl hg20 Try.underlying98 sz4) ?_
        refine AO.cG rfl rfl (bD (decide_eq_true hc19)) (Calm.loadRp rfl rfl ag4 sz4) ?_
        refine AO.c (Calm.pickT rfl (bD (decide_eq_true hc19)) rfl) ?_
        refine AO.mv rfl rfl ?_
        rcases of_ite hq17 with ⟨hc21, hq17⟩ | ⟨hc21, hq17⟩
        ·refine AO.cG (x := .ptr n15 2) rfl rfl (bD hc21) (Calm.fldPtr rfl rfl Try.underlying152 rfl sz62 _ rfl) ?_
         refine AO.cG rfl rfl (bD hc21) (Calm.load 1 rfl rfl rfl (At.cast (At.fldS (At.fldS (At.fld0 At.here))) rfl) ag62 (by rw [sz62]; simp [AV.size])) ?_
         refine AO.cG rfl rfl (bD hc21) (Calm.move rfl rfl) ?_
         obtain ⟨t22, et22, hq17⟩ := of_bind hq17
         refine AO.callG 17 true 37 [(.ar 1 (((lget p0.f1 x9).f2).toList.map eU64)), (eU8 p2)] (eBool t22) 41 rfl (by decide) ok125 rfl rfl (bD hc21) rfl rfl ⟨rfl, rfl, rfl, rfl, trivial⟩ (F125_spec et22) ?_
         refine AO.c (Calm.pickT rfl (bD hc21) rfl) ?_
         cases hq17
         refine AO.nilE ⟨rfl, rfl⟩ ?_ ?_
         · exact ⟨rfl, rfl, rfl, rfl, rfl, rfl, rfl, rfl, trivial⟩
         · exact (Sub.refl _)
        ·refine AO.sT rfl rfl (bD (eq_false_of_ne_true hc21)) ?_
         refine AO.sT rfl rfl (bD (eq_false_of_ne_true hc21)) ?_
         refine AO.sT rfl rfl (bD (eq_false_of_ne_true hc21)) ?_
         refine AO.sT rfl rfl (bD (eq_false_of_ne_true hc21)) ?_
         refine AO.c (Calm.pickF rfl (bD (eq_false_of_ne_true hc21)) rfl) ?_
         cases hq17
         refine AO.nilE ⟨rfl, rfl⟩ ?_ ?_
         · exact ⟨rfl, rfl, rfl, rfl, rfl, rfl, rfl, rfl, trivial⟩
         · exact (Sub.refl _)
       ·refine AO.sT rfl rfl (bD (decide_eq_false hc19)) ?_
        refine AO.sT rfl rfl (bD (decide_eq_false hc19)) ?_
        refine AO.sT rfl rfl (bD (decide_eq_false hc19)) ?_
        refine AO.sT rfl rfl (bD (decide_eq_false hc19)) ?_
        refine AO.sT rfl rfl (bD (decide_eq_false hc19)) ?_
        refine AO.c (Calm.pickF rfl (bD (decide_eq_false hc19)) rfl) ?_
        refine AO.mv rfl rfl ?_
        refine AO.sT rfl rfl rfl ?_
        refine AO.sT rfl rfl rfl ?_
        refine AO.sT rfl rfl rfl ?_
        refine AO.sT rfl rfl rfl ?_
        refine AO.c (Calm.pickF rfl rfl rfl) ?_
        cases hq17
        refine AO.nilE ⟨rfl, rfl⟩ ?_ ?_
        · exact ⟨rfl, rfl, rfl, rfl, rfl, rfl, rfl, rfl, trivial⟩
        · exact (Sub.refl _)
      ·refine AO.sT rfl rfl (bD (eq_false_of_ne_true hc18)) ?_
       refine AO.sT rfl rfl (bD (eq_false_of_ne_true hc18)) ?_
       refine AO.sT rfl rfl (bD (eq_false_of_ne_true hc18)) ?_
       refine AO.sT rfl rfl (bD (eq_false_of_ne_true hc18)) ?_
       refine AO.sT rfl rfl (bD (eq_false_of_ne_true hc18)) ?_
       refine AO.c (Calm.pickF rfl (bD (eq_false_of_ne_true hc18)) rfl) ?_
       refine AO.mv rfl rfl ?_
       refine AO.sT rfl rfl rfl ?_
       refine AO.sT rfl rfl rfl ?_
       refine AO.sT rfl rfl rfl ?_
       refine AO.sT rfl rfl rfl ?_
       refine AO.sT rfl rfl rfl ?_
       refine AO.c (Calm.pickF rfl rfl rfl) ?_
       refine AO.mv rfl rfl ?_
       refine AO.sT rfl rfl rfl ?_
       refine AO.sT rfl rfl rfl ?_
       refine AO.sT rfl rfl rfl ?_
       refine AO.sT rfl rfl rfl ?_
       refine AO.c (Calm.pickF rfl rfl rfl) ?_
       cases hq17
       refine AO.nilE ⟨rfl, rfl⟩ ?_ ?_
       · exact ⟨rfl, rfl, rfl, rfl, rfl, rfl, rfl, rfl, trivial⟩
       · exact (Sub.refl _)
     ·rcases of_ite h with ⟨hc23, h⟩ | ⟨hc23, h⟩
      ·refine AW.condT' _ rfl hc23 ?_
       refine AW.reg ?_
       refine AO.mv rfl rfl ?_
       refine AO.c (x := .ptr n15 1) (Calm.fldPtr rfl rfl Try.underlying152 rfl sz3 _ rfl) ?_
       refine AO.c (Calm.load 1 rfl rfl rfl (At.cast (At.fldS (At.fld0 At.here)) rfl) ag3 sz3) ?_
       obtain ⟨hg24, h⟩ := of_guard h
       refine AO.c (Calm.idxO 0 rfl rfl rfl rfl hg24 Try.underlying98 sz4) ?_
       refine AO.store (X' := (.ar 1 ((lset x8 ((lget p0.f1 x9).f1) true).map eBool))) 0 rfl rfl rfl rfl rfl rfl (Put.cast (Put.lidx ((lget p0.f1 x9).f1) true hg24.1 hg24.2 Put.here) (by omega)) rfl rfl sz4 rfl ?_
       refine AO.coe 7 (y' := (.own n5 0 (lset x8 ((lget p0.f1 x9).f1) true).length)) rfl (fun _ _ h => lset_own h) ?_
       refine AO.coe 43 (y' := (.own n5 0 (lset x8 ((lget p0.f1 x9).f1) true).length)) rfl (fun _ _ h => lset_own h) ?_
       refine AO.nH [1, 2, 7, 14, 15, 16] (H' := [(n5, (.mem (.ar 1 ((lset x8 ((lget p0.f1 x9).f1) true).map eBool))))]) (Sub.cons 0 rfl (Sub.nil _)) ?_
       exact ⟨(lset x8 ((lget p0.f1 x9).f1) true), rfl, rfl, h⟩
      ·refine AW.condF' _ rfl hc23 ?_
       refine AW.sH [1, 2, 7, 14, 15, 16] (H' := [(n5, (.mem (.ar 1 (x8.map eBool))))]) (Sub.cons 0 rfl (Sub.nil _)) ?_
       exact ⟨x8, rfl, rfl, h⟩
    ·rintro _ _ ⟨x13, rfl, rfl, h⟩
     rw [F100_c1.eq_1] at h
     refine AW.reg ?_
     refine AO.c (x := eI64 (w64 (x9 + (1 : Int)))) (Calm.int rfl rfl rfl rfl) ?_
     refine AO.mv rfl rfl ?_
     refine AO.nK [1, 2, 7, 14, 15, 16] ?_
     exact ⟨kq11, Nat.lt_succ_self _, x13, (w64 (x9 + (1 : Int))), rfl, rfl, by rw [hrec10]; exact h⟩
   ·refine AW.condN _ rfl hc12 ?_
    refine AW.eK [7] ?_
    exact ⟨x8, rfl, rfl, h⟩
  ·rintro _ _ ⟨x7, rfl, rfl, h⟩
   rw [F100_c0.eq_1] at h
   refine AW.sr ?_
   refine AO.mv rfl rfl ?_
   refine AO.ag rfl rfl ?_
   refine AO.nK [6] ?_
   refine AW.freezeS 0 [(6, (.fz 1 (x7.map eBool)))] rfl ⟨fz_all rfl, trivial⟩ ?_
   refine AW.rK [6] ?_
   have hr := Option.some.inj h
   subst hr
   exact ⟨[(.fz 1 (x7.map eBool))], ⟨rfl, rfl, trivial⟩, rfl⟩
end Go.Avl.T7
