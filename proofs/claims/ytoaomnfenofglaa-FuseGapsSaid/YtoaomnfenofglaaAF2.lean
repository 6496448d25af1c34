/- Parts: T5f31, T5f61, T5f62, T5f27, T5f28, T5f26, T5f29, T5f57, T5f101, T5f83, T5f92. -/
import Derived.Test.YtoaomnfenofglaaAF1
/- bosket/fuse.Join; printed by avmain.py. -/
namespace Go.Avl.T5
open Go Go.RowKit Go.Proofs Go.Avl
set_option linter.unusedVariables false
set_option maxRecDepth 100000
set_option maxHeartbeats 4000000
attribute [local irreducible] AW AO AQ Spec SpecH Calm

def fuse_Join_c0 (k : Nat) (x4 : (List Int)) : Option ByteArray :=
  some ((strOfNums x4))
def fuse_Join_c1 (k : Nat) (rec8 : ((List Int) → Int → Option ByteArray)) (x7 : Int) (x12 : (List Int)) : Option ByteArray :=
  rec8 x12 (w64 (x7 + (1 : Int)))
def fuse_Join_l2 (k : Nat) (p0 : (List ByteArray)) (p1 : (List Bool)) : Nat → (List Int) → Int → Option ByteArray
  | 0, _, _ => none
  | j + 1, x6, x7 =>
    if x7 < (p0.length : Int) then if 0 ≤ x7 ∧ x7 < (p0.length : Int) then if (x6 ++ (lget p0 x7).data.toList.map fun b => (b.toNat : Int)).length * 1 ≤ 140737488355328 then Option.bind (α := Bool) (if x7 < (p1.length : Int) then if 0 ≤ x7 ∧ x7 < (p1.length : Int) then if (lget p1 x7) = true then some (decide (x7 < (w64 ((p0.length : Int) - (1 : Int)))))
    else some (false)
    else none
    else some (false)) fun b16 =>
    if b16 = true then if ((x6 ++ (lget p0 x7).data.toList.map fun b => (b.toNat : Int)) ++ ([(32 : Int)] : List Int)).length * 1 ≤ 140737488355328 then fuse_Join_c1 k (fuse_Join_l2 k p0 p1 j) x7 ((x6 ++ (lget p0 x7).data.toList.map fun b => (b.toNat : Int)) ++ ([(32 : Int)] : List Int))
    else none
    else fuse_Join_c1 k (fuse_Join_l2 k p0 p1 j) x7 (x6 ++ (lget p0 x7).data.toList.map fun b => (b.toNat : Int))
    else none
    else none
    else fuse_Join_c0 k x6
def fuse_Join (k : Nat) (p0 : (List ByteArray)) (p1 : (List Bool)) : Option ByteArray :=
  fuse_Join_l2 k p0 p1 k ([] : List Int) (0 : Int)
theorem fuse_Join_spec {k : Nat} {p0 : (List ByteArray)} {p1 : (List Bool)} {r : ByteArray} (h : fuse_Join k p0 p1 = some r) : Spec Try.prog 31 [(.fz 1 (p0.map eStr)), (.fz 1 (p1.map eBool))] (eStr r) := by
  rw [fuse_Join.eq_1] at h
  refine Spec.intro (res := [.tmp 4]) Try.func31 rfl rfl rfl (Nat.le_of_ble_eq_true rfl) ?_
  refine AW.sr ?_
  refine AO.c (Calm.assign rfl rfl) ?_
  refine AO.nK [0, 1] ?_
  refine AW.sr ?_
  refine AO.c (Calm.assign rfl rfl) ?_
  refine AO.nK [0, 1, 5] ?_
  refine AW.seq_mid (fun ρ H => ∃ (n3 : Nat) (x4 : (List Int)), ρ = [(5, (.own n3 0 x4.length))] ∧ H = [(n3, (.mem (.ar 1 (x4.map eU8))))] ∧ fuse_Join_c0 k x4 = some r) ?_ ?_
  ·refine AW.sr ?_
   refine AO.c (Calm.move rfl rfl) ?_
   refine AO.c (Calm.lenL rfl rfl Try.underlying53) ?_
   refine AO.c (Calm.move rfl rfl) ?_
   refine AO.nK [0, 1, 5, 8, 9, 10] ?_
   refine AW.block ?_
   refine AW.nilOwn 5 1 rfl fun n25 => ?_
   refine AW.wK [0, 1, 5, 8, 9, 10] ?_
   refine AW.loop (fun kq ρ H => ∃ (n5 : Nat) (x6 : (List Int)) (x7 : Int), ρ = [(0, (.fz 1 (p0.map eStr))), (1, (.fz 1 (p1.map eBool))), (5, (.own n5 0 x6.length)), (8, (.fz 1 (p0.map eStr))), (9, (eI64 (p0.length : Int))), (10, (eI64 x7))] ∧ H = [(n5, (.mem (.ar 1 (x6.map eU8))))] ∧ fuse_Join_l2 k p0 p1 kq x6 x7 = some r) k ⟨n25, ([] : List Int), (0 : Int), rfl, rfl, h⟩ ?_
   rintro kq9 _ _ ⟨n5, x6, x7, rfl, rfl, h⟩
   cases kq9 with
   | zero => rw [fuse_Join_l2.eq_1] at h; cases h
   | succ kq9 =>
   rw [fuse_Join_l2.eq_2] at h
   generalize hrec8 : fuse_Join_l2 k p0 p1 kq9 = rec8 at h
   refine AW.sr ?_
   refine AO.c (x := eBool (decide (x7 < (p0.length : Int)))) (Calm.int rfl rfl rfl rfl) ?_
   refine AO.nK [0, 1, 5, 8, 9, 10, 11] ?_
   refine AW.seq ?_
   rcases of_ite h with ⟨hc10, h⟩ | ⟨hc10, h⟩
   ·refine AW.condP _ rfl hc10 ?_
    refine AW.sK [0, 1, 5, 8, 9, 10] ?_
    refine AW.seq_mid (fun ρ H => ∃ (n11 : Nat) (x12 : (List Int)), ρ = [(0, (.fz 1 (p0.map eStr))), (1, (.fz 1 (p1.map eBool))), (5, (.own n11 0 x12.length)), (8, (.fz 1 (p0.map eStr))), (9, (eI64 (p0.length : Int))), (10, (eI64 x7))] ∧ H = [(n11, (.mem (.ar 1 (x12.map eU8))))] ∧ fuse_Join_c1 k rec8 x7 x12 = some r) ?_ ?_
    ·refine AW.block ?_
     refine AW.sr ?_
     refine AO.c (Calm.move rfl rfl) ?_
     obtain ⟨hg13, h⟩ := of_guard h
     refine AO.c (Calm.idxL (f := eStr) rfl rfl rfl hg13 Try.underlying53 sz9) ?_
     refine AO.c (Calm.loadRp rfl rfl ag9 sz9) ?_
     refine AO.c (Calm.assign rfl rfl) ?_
     refine AO.c (Calm.assign rfl rfl) ?_
     refine AO.nK [0, 1, 5, 6, 7, 8, 9, 10] ?_
     refine AW.sr ?_
     refine AO.c (Calm.move rfl rfl) ?_
     refine AO.c (Calm.move rfl rfl) ?_
     obtain ⟨hg15, h⟩ := of_guard h
     refine AO.appendStrL 0 17 rfl (by decide) rfl rfl rfl rfl rfl Try.underlying77 Try.underlying9 sz5 by5 zr5 rfl hg15 (by decide) fun n14 => ?_
     refine AO.c (Calm.assign rfl rfl) ?_
     refine AO.nK [0, 1, 5, 6, 8, 9, 10] ?_
     refine AW.seq ?_
     obtain ⟨b16, hq17, h⟩ := of_bind h
     refine AW.regM [(0, (.fz 1 (p0.map eStr))), (1, (.fz 1 (p1.map eBool))), (5, (.own n14 0 (x6 ++ (lget p0 x7).data.toList.map fun b => (b.toNat : Int)).length)), (8, (.fz 1 (p0.map eStr))), (9, (eI64 (p0.length : Int))), (10, (eI64 x7)), (34, (eBool b16))] [(n14, (.mem (.ar 1 ((x6 ++ (lget p0 x7).data.toList.map fun b => (b.toNat : Int)).map eU8))))] ?_ ?_
     ·refine AO.c (Calm.move rfl rfl) ?_
      refine AO.c (Calm.move rfl rfl) ?_
      refine AO.c (Calm.lenL rfl rfl Try.underlying49) ?_
      refine AO.c (x := eBool (decide (x7 < (p1.length : Int)))) (Calm.int rfl rfl rfl rfl) ?_
      refine AO.c (Calm.move rfl rfl) ?_
      rcases of_ite hq17 with ⟨hc18, hq17⟩ | ⟨hc18, hq17⟩
      ·refine AO.cG rfl rfl (bD (decide_eq_true hc18)) (Calm.move rfl rfl) ?_
       refine AO.cG rfl rfl (bD (decide_eq_true hc18)) (Calm.move rfl rfl) ?_
       obtain ⟨hg19, hq17⟩ := of_guard hq17
       refine AO.cG rfl rfl (bD (decide_eq_true hc18)) (Calm.idxL (f := eBool) rfl rfl rfl hg19 Try.underlying49 sz4) ?_
       refine AO.cG rfl rfl (bD (decide_eq_true hc18)) (Calm.loadRp rfl rfl ag4 sz4) ?_
       refine AO.c (Calm.pickT rfl (bD (decide_eq_true hc18)) rfl) ?_
       refine AO.c (Calm.move rfl rfl) ?_
       rcases of_ite hq17 with ⟨hc20, hq17⟩ | ⟨hc20, hq17⟩
       ·refine AO.cG rfl rfl (bD hc20) (Calm.move rfl rfl) ?_
        refine AO.cG rfl rfl (bD hc20) (Calm.move rfl rfl) ?_
        refine AO.cG rfl rfl (bD hc20) (Calm.lenL rfl rfl Try.underlying53) ?_
        refine AO.cG (x := eI64 (w64 ((p0.length : Int) - (1 : Int)))) rfl rfl (bD hc20) (Calm.int rfl rfl rfl rfl) ?_
        refine AO.cG (x := eBool (decide (x7 < (w64 ((p0.length : Int) - (1 : Int)))))) rfl rfl (bD hc20) (Calm.int rfl rfl rfl rfl) ?_
        refine AO.c (Calm.pickT rfl (bD hc20) rfl) ?_
        cases hq17
        refine AO.nilE ⟨rfl, rfl⟩ ?_ ?_
        · exact ⟨rfl, rfl, rfl, rfl, rfl, rfl, rfl, trivial⟩
        · exact (Sub.refl _)
       ·refine AO.sT rfl rfl (bD (eq_false_of_ne_true hc20)) ?_
        refine AO.sT rfl rfl (bD (eq_false_of_ne_true hc20)) ?_
        refine AO.sT rfl rfl (bD (eq_false_of_ne_true hc20)) ?_
        refine AO.sT rfl rfl (bD (eq_false_of_ne_true hc20)) ?_
        refine AO.sT rfl rfl (bD (eq_false_of_ne_true hc20)) ?_
        refine AO.c (Calm.pickF rfl (bD (eq_false_of_ne_true hc20)) rfl) ?_
        cases hq17
        refine AO.nilE ⟨rfl, rfl⟩ ?_ ?_
        · exact ⟨rfl, rfl, rfl, rfl, rfl, rfl, rfl, trivial⟩
        · exact (Sub.refl _)
      ·refine AO.sT rfl rfl (bD (decide_eq_false hc18)) ?_
       refine AO.sT rfl rfl (bD (decide_eq_false hc18)) ?_
       refine AO.sT rfl rfl (bD (decide_eq_false hc18)) ?_
       refine AO.sT rfl rfl (bD (decide_eq_false hc18)) ?_
       refine AO.c (Calm.pickF rfl (bD (decide_eq_false hc18)) rfl) ?_
       refine AO.c (Calm.move rfl rfl) ?_
       refine AO.sT rfl rfl rfl ?_
       refine AO.sT rfl rfl rfl ?_
       refine AO.sT rfl rfl rfl ?_
       refine AO.sT rfl rfl rfl ?_
       refine AO.sT rfl rfl rfl ?_
       refine AO.c (Calm.pickF rfl rfl rfl) ?_
       cases hq17
       refine AO.nilE ⟨rfl, rfl⟩ ?_ ?_
       · exact ⟨rfl, rfl, rfl, rfl, rfl, rfl, rfl, trivial⟩
       · exact (Sub.refl _)
     ·rcases of_ite h with ⟨hc21, h⟩ | ⟨hc21, h⟩
      ·refine AW.condT' _ rfl hc21 ?_
       refine AW.reg ?_
       refine AO.c (Calm.move rfl rfl) ?_
       refine AO.lit (Z := (eU8 (0 : Int))) (xs := (([(32 : Int)] : List Int).map eU8)) (qs := [(0, (eU8 (32 : Int)))]) rfl 36 rfl (by decide) rfl ⟨rfl, rfl, rfl, trivial⟩ Try.underlying77 sz5 zr5 lay5 rfl (by decide) (litOK (z := 1) [(eU8 (32 : Int))] rfl ⟨⟨rfl, rfl⟩, trivial⟩) rfl fun n22 => ?_
       obtain ⟨hg24, h⟩ := of_guard h
       refine AO.appendL (l := (x6 ++ (lget p0 x7).data.toList.map fun b => (b.toNat : Int))) (m := ([(32 : Int)] : List Int)) 1 37 rfl (by decide) rfl rfl rfl rfl rfl (Src.ownL (f := eU8) (l := ([(32 : Int)] : List Int)) 0 rfl) Try.underlying77 Try.underlying77 sz5 by5 zr5 rfl hg24 (by decide) fun n23 => ?_
       refine AO.c (Calm.assign rfl rfl) ?_
       refine AO.nH [0, 1, 5, 8, 9, 10] (H' := [(n23, (.mem (.ar 1 (((x6 ++ (lget p0 x7).data.toList.map fun b => (b.toNat : Int)) ++ ([(32 : Int)] : List Int)).map eU8))))]) (Sub.cons 1 rfl (Sub.nil _)) ?_
       exact ⟨n23, ((x6 ++ (lget p0 x7).data.toList.map fun b => (b.toNat : Int)) ++ ([(32 : Int)] : List Int)), rfl, rfl, h⟩
      ·refine AW.condF' _ rfl hc21 ?_
       refine AW.sK [0, 1, 5, 8, 9, 10] ?_
       exact ⟨n14, (x6 ++ (lget p0 x7).data.toList.map fun b => (b.toNat : Int)), rfl, rfl, h⟩
    ·rintro _ _ ⟨n11, x12, rfl, rfl, h⟩
     rw [fuse_Join_c1.eq_1] at h
     refine AW.reg ?_
     refine AO.c (x := eI64 (w64 (x7 + (1 : Int)))) (Calm.int rfl rfl rfl rfl) ?_
     refine AO.c (Calm.move rfl rfl) ?_
     refine AO.nK [0, 1, 5, 8, 9, 10] ?_
     exact ⟨kq9, Nat.lt_succ_self _, n11, x12, (w64 (x7 + (1 : Int))), rfl, rfl, by rw [hrec8]; exact h⟩
   ·refine AW.condN _ rfl hc10 ?_
    refine AW.eK [5] ?_
    exact ⟨n5, x6, rfl, rfl, h⟩
  ·rintro _ _ ⟨n3, x4, rfl, rfl, h⟩
   rw [fuse_Join_c0.eq_1] at h
   refine AW.sr ?_
   refine AO.c (Calm.move rfl rfl) ?_
   refine AO.c (x := eStr (strOfNums x4)) (Calm.strO 0 rfl rfl rfl Try.underlying77 Try.underlying9 Try.underlying5) ?_
   refine AO.c (Calm.assign rfl rfl) ?_
   refine AO.nH [4] (H' := []) (Sub.nil _) ?_
   refine AW.rK [4] ?_
   have hr := Option.some.inj h
   subst hr
   exact ⟨[(eStr (strOfNums x4))], ⟨rfl, rfl, trivial⟩, rfl⟩
end Go.Avl.T5
/- bosket/bosketref15.Splits; printed by avmain.py. -/
namespace Go.Avl.T5
open Go Go.RowKit Go.Proofs Go.Avl
set_option linter.unusedVariables false
set_option maxRecDepth 100000
set_option maxHeartbeats 4000000
attribute [local irreducible] AW AO AQ Spec SpecH Calm

def bosketref15_Splits_c0 (k : Nat) (b12 : Bool) : Option Bool :=
  some (b12)
def bosketref15_Splits_l1 (k : Nat) (p3 : (List ByteArray)) (x8 : (List ByteArray)) : Nat → Bool → Int → Option Bool
  | 0, _, _ => none
  | j + 1, b13, x14 =>
    Option.bind (α := Bool) (if x14 < (x8.length : Int) then some (b13)
    else some (false)) fun b17 =>
    if b17 = true then if 0 ≤ x14 ∧ x14 < (x8.length : Int) then if 0 ≤ x14 ∧ x14 < (p3.length : Int) then (bosketref15_Splits_l1 k p3 x8 j) (decide ((lget x8 x14) = (lget p3 x14))) (w64 (x14 + (1 : Int)))
    else none
    else none
    else bosketref15_Splits_c0 k b13
def bosketref15_Splits_c2 (k : Nat) (p3 : (List ByteArray)) (t6 : ((List S96) × Int × Bool)) (x8 : (List ByteArray)) : Option Bool :=
  Option.bind (α := Bool) (if t6.2.2 = true then some (decide ((x8.length : Int) = (p3.length : Int)))
  else some (false)) fun b9 =>
  bosketref15_Splits_l1 k p3 x8 k b9 (0 : Int)
def bosketref15_Splits_c3 (k : Nat) (rec26 : ((List ByteArray) → Int → Option Bool)) (x25 : Int) (x30 : (List ByteArray)) : Option Bool :=
  rec26 x30 (w64 (x25 + (1 : Int)))
def bosketref15_Splits_l4 (k : Nat) (p1 : Int) (p3 : (List ByteArray)) (t6 : ((List S96) × Int × Bool)) : Nat → (List ByteArray) → Int → Option Bool
  | 0, _, _ => none
  | j + 1, x24, x25 =>
    if x25 < (t6.1.length : Int) then if 0 ≤ x25 ∧ x25 < (t6.1.length : Int) then if ((lget t6.1 x25).f0) ≠ p1 then if 0 ≤ x25 ∧ x25 < (t6.1.length : Int) then if (x24 ++ ([(lget t6.1 x25).f1] : List ByteArray)).length * 16 ≤ 140737488355328 then bosketref15_Splits_c3 k (bosketref15_Splits_l4 k p1 p3 t6 j) x25 (x24 ++ ([(lget t6.1 x25).f1] : List ByteArray))
    else none
    else none
    else bosketref15_Splits_c3 k (bosketref15_Splits_l4 k p1 p3 t6 j) x25 x24
    else none
    else bosketref15_Splits_c2 k p3 t6 x24
def bosketref15_Splits (k : Nat) (p0 : S30) (p1 : Int) (p2 : ByteArray) (p3 : (List ByteArray)) : Option Bool :=
  (bosketref12_All k p0 p2).bind fun t6 =>
  bosketref15_Splits_l4 k p1 p3 t6 k ([] : List ByteArray) (0 : Int)
theorem bosketref15_Splits_spec {k : Nat} {p0 : S30} {p1 : Int} {p2 : ByteArray} {p3 : (List ByteArray)} {r : Bool} (h : bosketref15_Splits k p0 p1 p2 p3 = some r) : Spec Try.prog 61 [(e30 p0), (eI64 p1), (eStr p2), (.fz 1 (p3.map eStr))] (eBool r) := by
  rw [bosketref15_Splits.eq_1] at h
  refine Spec.intro (res := [.tmp 8]) Try.func61 rfl rfl rfl (Nat.le_of_ble_eq_true rfl) ?_
  refine AW.sr ?_
  refine AO.box rfl 4 rfl (by decide) rfl rfl rfl fun n5 => ?_
  refine AO.c (Calm.assign rfl rfl) ?_
  refine AO.nK [1, 2, 3, 4] ?_
  refine AW.sr ?_
  refine AO.c (Calm.load 0 rfl rfl rfl (At.cast At.here rfl) ag30 sz30) ?_
  refine AO.c (Calm.move rfl rfl) ?_
  obtain ⟨t6, et6, h⟩ := of_bind h
  refine AO.callS [(e30 p0), (eStr p2)] (.tup [(.fz 3 (t6.1.map e96)), (eI64 t6.2.1), (eBool t6.2.2)]) 18 rfl (by decide) ok88 rfl rfl rfl ⟨rfl, rfl, rfl, rfl, trivial⟩ (bosketref12_All_spec et6) ?_
  refine AO.c (Calm.move rfl rfl) ?_
  refine AO.c (Calm.extract rfl rfl rfl) ?_
  refine AO.c (Calm.extract rfl rfl rfl) ?_
  refine AO.c (Calm.extract rfl rfl rfl) ?_
  refine AO.c (Calm.assign rfl rfl) ?_
  refine AO.c (Calm.assign rfl rfl) ?_
  refine AO.c (Calm.assign rfl rfl) ?_
  refine AO.nH [1, 3, 9, 11] (H' := []) (Sub.nil _) ?_
  refine AW.sr ?_
  refine AO.c (Calm.assign rfl rfl) ?_
  refine AO.nK [1, 3, 9, 11, 12] ?_
  refine AW.seq_mid (fun ρ H => ∃ (n7 : Nat) (x8 : (List ByteArray)), ρ = [(3, (.fz 1 (p3.map eStr))), (11, (eBool t6.2.2)), (12, (.own n7 0 x8.length))] ∧ H = [(n7, (.mem (.ar 1 (x8.map eStr))))] ∧ bosketref15_Splits_c2 k p3 t6 x8 = some r) ?_ ?_
  ·refine AW.sr ?_
   refine AO.c (Calm.assign rfl rfl) ?_
   refine AO.nK [1, 3, 9, 11, 12, 13] ?_
   refine AW.block ?_
   refine AW.nilOwn 12 1 rfl fun n37 => ?_
   refine AW.wK [1, 3, 9, 11, 12, 13] ?_
   refine AW.loop (fun kq ρ H => ∃ (n23 : Nat) (x24 : (List ByteArray)) (x25 : Int), ρ = [(1, (eI64 p1)), (3, (.fz 1 (p3.map eStr))), (9, (.fz 3 (t6.1.map e96))), (11, (eBool t6.2.2)), (12, (.own n23 0 x24.length)), (13, (eI64 x25))] ∧ H = [(n23, (.mem (.ar 1 (x24.map eStr))))] ∧ bosketref15_Splits_l4 k p1 p3 t6 kq x24 x25 = some r) k ⟨n37, ([] : List ByteArray), (0 : Int), rfl, rfl, h⟩ ?_
   rintro kq27 _ _ ⟨n23, x24, x25, rfl, rfl, h⟩
   cases kq27 with
   | zero => rw [bosketref15_Splits_l4.eq_1] at h; cases h
   | succ kq27 =>
   rw [bosketref15_Splits_l4.eq_2] at h
   generalize hrec26 : bosketref15_Splits_l4 k p1 p3 t6 kq27 = rec26 at h
   refine AW.seq ?_
   refine AW.sr ?_
   refine AO.c (Calm.move rfl rfl) ?_
   refine AO.c (Calm.move rfl rfl) ?_
   refine AO.c (Calm.lenL rfl rfl Try.underlying92) ?_
   refine AO.c (x := eBool (decide (x25 < (t6.1.length : Int)))) (Calm.int rfl rfl rfl rfl) ?_
   refine AO.nK [1, 3, 9, 11, 12, 13, 25] ?_
   rcases of_ite h with ⟨hc28, h⟩ | ⟨hc28, h⟩
   ·refine AW.condP _ rfl hc28 ?_
    refine AW.sK [1, 3, 9, 11, 12, 13] ?_
    refine AW.seq_mid (fun ρ H => ∃ (n29 : Nat) (x30 : (List ByteArray)), ρ = [(1, (eI64 p1)), (3, (.fz 1 (p3.map eStr))), (9, (.fz 3 (t6.1.map e96))), (11, (eBool t6.2.2)), (12, (.own n29 0 x30.length)), (13, (eI64 x25))] ∧ H = [(n29, (.mem (.ar 1 (x30.map eStr))))] ∧ bosketref15_Splits_c3 k rec26 x25 x30 = some r) ?_ ?_
    ·refine AW.block ?_
     refine AW.sr ?_
     refine AO.c (Calm.move rfl rfl) ?_
     refine AO.c (Calm.move rfl rfl) ?_
     obtain ⟨hg31, h⟩ := of_guard h
     refine AO.c (Calm.idxL (f := e96) rfl rfl rfl hg31 Try.underlying92 sz96) ?_
     refine AO.c (Calm.fldRp rfl rfl Try.underlying96 rfl sz3 (At.cast (At.fld0 At.here) rfl)) ?_
     refine AO.c (Calm.loadRp rfl rfl ag3 sz3) ?_
     refine AO.c (Calm.move rfl rfl) ?_
     refine AO.c (x := eBool (decide (((lget t6.1 x25).f0) ≠ p1))) (Calm.int rfl rfl rfl rfl) ?_
     refine AO.nK [1, 3, 9, 11, 12, 13, 34] ?_
     rcases of_ite h with ⟨hc32, h⟩ | ⟨hc32, h⟩
     ·refine AW.condP _ rfl hc32 ?_
      refine AW.reg ?_
      refine AO.c (Calm.move rfl rfl) ?_
      refine AO.c (Calm.move rfl rfl) ?_
      refine AO.c (Calm.move rfl rfl) ?_
      obtain ⟨hg33, h⟩ := of_guard h
      refine AO.c (Calm.idxL (f := e96) rfl rfl rfl hg33 Try.underlying92 sz96) ?_
      refine AO.c (Calm.fldRp rfl rfl Try.underlying96 rfl sz9 (At.cast (At.fldS (At.fld0 At.here)) rfl)) ?_
      refine AO.c (Calm.loadRp rfl rfl ag9 sz9) ?_
      refine AO.lit (Z := (eStr ByteArray.empty)) (xs := (([(lget t6.1 x25).f1] : List ByteArray).map eStr)) (qs := [(0, (eStr ((lget t6.1 x25).f1)))]) rfl 41 rfl (by decide) rfl ⟨rfl, rfl, rfl, trivial⟩ Try.underlying53 sz9 zr9 lay9 rfl (by decide) (litOK (z := 1) [(eStr ((lget t6.1 x25).f1))] rfl ⟨⟨rfl, rfl⟩, trivial⟩) rfl fun n34 => ?_
      obtain ⟨hg36, h⟩ := of_guard h
      refine AO.appendL (l := x24) (m := ([(lget t6.1 x25).f1] : List ByteArray)) 1 42 rfl (by decide) rfl rfl rfl rfl rfl (Src.ownL (f := eStr) (l := ([(lget t6.1 x25).f1] : List ByteArray)) 0 rfl) Try.underlying53 Try.underlying53 sz9 by9 zr9 rfl hg36 (by decide) fun n35 => ?_
      refine AO.c (Calm.assign rfl rfl) ?_
      refine AO.nH [1, 3, 9, 11, 12, 13] (H' := [(n35, (.mem (.ar 1 ((x24 ++ ([(lget t6.1 x25).f1] : List ByteArray)).map eStr))))]) (Sub.cons 1 rfl (Sub.nil _)) ?_
      exact ⟨n35, (x24 ++ ([(lget t6.1 x25).f1] : List ByteArray)), rfl, rfl, h⟩
     ·refine AW.condN _ rfl hc32 ?_
      refine AW.sK [1, 3, 9, 11, 12, 13] ?_
      exact ⟨n23, x24, rfl, rfl, h⟩
    ·rintro _ _ ⟨n29, x30, rfl, rfl, h⟩
     rw [bosketref15_Splits_c3.eq_1] at h
     refine AW.reg ?_
     refine AO.c (Calm.move rfl rfl) ?_
     refine AO.c (x := eI64 (w64 (x25 + (1 : Int)))) (Calm.int rfl rfl rfl rfl) ?_
     refine AO.c (Calm.assign rfl rfl) ?_
     refine AO.nK [1, 3, 9, 11, 12, 13] ?_
     exact ⟨kq27, Nat.lt_succ_self _, n29, x30, (w64 (x25 + (1 : Int))), rfl, rfl, by rw [hrec26]; exact h⟩
   ·refine AW.condN _ rfl hc28 ?_
    refine AW.eK [3, 11, 12] ?_
    exact ⟨n23, x24, rfl, rfl, h⟩
  ·rintro _ _ ⟨n7, x8, rfl, rfl, h⟩
   rw [bosketref15_Splits_c2.eq_1] at h
   refine AW.seq ?_
   obtain ⟨b9, hq10, h⟩ := of_bind h
   refine AW.regM [(3, (.fz 1 (p3.map eStr))), (11, (eBool b9)), (12, (.own n7 0 x8.length))] [(n7, (.mem (.ar 1 (x8.map eStr))))] ?_ ?_
   ·refine AO.c (Calm.move rfl rfl) ?_
    refine AO.c (Calm.move rfl rfl) ?_
    rcases of_ite hq10 with ⟨hc11, hq10⟩ | ⟨hc11, hq10⟩
    ·refine AO.cG rfl rfl (bD hc11) (Calm.move rfl rfl) ?_
     refine AO.cG rfl rfl (bD hc11) (Calm.lenOwn rfl rfl Try.underlying53) ?_
     refine AO.cG rfl rfl (bD hc11) (Calm.move rfl rfl) ?_
     refine AO.cG rfl rfl (bD hc11) (Calm.lenL rfl rfl Try.underlying53) ?_
     refine AO.cG (x := eBool (decide ((x8.length : Int) = (p3.length : Int)))) rfl rfl (bD hc11) (Calm.int rfl rfl rfl rfl) ?_
     refine AO.c (Calm.pickT rfl (bD hc11) rfl) ?_
     refine AO.c (Calm.assign rfl rfl) ?_
     cases hq10
     refine AO.nilE ⟨rfl, rfl⟩ ?_ ?_
     · exact ⟨rfl, rfl, rfl, trivial⟩
     · exact (Sub.refl _)
    ·refine AO.sT rfl rfl (bD (eq_false_of_ne_true hc11)) ?_
     refine AO.sT rfl rfl (bD (eq_false_of_ne_true hc11)) ?_
     refine AO.sT rfl rfl (bD (eq_false_of_ne_true hc11)) ?_
     refine AO.sT rfl rfl (bD (eq_false_of_ne_true hc11)) ?_
     refine AO.sT rfl rfl (bD (eq_false_of_ne_true hc11)) ?_
     refine AO.c (Calm.pickF rfl (bD (eq_false_of_ne_true hc11)) rfl) ?_
     refine AO.c (Calm.assign rfl rfl) ?_
     cases hq10
     refine AO.nilE ⟨rfl, rfl⟩ ?_ ?_
     · exact ⟨rfl, rfl, rfl, trivial⟩
     · exact (Sub.refl _)
   ·refine AW.seq_mid (fun ρ H => ∃ (b12 : Bool), ρ = [(11, (eBool b12))] ∧ H = [] ∧ bosketref15_Splits_c0 k b12 = some r) ?_ ?_
    ·refine AW.sr ?_
     refine AO.c (Calm.assign rfl rfl) ?_
     refine AO.nK [3, 11, 12, 14] ?_
     refine AW.block ?_
     refine AW.wK [3, 11, 12, 14] ?_
     refine AW.loop (fun kq ρ H => ∃ (b13 : Bool) (x14 : Int), ρ = [(3, (.fz 1 (p3.map eStr))), (11, (eBool b13)), (12, (.own n7 0 x8.length)), (14, (eI64 x14))] ∧ H = [(n7, (.mem (.ar 1 (x8.map eStr))))] ∧ bosketref15_Splits_l1 k p3 x8 kq b13 x14 = some r) k ⟨b9, (0 : Int), rfl, rfl, h⟩ ?_
     rintro kq16 _ _ ⟨b13, x14, rfl, rfl, h⟩
     cases kq16 with
     | zero => rw [bosketref15_Splits_l1.eq_1] at h; cases h
     | succ kq16 =>
     rw [bosketref15_Splits_l1.eq_2] at h
     generalize hrec15 : bosketref15_Splits_l1 k p3 x8 kq16 = rec15 at h
     refine AW.seq ?_
     refine AW.seq ?_
     obtain ⟨b17, hq18, h⟩ := of_bind h
     refine AW.regM [(3, (.fz 1 (p3.map eStr))), (11, (eBool b13)), (12, (.own n7 0 x8.length)), (14, (eI64 x14)), (57, (eBool b17))] [(n7, (.mem (.ar 1 (x8.map eStr))))] ?_ ?_
     ·refine AO.c (Calm.move rfl rfl) ?_
      refine AO.c (Calm.move rfl rfl) ?_
      refine AO.c (Calm.lenOwn rfl rfl Try.underlying53) ?_
      refine AO.c (x := eBool (decide (x14 < (x8.length : Int)))) (Calm.int rfl rfl rfl rfl) ?_
      refine AO.c (Calm.move rfl rfl) ?_
      rcases of_ite hq18 with ⟨hc19, hq18⟩ | ⟨hc19, hq18⟩
      ·refine AO.cG rfl rfl (bD (decide_eq_true hc19)) (Calm.move rfl rfl) ?_
       refine AO.c (Calm.pickT rfl (bD (decide_eq_true hc19)) rfl) ?_
       cases hq18
       refine AO.nilE ⟨rfl, rfl⟩ ?_ ?_
       · exact ⟨rfl, rfl, rfl, rfl, rfl, trivial⟩
       · exact (Sub.refl _)
      ·refine AO.sT rfl rfl (bD (decide_eq_false hc19)) ?_
       refine AO.c (Calm.pickF rfl (bD (decide_eq_false hc19)) rfl) ?_
       cases hq18
       refine AO.nilE ⟨rfl, rfl⟩ ?_ ?_
       · exact ⟨rfl, rfl, rfl, rfl, rfl, trivial⟩
       · exact (Sub.refl _)
     ·rcases of_ite h with ⟨hc20, h⟩ | ⟨hc20, h⟩
      ·refine AW.condT' _ rfl hc20 ?_
       refine AW.sK [3, 12, 14] ?_
       refine AW.seq ?_
       refine AW.block ?_
       refine AW.regQ (by rfl) (by decide +kernel) ?_
       refine AQ.c (Calm.move rfl rfl) ?_
       refine AQ.c (Calm.move rfl rfl) ?_
       obtain ⟨hg21, h⟩ := of_guard h
       refine AQ.c (Calm.idxO 0 rfl rfl rfl rfl hg21 Try.underlying53 sz9) ?_
       refine AQ.c (Calm.load 0 rfl rfl rfl (At.cast (At.lidx x14 hg21.1 hg21.2 At.here) (by omega)) ag9 sz9) ?_
       refine AQ.c (Calm.move rfl rfl) ?_
       refine AQ.c (Calm.move rfl rfl) ?_
       obtain ⟨hg22, h⟩ := of_guard h
       refine AQ.c (Calm.idxL (f := eStr) rfl rfl rfl hg22 Try.underlying53 sz9) ?_
       refine AQ.c (Calm.loadRp rfl rfl ag9 sz9) ?_
       refine AQ.c (x := eBool (decide ((lget x8 x14) = (lget p3 x14)))) (Calm.str rfl rfl rfl rfl) ?_
       refine AQ.c (Calm.assign rfl rfl) ?_
       refine AQ.nK [3, 11, 12, 14] ?_
       refine AW.reg ?_
       refine AO.c (Calm.move rfl rfl) ?_
       refine AO.c (x := eI64 (w64 (x14 + (1 : Int)))) (Calm.int rfl rfl rfl rfl) ?_
       refine AO.c (Calm.assign rfl rfl) ?_
       refine AO.nK [3, 11, 12, 14] ?_
       exact ⟨kq16, Nat.lt_succ_self _, decide ((lget x8 x14) = (lget p3 x14)), (w64 (x14 + (1 : Int))), rfl, rfl, by rw [hrec15]; exact h⟩
      ·refine AW.condF' _ rfl hc20 ?_
       refine AW.eH [11] (H' := []) (Sub.nil _) ?_
       exact ⟨b13, rfl, rfl, h⟩
    ·rintro _ _ ⟨b12, rfl, rfl, h⟩
     rw [bosketref15_Splits_c0.eq_1] at h
     refine AW.sr ?_
     refine AO.c (Calm.move rfl rfl) ?_
     refine AO.c (Calm.assign rfl rfl) ?_
     refine AO.nK [8] ?_
     refine AW.rK [8] ?_
     have hr := Option.some.inj h
     subst hr
     exact ⟨[(eBool b12)], ⟨rfl, rfl, trivial⟩, rfl⟩
end Go.Avl.T5
/- bosket/bosketref15.Join; printed by avmain.py. -/
namespace Go.Avl.T5
open Go Go.RowKit Go.Proofs Go.Avl
set_option linter.unusedVariables false
set_option maxRecDepth 100000
set_option maxHeartbeats 4000000
attribute [local irreducible] AW AO AQ Spec SpecH Calm

def bosketref15_Join_c0 (k : Nat) (x3 : ByteArray) : Option ByteArray :=
  some (x3)
def bosketref15_Join_c1 (k : Nat) (rec6 : (ByteArray → Int → Option ByteArray)) (x5 : Int) (x9 : ByteArray) : Option ByteArray :=
  rec6 x9 (w64 (x5 + (1 : Int)))
def bosketref15_Join_l2 (k : Nat) (p0 : (List ByteArray)) (p1 : (List Bool)) : Nat → ByteArray → Int → Option ByteArray
  | 0, _, _ => none
  | j + 1, x4, x5 =>
    if x5 < (p0.length : Int) then if 0 ≤ x5 ∧ x5 < (p0.length : Int) then if x4.size + (lget p0 x5).size ≤ 9223372036854775807 then Option.bind (α := Bool) (if (w64 (x5 + (1 : Int))) < (p0.length : Int) then if x5 < (p1.length : Int) then if 0 ≤ x5 ∧ x5 < (p1.length : Int) then some ((lget p1 x5))
    else none
    else some (false)
    else some (false)) fun b12 =>
    if b12 = true then if (x4 ++ (lget p0 x5)).size + (ByteArray.mk #[32]).size ≤ 9223372036854775807 then bosketref15_Join_c1 k (bosketref15_Join_l2 k p0 p1 j) x5 ((x4 ++ (lget p0 x5)) ++ (ByteArray.mk #[32]))
    else none
    else bosketref15_Join_c1 k (bosketref15_Join_l2 k p0 p1 j) x5 (x4 ++ (lget p0 x5))
    else none
    else none
    else bosketref15_Join_c0 k x4
def bosketref15_Join (k : Nat) (p0 : (List ByteArray)) (p1 : (List Bool)) : Option ByteArray :=
  bosketref15_Join_l2 k p0 p1 k (ByteArray.mk #[]) (0 : Int)
theorem bosketref15_Join_spec {k : Nat} {p0 : (List ByteArray)} {p1 : (List Bool)} {r : ByteArray} (h : bosketref15_Join k p0 p1 = some r) : Spec Try.prog 62 [(.fz 1 (p0.map eStr)), (.fz 1 (p1.map eBool))] (eStr r) := by
  rw [bosketref15_Join.eq_1] at h
  refine Spec.intro (res := [.tmp 4]) Try.func62 rfl rfl rfl (Nat.le_of_ble_eq_true rfl) ?_
  refine AW.sr ?_
  refine AO.c (Calm.assign rfl rfl) ?_
  refine AO.nK [0, 1] ?_
  refine AW.sr ?_
  refine AO.c (Calm.assign rfl rfl) ?_
  refine AO.nK [0, 1, 5] ?_
  refine AW.seq_mid (fun ρ H => ∃ (x3 : ByteArray), ρ = [(5, (eStr x3))] ∧ H = [] ∧ bosketref15_Join_c0 k x3 = some r) ?_ ?_
  ·refine AW.sr ?_
   refine AO.c (Calm.assign rfl rfl) ?_
   refine AO.nK [0, 1, 5, 6] ?_
   refine AW.block ?_
   refine AW.wK [0, 1, 5, 6] ?_
   refine AW.loop (fun kq ρ H => ∃ (x4 : ByteArray) (x5 : Int), ρ = [(0, (.fz 1 (p0.map eStr))), (1, (.fz 1 (p1.map eBool))), (5, (eStr x4)), (6, (eI64 x5))] ∧ H = [] ∧ bosketref15_Join_l2 k p0 p1 kq x4 x5 = some r) k ⟨(ByteArray.mk #[]), (0 : Int), rfl, rfl, h⟩ ?_
   rintro kq7 _ _ ⟨x4, x5, rfl, rfl, h⟩
   cases kq7 with
   | zero => rw [bosketref15_Join_l2.eq_1] at h; cases h
   | succ kq7 =>
   rw [bosketref15_Join_l2.eq_2] at h
   generalize hrec6 : bosketref15_Join_l2 k p0 p1 kq7 = rec6 at h
   refine AW.seq ?_
   refine AW.sr ?_
   refine AO.c (Calm.move rfl rfl) ?_
   refine AO.c (Calm.move rfl rfl) ?_
   refine AO.c (Calm.lenL rfl rfl Try.underlying53) ?_
   refine AO.c (x := eBool (decide (x5 < (p0.length : Int)))) (Calm.int rfl rfl rfl rfl) ?_
   refine AO.nK [0, 1, 5, 6, 10] ?_
   rcases of_ite h with ⟨hc8, h⟩ | ⟨hc8, h⟩
   ·refine AW.condP _ rfl hc8 ?_
    refine AW.sK [0, 1, 5, 6] ?_
    refine AW.seq_mid (fun ρ H => ∃ (x9 : ByteArray), ρ = [(0, (.fz 1 (p0.map eStr))), (1, (.fz 1 (p1.map eBool))), (5, (eStr x9)), (6, (eI64 x5))] ∧ H = [] ∧ bosketref15_Join_c1 k rec6 x5 x9 = some r) ?_ ?_
    ·refine AW.block ?_
     refine AW.sr ?_
     refine AO.c (Calm.move rfl rfl) ?_
     refine AO.c (Calm.move rfl rfl) ?_
     refine AO.c (Calm.move rfl rfl) ?_
     obtain ⟨hg10, h⟩ := of_guard h
     refine AO.c (Calm.idxL (f := eStr) rfl rfl rfl hg10 Try.underlying53 sz9) ?_
     refine AO.c (Calm.loadRp rfl rfl ag9 sz9) ?_
     obtain ⟨hg11, h⟩ := of_guard h
     refine AO.c (x := eStr (x4 ++ (lget p0 x5))) (Calm.cat rfl rfl rfl hg11) ?_
     refine AO.c (Calm.assign rfl rfl) ?_
     refine AO.nK [0, 1, 5, 6] ?_
     refine AW.seq ?_
     obtain ⟨b12, hq13, h⟩ := of_bind h
     refine AW.regM [(0, (.fz 1 (p0.map eStr))), (1, (.fz 1 (p1.map eBool))), (5, (eStr (x4 ++ (lget p0 x5)))), (6, (eI64 x5)), (35, (eBool b12))] [] ?_ ?_
     ·refine AO.c (Calm.move rfl rfl) ?_
      refine AO.c (x := eI64 (w64 (x5 + (1 : Int)))) (Calm.int rfl rfl rfl rfl) ?_
      refine AO.c (Calm.move rfl rfl) ?_
      refine AO.c (Calm.lenL rfl rfl Try.underlying53) ?_
      refine AO.c (x := eBool (decide ((w64 (x5 + (1 : Int))) < (p0.length : Int)))) (Calm.int rfl rfl rfl rfl) ?_
      refine AO.c (Calm.move rfl rfl) ?_
      rcases of_ite hq13 with ⟨hc14, hq13⟩ | ⟨hc14, hq13⟩
      ·refine AO.cG rfl rfl (bD (decide_eq_true hc14)) (Calm.move rfl rfl) ?_
       refine AO.cG rfl rfl (bD (decide_eq_true hc14)) (Calm.move rfl rfl) ?_
       refine AO.cG rfl rfl (bD (decide_eq_true hc14)) (Calm.lenL rfl rfl Try.underlying49) ?_
       refine AO.cG (x := eBool (decide (x5 < (p1.length : Int)))) rfl rfl (bD (decide_eq_true hc14)) (Calm.int rfl rfl rfl rfl) ?_
       refine AO.c (Calm.pickT rfl (bD (decide_eq_true hc14)) rfl) ?_
       refine AO.c (Calm.move rfl rfl) ?_
       rcases of_ite hq13 with ⟨hc15, hq13⟩ | ⟨hc15, hq13⟩
       ·refine AO.cG rfl rfl (bD (decide_eq_true hc15)) (Calm.move rfl rfl) ?_
        refine AO.cG rfl rfl (bD (decide_eq_true hc15)) (Calm.move rfl rfl) ?_
        obtain ⟨hg16, hq13⟩ := of_guard hq13
        refine AO.cG rfl rfl (bD (decide_eq_true hc15)) (Calm.idxL (f := eBool) rfl rfl rfl hg16 Try.underlying49 sz4) ?_
        refine AO.cG rfl rfl (bD (decide_eq_true hc15)) (Calm.loadRp rfl rfl ag4 sz4) ?_
        refine AO.c (Calm.pickT rfl (bD (decide_eq_true hc15)) rfl) ?_
        cases hq13
        refine AO.nilE ⟨rfl, rfl⟩ ?_ ?_
        · exact ⟨rfl, rfl, rfl, rfl, rfl, trivial⟩
        · exact (Sub.refl _)
       ·refine AO.sT rfl rfl (bD (decide_eq_false hc15)) ?_
        refine AO.sT rfl rfl (bD (decide_eq_false hc15)) ?_
        refine AO.sT rfl rfl (bD (decide_eq_false hc15)) ?_
        refine AO.sT rfl rfl (bD (decide_eq_false hc15)) ?_
        refine AO.c (Calm.pickF rfl (bD (decide_eq_false hc15)) rfl) ?_
        cases hq13
        refine AO.nilE ⟨rfl, rfl⟩ ?_ ?_
        · exact ⟨rfl, rfl, rfl, rfl, rfl, trivial⟩
        · exact (Sub.refl _)
      ·refine AO.sT rfl rfl (bD (decide_eq_false hc14)) ?_
       refine AO.sT rfl rfl (bD (decide_eq_false hc14)) ?_
       refine AO.sT rfl rfl (bD (decide_eq_false hc14)) ?_
       refine AO.sT rfl rfl (bD (decide_eq_false hc14)) ?_
       refine AO.c (Calm.pickF rfl (bD (decide_eq_false hc14)) rfl) ?_
       refine AO.c (Calm.move rfl rfl) ?_
       refine AO.sT rfl rfl rfl ?_
       refine AO.sT rfl rfl rfl ?_
       refine AO.sT rfl rfl rfl ?_
       refine AO.sT rfl rfl rfl ?_
       refine AO.c (Calm.pickF rfl rfl rfl) ?_
       cases hq13
       refine AO.nilE ⟨rfl, rfl⟩ ?_ ?_
       · exact ⟨rfl, rfl, rfl, rfl, rfl, trivial⟩
       · exact (Sub.refl _)
     ·rcases of_ite h with ⟨hc17, h⟩ | ⟨hc17, h⟩
      ·refine AW.condT' _ rfl hc17 ?_
       refine AW.reg ?_
       refine AO.c (Calm.move rfl rfl) ?_
       obtain ⟨hg18, h⟩ := of_guard h
       refine AO.c (x := eStr ((x4 ++ (lget p0 x5)) ++ (ByteArray.mk #[32]))) (Calm.cat rfl rfl rfl hg18) ?_
       refine AO.c (Calm.assign rfl rfl) ?_
       refine AO.nK [0, 1, 5, 6] ?_
       exact ⟨((x4 ++ (lget p0 x5)) ++ (ByteArray.mk #[32])), rfl, rfl, h⟩
      ·refine AW.condF' _ rfl hc17 ?_
       refine AW.sK [0, 1, 5, 6] ?_
       exact ⟨(x4 ++ (lget p0 x5)), rfl, rfl, h⟩
    ·rintro _ _ ⟨x9, rfl, rfl, h⟩
     rw [bosketref15_Join_c1.eq_1] at h
     refine AW.reg ?_
     refine AO.c (Calm.move rfl rfl) ?_
     refine AO.c (x := eI64 (w64 (x5 + (1 : Int)))) (Calm.int rfl rfl rfl rfl) ?_
     refine AO.c (Calm.assign rfl rfl) ?_
     refine AO.nK [0, 1, 5, 6] ?_
     exact ⟨kq7, Nat.lt_succ_self _, x9, (w64 (x5 + (1 : Int))), rfl, rfl, by rw [hrec6]; exact h⟩
   ·refine AW.condN _ rfl hc8 ?_
    refine AW.eK [5] ?_
    exact ⟨x4, rfl, rfl, h⟩
  ·rintro _ _ ⟨x3, rfl, rfl, h⟩
   rw [bosketref15_Join_c0.eq_1] at h
   refine AW.sr ?_
   refine AO.c (Calm.move rfl rfl) ?_
   refine AO.c (Calm.assign rfl rfl) ?_
   refine AO.nK [4] ?_
   refine AW.rK [4] ?_
   have hr := Option.some.inj h
   subst hr
   exact ⟨[(eStr x3)], ⟨rfl, rfl, trivial⟩, rfl⟩
end Go.Avl.T5
/- bosket/fuse.Gaps; printed by avmain.py. -/
namespace Go.Avl.T5
open Go Go.RowKit Go.Proofs Go.Avl
set_option linter.unusedVariables false
set_option maxRecDepth 100000
set_option maxHeartbeats 4000000
attribute [local irreducible] AW AO AQ Spec SpecH Calm

def fuse_Gaps_c0 (k : Nat) (x12 : (List Bool)) : Option ((List Bool) × Int) :=
  some (x12, (0 : Int))
def fuse_Gaps_c1 (k : Nat) (rec21 : ((List Bool) → Bool → Int → Option ((List Bool) × Int))) (x20 : Int) (x24 : (List Bool)) (b25 : Bool) : Option ((List Bool) × Int) :=
  rec21 x24 b25 (w64 (x20 + (1 : Int)))
def fuse_Gaps_l2 (k : Nat) (rec15 : ((List Bool) → Bool → Option ((List Bool) × Int))) (p0 : S30) (p1 : Int) (p2 : (List ByteArray)) (x13 : (List Bool)) : Nat → (List Bool) → Bool → Int → Option ((List Bool) × Int)
  | 0, _, _, _ => none
  | j + 1, x18, b19, x20 =>
    if x20 < (x13.length : Int) then if 0 ≤ x20 ∧ x20 < (x18.length : Int) then if (!(lget x18 x20)) = true then fuse_Gaps_c1 k (fuse_Gaps_l2 k rec15 p0 p1 p2 x13 j) x20 x18 b19
    else if 0 ≤ x20 ∧ x20 < (x18.length : Int) then (fuse_Join k p2 (lset x18 x20 false)).bind fun t29 =>
    (fuse_Splits k p0 p1 t29 p2).bind fun t30 =>
    if t30 = true then fuse_Gaps_c1 k (fuse_Gaps_l2 k rec15 p0 p1 p2 x13 j) x20 (lset x18 x20 false) true
    else if 0 ≤ x20 ∧ x20 < ((lset x18 x20 false).length : Int) then fuse_Gaps_c1 k (fuse_Gaps_l2 k rec15 p0 p1 p2 x13 j) x20 (lset (lset x18 x20 false) x20 true) b19
    else none
    else none
    else none
    else rec15 x18 b19
def fuse_Gaps_l3 (k : Nat) (p0 : S30) (p1 : Int) (p2 : (List ByteArray)) : Nat → (List Bool) → Bool → Option ((List Bool) × Int)
  | 0, _, _ => none
  | j + 1, x13, b14 =>
    if b14 = true then fuse_Gaps_l2 k (fuse_Gaps_l3 k p0 p1 p2 j) p0 p1 p2 x13 k x13 false (0 : Int)
    else fuse_Gaps_c0 k x13
def fuse_Gaps_c4 (k : Nat) (p0 : S30) (p1 : Int) (p2 : (List ByteArray)) (x8 : (List Bool)) : Option ((List Bool) × Int) :=
  (fuse_Join k p2 x8).bind fun t9 =>
  (fuse_Splits k p0 p1 t9 p2).bind fun t10 =>
  if (!t10) = true then some ([], (7 : Int))
  else fuse_Gaps_l3 k p0 p1 p2 k x8 true
def fuse_Gaps_l5 (k : Nat) (p0 : S30) (p1 : Int) (p2 : (List ByteArray)) : Nat → (List Bool) → Int → Option ((List Bool) × Int)
  | 0, _, _ => none
  | j + 1, x33, x34 =>
    if x34 < ((List.replicate (max (w64 ((p2.length : Int) - (1 : Int))) (0 : Int)).toNat false).length : Int) then if 0 ≤ x34 ∧ x34 < (x33.length : Int) then (fuse_Gaps_l5 k p0 p1 p2 j) (lset x33 x34 true) (w64 (x34 + (1 : Int)))
    else none
    else fuse_Gaps_c4 k p0 p1 p2 x33
def fuse_Gaps (k : Nat) (p0 : S30) (p1 : Int) (p2 : (List ByteArray)) : Option ((List Bool) × Int) :=
  if (300 : Int) < (p2.length : Int) then some ([], (6 : Int))
  else if 0 ≤ (max (w64 ((p2.length : Int) - (1 : Int))) (0 : Int)) ∧ (max (w64 ((p2.length : Int) - (1 : Int))) (0 : Int)) * (1 : Int) ≤ 140737488355328 ∧ (max (w64 ((p2.length : Int) - (1 : Int))) (0 : Int)) ≤ 9223372036854775807 then fuse_Gaps_l5 k p0 p1 p2 k (List.replicate (max (w64 ((p2.length : Int) - (1 : Int))) (0 : Int)).toNat false) (0 : Int)
  else none
theorem fuse_Gaps_spec {k : Nat} {p0 : S30} {p1 : Int} {p2 : (List ByteArray)} {r : ((List Bool) × Int)} (h : fuse_Gaps k p0 p1 p2 = some r) : Spec Try.prog 27 [(e30 p0), (eI64 p1), (.fz 1 (p2.map eStr))] (.tup [(.fz 1 (r.1.map eBool)), (eI64 r.2)]) := by
  rw [fuse_Gaps.eq_1] at h
  refine Spec.intro (res := [.tmp 6, .tmp 7]) Try.func27 rfl rfl rfl (Nat.le_of_ble_eq_true rfl) ?_
  refine AW.sr ?_
  refine AO.box rfl 3 rfl (by decide) rfl rfl rfl fun n4 => ?_
  refine AO.c (Calm.assign rfl rfl) ?_
  refine AO.c (Calm.assign rfl rfl) ?_
  refine AO.nK [1, 2, 3] ?_
  refine AW.seq ?_
  refine AW.sr ?_
  refine AO.c (Calm.move rfl rfl) ?_
  refine AO.c (Calm.lenL rfl rfl Try.underlying53) ?_
  refine AO.c (x := eBool (decide ((300 : Int) < (p2.length : Int)))) (Calm.int rfl rfl rfl rfl) ?_
  refine AO.nK [1, 2, 3, 14] ?_
  rcases of_ite h with ⟨hc5, h⟩ | ⟨hc5, h⟩
  ·refine AW.condP _ rfl hc5 ?_
   refine AW.sr ?_
   refine AO.c (Calm.assign rfl rfl) ?_
   refine AO.c (Calm.assign rfl rfl) ?_
   refine AO.nH [6, 7] (H' := []) (Sub.nil _) ?_
   refine AW.coeC 6 (y' := (.fz 1 (([] : List Bool).map eBool))) rfl Coe.nil ?_
   refine AW.rK [6, 7] ?_
   have hr := Option.some.inj h
   subst hr
   exact ⟨[(.fz 1 (([] : List Bool).map eBool)), (eI64 (6 : Int))], ⟨rfl, rfl, rfl, rfl, trivial⟩, rfl⟩
  ·refine AW.condN _ rfl hc5 ?_
   refine AW.sK [1, 2, 3] ?_
   refine AW.sr ?_
   refine AO.c (Calm.move rfl rfl) ?_
   refine AO.c (Calm.lenL rfl rfl Try.underlying53) ?_
   refine AO.c (x := eI64 (w64 ((p2.length : Int) - (1 : Int)))) (Calm.int rfl rfl rfl rfl) ?_
   refine AO.c (x := eI64 (max (w64 ((p2.length : Int) - (1 : Int))) (0 : Int))) (Calm.max2 rfl rfl rfl) ?_
   obtain ⟨hg7, h⟩ := of_guard h
   refine AO.makeL (f := eBool) false rfl 19 rfl (by decide) rfl rfl rfl Try.underlying49 sz4 by4 zr4 lay4 rfl hg7 fun n6 => ?_
   refine AO.c (Calm.assign rfl rfl) ?_
   refine AO.nH [1, 2, 3, 8] (H' := [(n4, (.mem (e30 p0))), (n6, (.mem (.ar 1 ((List.replicate (max (w64 ((p2.length : Int) - (1 : Int))) (0 : Int)).toNat false).map eBool))))]) (Sub.cons 1 rfl (Sub.cons 0 rfl (Sub.nil _))) ?_
   refine AW.seq_mid (fun ρ H => ∃ (x8 : (List Bool)), ρ = [(1, (eI64 p1)), (2, (.fz 1 (p2.map eStr))), (3, (.ptr n4 0)), (8, (.own n6 0 x8.length))] ∧ H = [(n4, (.mem (e30 p0))), (n6, (.mem (.ar 1 (x8.map eBool))))] ∧ fuse_Gaps_c4 k p0 p1 p2 x8 = some r) ?_ ?_
   ·refine AW.sr ?_
    refine AO.c (Calm.move rfl rfl) ?_
    refine AO.c (Calm.lenOwn rfl rfl Try.underlying49) ?_
    refine AO.c (Calm.move rfl rfl) ?_
    refine AO.nK [1, 2, 3, 8, 21, 22] ?_
    refine AW.block ?_
    refine AW.wK [1, 2, 3, 8, 21, 22] ?_
    refine AW.loop (fun kq ρ H => ∃ (x33 : (List Bool)) (x34 : Int), ρ = [(1, (eI64 p1)), (2, (.fz 1 (p2.map eStr))), (3, (.ptr n4 0)), (8, (.own n6 0 x33.length)), (21, (eI64 ((List.replicate (max (w64 ((p2.length : Int) - (1 : Int))) (0 : Int)).toNat false).length : Int))), (22, (eI64 x34))] ∧ H = [(n4, (.mem (e30 p0))), (n6, (.mem (.ar 1 (x33.map eBool))))] ∧ fuse_Gaps_l5 k p0 p1 p2 kq x33 x34 = some r) k ⟨(List.replicate (max (w64 ((p2.length : Int) - (1 : Int))) (0 : Int)).toNat false), (0 : Int), rfl, rfl, h⟩ ?_
    rintro kq36 _ _ ⟨x33, x34, rfl, rfl, h⟩
    cases kq36 with
    | zero => rw [fuse_Gaps_l5.eq_1] at h; cases h
    | succ kq36 =>
    rw [fuse_Gaps_l5.eq_2] at h
    generalize hrec35 : fuse_Gaps_l5 k p0 p1 p2 kq36 = rec35 at h
    refine AW.sr ?_
    refine AO.c (x := eBool (decide (x34 < ((List.replicate (max (w64 ((p2.length : Int) - (1 : Int))) (0 : Int)).toNat false).length : Int)))) (Calm.int rfl rfl rfl rfl) ?_
    refine AO.nK [1, 2, 3, 8, 21, 22, 23] ?_
    refine AW.seq ?_
    rcases of_ite h with ⟨hc37, h⟩ | ⟨hc37, h⟩
    ·refine AW.condP _ rfl hc37 ?_
     refine AW.sK [1, 2, 3, 8, 21, 22] ?_
     refine AW.seq ?_
     refine AW.block ?_
     refine AW.sr ?_
     refine AO.c (Calm.move rfl rfl) ?_
     refine AO.c (Calm.assign rfl rfl) ?_
     refine AO.nK [1, 2, 3, 8, 9, 21, 22] ?_
     refine AW.reg ?_
     refine AO.c (Calm.move rfl rfl) ?_
     refine AO.c (Calm.move rfl rfl) ?_
     obtain ⟨hg38, h⟩ := of_guard h
     refine AO.c (Calm.idxO 1 rfl rfl rfl rfl hg38 Try.underlying49 sz4) ?_
     refine AO.store (X' := (.ar 1 ((lset x33 x34 true).map eBool))) 1 rfl rfl rfl rfl rfl rfl (Put.cast (Put.lidx x34 true hg38.1 hg38.2 Put.here) (by omega)) rfl rfl sz4 rfl ?_
     refine AO.coe 8 (y' := (.own n6 0 (lset x33 x34 true).length)) rfl (fun _ _ h => lset_own h) ?_
     refine AO.coe 25 (y' := (.own n6 0 (lset x33 x34 true).length)) rfl (fun _ _ h => lset_own h) ?_
     refine AO.nK [1, 2, 3, 8, 21, 22] ?_
     refine AW.reg ?_
     refine AO.c (x := eI64 (w64 (x34 + (1 : Int)))) (Calm.int rfl rfl rfl rfl) ?_
     refine AO.c (Calm.move rfl rfl) ?_
     refine AO.nK [1, 2, 3, 8, 21, 22] ?_
     exact ⟨kq36, Nat.lt_succ_self _, (lset x33 x34 true), (w64 (x34 + (1 : Int))), rfl, rfl, by rw [hrec35]; exact h⟩
    ·refine AW.condN _ rfl hc37 ?_
     refine AW.eK [1, 2, 3, 8] ?_
     exact ⟨x33, rfl, rfl, h⟩
   ·rintro _ _ ⟨x8, rfl, rfl, h⟩
    rw [fuse_Gaps_c4.eq_1] at h
    refine AW.seq ?_
    refine AW.seq ?_
    refine AW.regQ (by rfl) (by decide +kernel) ?_
    refine AQ.c (Calm.load 0 rfl rfl rfl (At.cast At.here rfl) ag30 sz30) ?_
    refine AQ.c (Calm.move rfl rfl) ?_
    refine AQ.c (Calm.move rfl rfl) ?_
    refine AQ.c (Calm.move rfl rfl) ?_
    obtain ⟨t9, et9, h⟩ := of_bind h
    refine AQ.c (Calm.callB (args := [(.fz 1 (p2.map eStr)), (.fz 1 (x8.map eBool))]) rfl rfl ok31 ⟨.inl ⟨rfl, rfl⟩, .inr ⟨_, 0, _, _, _, 1, rfl, rfl, by simp, by rw [own_all]⟩, trivial⟩ rfl (fuse_Join_spec et9)) ?_
    refine AQ.c (Calm.move rfl rfl) ?_
    obtain ⟨t10, et10, h⟩ := of_bind h
    refine AQ.c (Calm.call (args := [(e30 p0), (eI64 p1), (eStr t9), (.fz 1 (p2.map eStr))]) rfl rfl ok30 ⟨rfl, rfl, rfl, rfl, rfl, rfl, rfl, rfl, trivial⟩ rfl (fuse_Splits_spec et10)) ?_
    refine AQ.c (Calm.not rfl rfl) ?_
    refine AQ.nK [1, 2, 3, 8, 36] ?_
    rcases of_ite h with ⟨hc11, h⟩ | ⟨hc11, h⟩
    ·refine AW.condT' _ rfl hc11 ?_
     refine AW.sr ?_
     refine AO.c (Calm.assign rfl rfl) ?_
     refine AO.c (Calm.assign rfl rfl) ?_
     refine AO.nH [6, 7] (H' := []) (Sub.nil _) ?_
     refine AW.coeC 6 (y' := (.fz 1 (([] : List Bool).map eBool))) rfl Coe.nil ?_
     refine AW.rK [6, 7] ?_
     have hr := Option.some.inj h
     subst hr
     exact ⟨[(.fz 1 (([] : List Bool).map eBool)), (eI64 (7 : Int))], ⟨rfl, rfl, rfl, rfl, trivial⟩, rfl⟩
    ·refine AW.condF' _ rfl hc11 ?_
     refine AW.sK [1, 2, 3, 8] ?_
     refine AW.seq_mid (fun ρ H => ∃ (x12 : (List Bool)), ρ = [(8, (.own n6 0 x12.length))] ∧ H = [(n6, (.mem (.ar 1 (x12.map eBool))))] ∧ fuse_Gaps_c0 k x12 = some r) ?_ ?_
     ·refine AW.sr ?_
      refine AO.c (Calm.assign rfl rfl) ?_
      refine AO.nK [1, 2, 3, 8, 10] ?_
      refine AW.block ?_
      refine AW.wK [1, 2, 3, 8, 10] ?_
      refine AW.loop (fun kq ρ H => ∃ (x13 : (List Bool)) (b14 : Bool), ρ = [(1, (eI64 p1)), (2, (.fz 1 (p2.map eStr))), (3, (.ptr n4 0)), (8, (.own n6 0 x13.length)), (10, (eBool b14))] ∧ H = [(n4, (.mem (e30 p0))), (n6, (.mem (.ar 1 (x13.map eBool))))] ∧ fuse_Gaps_l3 k p0 p1 p2 kq x13 b14 = some r) k ⟨x8, true, rfl, rfl, h⟩ ?_
      rintro kq16 _ _ ⟨x13, b14, rfl, rfl, h⟩
      cases kq16 with
      | zero => rw [fuse_Gaps_l3.eq_1] at h; cases h
      | succ kq16 =>
      rw [fuse_Gaps_l3.eq_2] at h
      generalize hrec15 : fuse_Gaps_l3 k p0 p1 p2 kq16 = rec15 at h
      refine AW.seq ?_
      refine AW.sr ?_
      refine AO.c (Calm.move rfl rfl) ?_
      refine AO.nK [1, 2, 3, 8, 37] ?_
      rcases of_ite h with ⟨hc17, h⟩ | ⟨hc17, h⟩
      ·refine AW.condT' _ rfl hc17 ?_
       refine AW.sK [1, 2, 3, 8] ?_
       refine AW.block ?_
       refine AW.sr ?_
       refine AO.c (Calm.assign rfl rfl) ?_
       refine AO.nK [1, 2, 3, 8, 10] ?_
       refine AW.sr ?_
       refine AO.c (Calm.move rfl rfl) ?_
       refine AO.c (Calm.lenOwn rfl rfl Try.underlying49) ?_
       refine AO.c (Calm.move rfl rfl) ?_
       refine AO.nK [1, 2, 3, 8, 10, 39, 40] ?_
       refine AW.block ?_
       refine AW.wK [1, 2, 3, 8, 10, 39, 40] ?_
       refine AW.loop (fun kq ρ H => ∃ (x18 : (List Bool)) (b19 : Bool) (x20 : Int), ρ = [(1, (eI64 p1)), (2, (.fz 1 (p2.map eStr))), (3, (.ptr n4 0)), (8, (.own n6 0 x18.length)), (10, (eBool b19)), (39, (eI64 (x13.length : Int))), (40, (eI64 x20))] ∧ H = [(n4, (.mem (e30 p0))), (n6, (.mem (.ar 1 (x18.map eBool))))] ∧ fuse_Gaps_l2 k rec15 p0 p1 p2 x13 kq x18 b19 x20 = some r) k ⟨x13, false, (0 : Int), rfl, rfl, h⟩ ?_
       rintro kq22 _ _ ⟨x18, b19, x20, rfl, rfl, h⟩
       cases kq22 with
       | zero => rw [fuse_Gaps_l2.eq_1] at h; cases h
       | succ kq22 =>
       rw [fuse_Gaps_l2.eq_2] at h
       generalize hrec21 : fuse_Gaps_l2 k rec15 p0 p1 p2 x13 kq22 = rec21 at h
       refine AW.sr ?_
       refine AO.c (x := eBool (decide (x20 < (x13.length : Int)))) (Calm.int rfl rfl rfl rfl) ?_
       refine AO.nK [1, 2, 3, 8, 10, 39, 40, 41] ?_
       refine AW.seq ?_
       rcases of_ite h with ⟨hc23, h⟩ | ⟨hc23, h⟩
       ·refine AW.condP _ rfl hc23 ?_
        refine AW.sK [1, 2, 3, 8, 10, 39, 40] ?_
        refine AW.seq_mid (fun ρ H => ∃ (x24 : (List Bool)) (b25 : Bool), ρ = [(1, (eI64 p1)), (2, (.fz 1 (p2.map eStr))), (3, (.ptr n4 0)), (8, (.own n6 0 x24.length)), (10, (eBool b25)), (39, (eI64 (x13.length : Int))), (40, (eI64 x20))] ∧ H = [(n4, (.mem (e30 p0))), (n6, (.mem (.ar 1 (x24.map eBool))))] ∧ fuse_Gaps_c1 k rec21 x20 x24 b25 = some r) ?_ ?_
        ·refine AW.block ?_
         refine AW.sr ?_
         refine AO.c (Calm.move rfl rfl) ?_
         refine AO.c (Calm.assign rfl rfl) ?_
         refine AO.nK [1, 2, 3, 8, 10, 11, 39, 40] ?_
         refine AW.seq ?_
         refine AW.sr ?_
         refine AO.c (Calm.move rfl rfl) ?_
         refine AO.c (Calm.move rfl rfl) ?_
         obtain ⟨hg26, h⟩ := of_guard h
         refine AO.c (Calm.idxO 1 rfl rfl rfl rfl hg26 Try.underlying49 sz4) ?_
         refine AO.c (Calm.load 1 rfl rfl rfl (At.cast (At.lidx x20 hg26.1 hg26.2 At.here) (by omega)) ag4 sz4) ?_
         refine AO.c (Calm.not rfl rfl) ?_
         refine AO.nK [1, 2, 3, 8, 10, 11, 39, 40, 47] ?_
         rcases of_ite h with ⟨hc27, h⟩ | ⟨hc27, h⟩
         ·refine AW.condT' _ rfl hc27 ?_
          refine AW.eK [1, 2, 3, 8, 10, 39, 40] ?_
          exact ⟨x18, b19, rfl, rfl, h⟩
         ·refine AW.condF' _ rfl hc27 ?_
          refine AW.sK [1, 2, 3, 8, 10, 11, 39, 40] ?_
          refine AW.sr ?_
          refine AO.c (Calm.move rfl rfl) ?_
          refine AO.c (Calm.move rfl rfl) ?_
          obtain ⟨hg28, h⟩ := of_guard h
          refine AO.c (Calm.idxO 1 rfl rfl rfl rfl hg28 Try.underlying49 sz4) ?_
          refine AO.store (X' := (.ar 1 ((lset x18 x20 false).map eBool))) 1 rfl rfl rfl rfl rfl rfl (Put.cast (Put.lidx x20 false hg28.1 hg28.2 Put.here) (by omega)) rfl rfl sz4 rfl ?_
          refine AO.coe 8 (y' := (.own n6 0 (lset x18 x20 false).length)) rfl (fun _ _ h => lset_own h) ?_
          refine AO.coe 48 (y' := (.own n6 0 (lset x18 x20 false).length)) rfl (fun _ _ h => lset_own h) ?_
          refine AO.nK [1, 2, 3, 8, 10, 11, 39, 40] ?_
          refine AW.seq ?_
          refine AW.seq ?_
          refine AW.regQ (by rfl) (by decide +kernel) ?_
          refine AQ.c (Calm.load 0 rfl rfl rfl (At.cast At.here rfl) ag30 sz30) ?_
          refine AQ.c (Calm.move rfl rfl) ?_
          refine AQ.c (Calm.move rfl rfl) ?_
          refine AQ.c (Calm.move rfl rfl) ?_
          obtain ⟨t29, et29, h⟩ := of_bind h
          refine AQ.c (Calm.callB (args := [(.fz 1 (p2.map eStr)), (.fz 1 ((lset x18 x20 false).map eBool))]) rfl rfl ok31 ⟨.inl ⟨rfl, rfl⟩, .inr ⟨_, 0, _, _, _, 1, rfl, rfl, by simp, by rw [own_all]⟩, trivial⟩ rfl (fuse_Join_spec et29)) ?_
          refine AQ.c (Calm.move rfl rfl) ?_
          obtain ⟨t30, et30, h⟩ := of_bind h
          refine AQ.c (Calm.call (args := [(e30 p0), (eI64 p1), (eStr t29), (.fz 1 (p2.map eStr))]) rfl rfl ok30 ⟨rfl, rfl, rfl, rfl, rfl, rfl, rfl, rfl, trivial⟩ rfl (fuse_Splits_spec et30)) ?_
          refine AQ.nK [1, 2, 3, 8, 10, 11, 39, 40, 57] ?_
          rcases of_ite h with ⟨hc31, h⟩ | ⟨hc31, h⟩
          ·refine AW.condT' _ rfl hc31 ?_
           refine AW.sr ?_
           refine AO.c (Calm.assign rfl rfl) ?_
           refine AO.nK [1, 2, 3, 8, 10, 39, 40] ?_
           refine AW.eK [1, 2, 3, 8, 10, 39, 40] ?_
           exact ⟨(lset x18 x20 false), true, rfl, rfl, h⟩
          ·refine AW.condF' _ rfl hc31 ?_
           refine AW.sK [1, 2, 3, 8, 10, 11, 39, 40] ?_
           refine AW.reg ?_
           refine AO.c (Calm.move rfl rfl) ?_
           refine AO.c (Calm.move rfl rfl) ?_
           obtain ⟨hg32, h⟩ := of_guard h
           refine AO.c (Calm.idxO 1 rfl rfl rfl rfl hg32 Try.underlying49 sz4) ?_
           refine AO.store (X' := (.ar 1 ((lset (lset x18 x20 false) x20 true).map eBool))) 1 rfl rfl rfl rfl rfl rfl (Put.cast (Put.lidx x20 true hg32.1 hg32.2 Put.here) (by omega)) rfl rfl sz4 rfl ?_
           refine AO.coe 8 (y' := (.own n6 0 (lset (lset x18 x20 false) x20 true).length)) rfl (fun _ _ h => lset_own h) ?_
           refine AO.coe 58 (y' := (.own n6 0 (lset (lset x18 x20 false) x20 true).length)) rfl (fun _ _ h => lset_own h) ?_
           refine AO.nK [1, 2, 3, 8, 10, 39, 40] ?_
           exact ⟨(lset (lset x18 x20 false) x20 true), b19, rfl, rfl, h⟩
        ·rintro _ _ ⟨x24, b25, rfl, rfl, h⟩
         rw [fuse_Gaps_c1.eq_1] at h
         refine AW.reg ?_
         refine AO.c (x := eI64 (w64 (x20 + (1 : Int)))) (Calm.int rfl rfl rfl rfl) ?_
         refine AO.c (Calm.move rfl rfl) ?_
         refine AO.nK [1, 2, 3, 8, 10, 39, 40] ?_
         exact ⟨kq22, Nat.lt_succ_self _, x24, b25, (w64 (x20 + (1 : Int))), rfl, rfl, by rw [hrec21]; exact h⟩
       ·refine AW.condN _ rfl hc23 ?_
        refine AW.eK [1, 2, 3, 8, 10] ?_
        exact ⟨kq16, Nat.lt_succ_self _, x18, b19, rfl, rfl, by rw [hrec15]; exact h⟩
      ·refine AW.condF' _ rfl hc17 ?_
       refine AW.eH [8] (H' := [(n6, (.mem (.ar 1 (x13.map eBool))))]) (Sub.cons 1 rfl (Sub.nil _)) ?_
       exact ⟨x13, rfl, rfl, h⟩
     ·rintro _ _ ⟨x12, rfl, rfl, h⟩
      rw [fuse_Gaps_c0.eq_1] at h
      refine AW.sr ?_
      refine AO.c (Calm.move rfl rfl) ?_
      refine AO.c (Calm.assign rfl rfl) ?_
      refine AO.c (Calm.assign rfl rfl) ?_
      refine AO.nK [6, 7] ?_
      refine AW.freezeS 0 [(6, (.fz 1 (x12.map eBool)))] rfl ⟨fz_all rfl, trivial⟩ ?_
      refine AW.rK [6, 7] ?_
      have hr := Option.some.inj h
      subst hr
      exact ⟨[(.fz 1 (x12.map eBool)), (eI64 (0 : Int))], ⟨rfl, rfl, rfl, rfl, trivial⟩, rfl⟩
end Go.Avl.T5
/- bosket/bosketref15.Gaps; printed by avmain.py. -/
namespace Go.Avl.T5
open Go Go.RowKit Go.Proofs Go.Avl
set_option linter.unusedVariables false
set_option maxRecDepth 100000
set_option maxHeartbeats 4000000
attribute [local irreducible] AW AO AQ Spec SpecH Calm

def bosketref15_Gaps_c0 (k : Nat) (x11 : (List Bool)) : Option ((List Bool) × Bool) :=
  some (x11, true)
def bosketref15_Gaps_c1 (k : Nat) (rec22 : ((List Bool) → Bool → Int → Option ((List Bool) × Bool))) (x21 : Int) (x26 : (List Bool)) (b27 : Bool) : Option ((List Bool) × Bool) :=
  rec22 x26 b27 (w64 (x21 + (1 : Int)))
def bosketref15_Gaps_l2 (k : Nat) (rec15 : ((List Bool) → Bool → Option ((List Bool) × Bool))) (p0 : S30) (p1 : Int) (p2 : (List ByteArray)) : Nat → (List Bool) → Bool → Int → Option ((List Bool) × Bool)
  | 0, _, _, _ => none
  | j + 1, x19, b20, x21 =>
    if x21 < (x19.length : Int) then if (([] : List Bool) ++ x19).length * 1 ≤ 140737488355328 then if 0 ≤ x21 ∧ x21 < ((([] : List Bool) ++ x19).length : Int) then Option.bind (α := Bool) (if 0 ≤ x21 ∧ x21 < (x19.length : Int) then if (lget x19 x21) = true then (bosketref15_Join k p2 (lset (([] : List Bool) ++ x19) x21 false)).bind fun t36 =>
    (bosketref15_Splits k p0 p1 t36 p2).bind fun t37 =>
    some (t37)
    else some (false)
    else none) fun b32 =>
    if b32 = true then bosketref15_Gaps_c1 k (bosketref15_Gaps_l2 k rec15 p0 p1 p2 j) x21 (lset (([] : List Bool) ++ x19) x21 false) true
    else bosketref15_Gaps_c1 k (bosketref15_Gaps_l2 k rec15 p0 p1 p2 j) x21 x19 b20
    else none
    else none
    else rec15 x19 b20
def bosketref15_Gaps_l3 (k : Nat) (p0 : S30) (p1 : Int) (p2 : (List ByteArray)) : Nat → (List Bool) → Bool → Option ((List Bool) × Bool)
  | 0, _, _ => none
  | j + 1, x13, b14 =>
    if b14 = true then bosketref15_Gaps_l2 k (bosketref15_Gaps_l3 k p0 p1 p2 j) p0 p1 p2 k x13 false (0 : Int)
    else bosketref15_Gaps_c0 k x13
def bosketref15_Gaps_c4 (k : Nat) (p0 : S30) (p1 : Int) (p2 : (List ByteArray)) (x6 : (List Bool)) : Option ((List Bool) × Bool) :=
  (bosketref15_Join k p2 x6).bind fun t7 =>
  (bosketref15_Splits k p0 p1 t7 p2).bind fun t8 =>
  if (!t8) = true then some ([], false)
  else bosketref15_Gaps_l3 k p0 p1 p2 k x6 true
def bosketref15_Gaps_l5 (k : Nat) (p0 : S30) (p1 : Int) (p2 : (List ByteArray)) : Nat → (List Bool) → Int → Option ((List Bool) × Bool)
  | 0, _, _ => none
  | j + 1, x40, x41 =>
    if x41 < (p2.length : Int) then if (x40 ++ ([true] : List Bool)).length * 1 ≤ 140737488355328 then (bosketref15_Gaps_l5 k p0 p1 p2 j) (x40 ++ ([true] : List Bool)) (w64 (x41 + (1 : Int)))
    else none
    else bosketref15_Gaps_c4 k p0 p1 p2 x40
def bosketref15_Gaps (k : Nat) (p0 : S30) (p1 : Int) (p2 : (List ByteArray)) : Option ((List Bool) × Bool) :=
  bosketref15_Gaps_l5 k p0 p1 p2 k ([] : List Bool) (1 : Int)
theorem bosketref15_Gaps_spec {k : Nat} {p0 : S30} {p1 : Int} {p2 : (List ByteArray)} {r : ((List Bool) × Bool)} (h : bosketref15_Gaps k p0 p1 p2 = some r) : Spec Try.prog 28 [(e30 p0), (eI64 p1), (.fz 1 (p2.map eStr))] (.tup [(.fz 1 (r.1.map eBool)), (eBool r.2)]) := by
  rw [bosketref15_Gaps.eq_1] at h
  refine Spec.intro (res := [.tmp 6, .tmp 7]) Try.func28 rfl rfl rfl (Nat.le_of_ble_eq_true rfl) ?_
  refine AW.sr ?_
  refine AO.box rfl 3 rfl (by decide) rfl rfl rfl fun n4 => ?_
  refine AO.c (Calm.assign rfl rfl) ?_
  refine AO.c (Calm.assign rfl rfl) ?_
  refine AO.nK [1, 2, 3] ?_
  refine AW.sr ?_
  refine AO.c (Calm.assign rfl rfl) ?_
  refine AO.nK [1, 2, 3, 8] ?_
  refine AW.seq_mid (fun ρ H => ∃ (n5 : Nat) (x6 : (List Bool)), ρ = [(1, (eI64 p1)), (2, (.fz 1 (p2.map eStr))), (3, (.ptr n4 0)), (8, (.own n5 0 x6.length))] ∧ H = [(n4, (.mem (e30 p0))), (n5, (.mem (.ar 1 (x6.map eBool))))] ∧ bosketref15_Gaps_c4 k p0 p1 p2 x6 = some r) ?_ ?_
  ·refine AW.sr ?_
   refine AO.c (Calm.assign rfl rfl) ?_
   refine AO.nK [1, 2, 3, 8, 9] ?_
   refine AW.block ?_
   refine AW.nilOwn 8 1 rfl fun n48 => ?_
   refine AW.wH [1, 2, 3, 8, 9] (H' := [(n4, (.mem (e30 p0))), (n48, (.mem (.ar 1 (([] : List Bool).map eBool))))]) (Sub.cons 1 rfl (Sub.cons 0 rfl (Sub.nil _))) ?_
   refine AW.loop (fun kq ρ H => ∃ (n39 : Nat) (x40 : (List Bool)) (x41 : Int), ρ = [(1, (eI64 p1)), (2, (.fz 1 (p2.map eStr))), (3, (.ptr n4 0)), (8, (.own n39 0 x40.length)), (9, (eI64 x41))] ∧ H = [(n4, (.mem (e30 p0))), (n39, (.mem (.ar 1 (x40.map eBool))))] ∧ bosketref15_Gaps_l5 k p0 p1 p2 kq x40 x41 = some r) k ⟨n48, ([] : List Bool), (1 : Int), rfl, rfl, h⟩ ?_
   rintro kq43 _ _ ⟨n39, x40, x41, rfl, rfl, h⟩
   cases kq43 with
   | zero => rw [bosketref15_Gaps_l5.eq_1] at h; cases h
   | succ kq43 =>
   rw [bosketref15_Gaps_l5.eq_2] at h
   generalize hrec42 : bosketref15_Gaps_l5 k p0 p1 p2 kq43 = rec42 at h
   refine AW.seq ?_
   refine AW.sr ?_
   refine AO.c (Calm.move rfl rfl) ?_
   refine AO.c (Calm.move rfl rfl) ?_
   refine AO.c (Calm.lenL rfl rfl Try.underlying53) ?_
   refine AO.c (x := eBool (decide (x41 < (p2.length : Int)))) (Calm.int rfl rfl rfl rfl) ?_
   refine AO.nK [1, 2, 3, 8, 9, 16] ?_
   rcases of_ite h with ⟨hc44, h⟩ | ⟨hc44, h⟩
   ·refine AW.condP _ rfl hc44 ?_
    refine AW.sK [1, 2, 3, 8, 9] ?_
    refine AW.seq ?_
    refine AW.block ?_
    refine AW.reg ?_
    refine AO.c (Calm.move rfl rfl) ?_
    refine AO.lit (Z := (eBool false)) (xs := (([true] : List Bool).map eBool)) (qs := [(0, (eBool true))]) rfl 20 rfl (by decide) rfl ⟨rfl, rfl, rfl, trivial⟩ Try.underlying49 sz4 zr4 lay4 rfl (by decide) (litOK (z := 1) [(eBool true)] rfl ⟨⟨rfl, rfl⟩, trivial⟩) rfl fun n45 => ?_
    obtain ⟨hg47, h⟩ := of_guard h
    refine AO.appendL (l := x40) (m := ([true] : List Bool)) 2 21 rfl (by decide) rfl rfl rfl rfl rfl (Src.ownL (f := eBool) (l := ([true] : List Bool)) 0 rfl) Try.underlying49 Try.underlying49 sz4 by4 zr4 rfl hg47 (by decide) fun n46 => ?_
    refine AO.c (Calm.assign rfl rfl) ?_
    refine AO.nH [1, 2, 3, 8, 9] (H' := [(n4, (.mem (e30 p0))), (n46, (.mem (.ar 1 ((x40 ++ ([true] : List Bool)).map eBool))))]) (Sub.cons 1 rfl (Sub.cons 1 rfl (Sub.nil _))) ?_
    refine AW.reg ?_
    refine AO.c (Calm.move rfl rfl) ?_
    refine AO.c (x := eI64 (w64 (x41 + (1 : Int)))) (Calm.int rfl rfl rfl rfl) ?_
    refine AO.c (Calm.assign rfl rfl) ?_
    refine AO.nK [1, 2, 3, 8, 9] ?_
    exact ⟨kq43, Nat.lt_succ_self _, n46, (x40 ++ ([true] : List Bool)), (w64 (x41 + (1 : Int))), rfl, rfl, by rw [hrec42]; exact h⟩
   ·refine AW.condN _ rfl hc44 ?_
    refine AW.eK [1, 2, 3, 8] ?_
    exact ⟨n39, x40, rfl, rfl, h⟩
  ·rintro _ _ ⟨n5, x6, rfl, rfl, h⟩
   rw [bosketref15_Gaps_c4.eq_1] at h
   refine AW.seq ?_
   refine AW.seq ?_
   refine AW.regQ (by rfl) (by decide +kernel) ?_
   refine AQ.c (Calm.load 0 rfl rfl rfl (At.cast At.here rfl) ag30 sz30) ?_
   refine AQ.c (Calm.move rfl rfl) ?_
   refine AQ.c (Calm.move rfl rfl) ?_
   refine AQ.c (Calm.move rfl rfl) ?_
   obtain ⟨t7, et7, h⟩ := of_bind h
   refine AQ.c (Calm.callB (args := [(.fz 1 (p2.map eStr)), (.fz 1 (x6.map eBool))]) rfl rfl ok62 ⟨.inl ⟨rfl, rfl⟩, .inr ⟨_, 0, _, _, _, 1, rfl, rfl, by simp, by rw [own_all]⟩, trivial⟩ rfl (bosketref15_Join_spec et7)) ?_
   refine AQ.c (Calm.move rfl rfl) ?_
   obtain ⟨t8, et8, h⟩ := of_bind h
   refine AQ.c (Calm.call (args := [(e30 p0), (eI64 p1), (eStr t7), (.fz 1 (p2.map eStr))]) rfl rfl ok61 ⟨rfl, rfl, rfl, rfl, rfl, rfl, rfl, rfl, trivial⟩ rfl (bosketref15_Splits_spec et8)) ?_
   refine AQ.c (Calm.not rfl rfl) ?_
   refine AQ.nK [1, 2, 3, 8, 29] ?_
   rcases of_ite h with ⟨hc9, h⟩ | ⟨hc9, h⟩
   ·refine AW.condT' _ rfl hc9 ?_
    refine AW.sr ?_
    refine AO.c (Calm.assign rfl rfl) ?_
    refine AO.c (Calm.assign rfl rfl) ?_
    refine AO.nH [6, 7] (H' := []) (Sub.nil _) ?_
    refine AW.coeC 6 (y' := (.fz 1 (([] : List Bool).map eBool))) rfl Coe.nil ?_
    refine AW.rK [6, 7] ?_
    have hr := Option.some.inj h
    subst hr
    exact ⟨[(.fz 1 (([] : List Bool).map eBool)), (eBool false)], ⟨rfl, rfl, rfl, rfl, trivial⟩, rfl⟩
   ·refine AW.condF' _ rfl hc9 ?_
    refine AW.sK [1, 2, 3, 8] ?_
    refine AW.seq_mid (fun ρ H => ∃ (n10 : Nat) (x11 : (List Bool)), ρ = [(8, (.own n10 0 x11.length))] ∧ H = [(n10, (.mem (.ar 1 (x11.map eBool))))] ∧ bosketref15_Gaps_c0 k x11 = some r) ?_ ?_
    ·refine AW.sr ?_
     refine AO.c (Calm.assign rfl rfl) ?_
     refine AO.nK [1, 2, 3, 8, 10] ?_
     refine AW.block ?_
     refine AW.wK [1, 2, 3, 8, 10] ?_
     refine AW.loop (fun kq ρ H => ∃ (n12 : Nat) (x13 : (List Bool)) (b14 : Bool), ρ = [(1, (eI64 p1)), (2, (.fz 1 (p2.map eStr))), (3, (.ptr n4 0)), (8, (.own n12 0 x13.length)), (10, (eBool b14))] ∧ H = [(n4, (.mem (e30 p0))), (n12, (.mem (.ar 1 (x13.map eBool))))] ∧ bosketref15_Gaps_l3 k p0 p1 p2 kq x13 b14 = some r) k ⟨n5, x6, true, rfl, rfl, h⟩ ?_
     rintro kq16 _ _ ⟨n12, x13, b14, rfl, rfl, h⟩
     cases kq16 with
     | zero => rw [bosketref15_Gaps_l3.eq_1] at h; cases h
     | succ kq16 =>
     rw [bosketref15_Gaps_l3.eq_2] at h
     generalize hrec15 : bosketref15_Gaps_l3 k p0 p1 p2 kq16 = rec15 at h
     refine AW.seq ?_
     refine AW.sr ?_
     refine AO.c (Calm.move rfl rfl) ?_
     refine AO.nK [1, 2, 3, 8, 30] ?_
     rcases of_ite h with ⟨hc17, h⟩ | ⟨hc17, h⟩
     ·refine AW.condT' _ rfl hc17 ?_
      refine AW.sK [1, 2, 3, 8] ?_
      refine AW.block ?_
      refine AW.sr ?_
      refine AO.c (Calm.assign rfl rfl) ?_
      refine AO.nK [1, 2, 3, 8, 10] ?_
      refine AW.sr ?_
      refine AO.c (Calm.assign rfl rfl) ?_
      refine AO.nK [1, 2, 3, 8, 10, 11] ?_
      refine AW.block ?_
      refine AW.wK [1, 2, 3, 8, 10, 11] ?_
      refine AW.loop (fun kq ρ H => ∃ (n18 : Nat) (x19 : (List Bool)) (b20 : Bool) (x21 : Int), ρ = [(1, (eI64 p1)), (2, (.fz 1 (p2.map eStr))), (3, (.ptr n4 0)), (8, (.own n18 0 x19.length)), (10, (eBool b20)), (11, (eI64 x21))] ∧ H = [(n4, (.mem (e30 p0))), (n18, (.mem (.ar 1 (x19.map eBool))))] ∧ bosketref15_Gaps_l2 k rec15 p0 p1 p2 kq x19 b20 x21 = some r) k ⟨n12, x13, false, (0 : Int), rfl, rfl, h⟩ ?_
      rintro kq23 _ _ ⟨n18, x19, b20, x21, rfl, rfl, h⟩
      cases kq23 with
      | zero => rw [bosketref15_Gaps_l2.eq_1] at h; cases h
      | succ kq23 =>
      rw [bosketref15_Gaps_l2.eq_2] at h
      generalize hrec22 : bosketref15_Gaps_l2 k rec15 p0 p1 p2 kq23 = rec22 at h
      refine AW.seq ?_
      refine AW.sr ?_
      refine AO.c (Calm.move rfl rfl) ?_
      refine AO.c (Calm.move rfl rfl) ?_
      refine AO.c (Calm.lenOwn rfl rfl Try.underlying49) ?_
      refine AO.c (x := eBool (decide (x21 < (x19.length : Int)))) (Calm.int rfl rfl rfl rfl) ?_
      refine AO.nK [1, 2, 3, 8, 10, 11, 34] ?_
      rcases of_ite h with ⟨hc24, h⟩ | ⟨hc24, h⟩
      ·refine AW.condP _ rfl hc24 ?_
       refine AW.sK [1, 2, 3, 8, 10, 11] ?_
       refine AW.seq_mid (fun ρ H => ∃ (n25 : Nat) (x26 : (List Bool)) (b27 : Bool), ρ = [(1, (eI64 p1)), (2, (.fz 1 (p2.map eStr))), (3, (.ptr n4 0)), (8, (.own n25 0 x26.length)), (10, (eBool b27)), (11, (eI64 x21))] ∧ H = [(n4, (.mem (e30 p0))), (n25, (.mem (.ar 1 (x26.map eBool))))] ∧ bosketref15_Gaps_c1 k rec22 x21 x26 b27 = some r) ?_ ?_
       ·refine AW.block ?_
        refine AW.sr ?_
        refine AO.lit (Z := (eBool false)) (xs := (([] : List Bool).map eBool)) (qs := []) rfl 37 rfl (by decide) rfl trivial Try.underlying49 sz4 zr4 lay4 rfl (by decide) (litOK (z := 1) [] rfl trivial) rfl fun n28 => ?_
        refine AO.c (Calm.move rfl rfl) ?_
        obtain ⟨hg30, h⟩ := of_guard h
        refine AO.appendL (l := ([] : List Bool)) (m := x19) 0 39 rfl (by decide) rfl rfl rfl rfl rfl (Src.ownL (f := eBool) (l := x19) 2 rfl) Try.underlying49 Try.underlying49 sz4 by4 zr4 rfl hg30 (by decide) fun n29 => ?_
        refine AO.c (Calm.assign rfl rfl) ?_
        refine AO.nH [1, 2, 3, 8, 10, 11, 12] (H' := [(n4, (.mem (e30 p0))), (n18, (.mem (.ar 1 (x19.map eBool)))), (n29, (.mem (.ar 1 ((([] : List Bool) ++ x19).map eBool))))]) (Sub.cons 1 rfl (Sub.cons 1 rfl (Sub.cons 0 rfl (Sub.nil _)))) ?_
        refine AW.sr ?_
        refine AO.c (Calm.move rfl rfl) ?_
        refine AO.c (Calm.move rfl rfl) ?_
        obtain ⟨hg31, h⟩ := of_guard h
        refine AO.c (Calm.idxO 2 rfl rfl rfl rfl hg31 Try.underlying49 sz4) ?_
        refine AO.store (X' := (.ar 1 ((lset (([] : List Bool) ++ x19) x21 false).map eBool))) 2 rfl rfl rfl rfl rfl rfl (Put.cast (Put.lidx x21 false hg31.1 hg31.2 Put.here) (by omega)) rfl rfl sz4 rfl ?_
        refine AO.coe 12 (y' := (.own n29 0 (lset (([] : List Bool) ++ x19) x21 false).length)) rfl (fun _ _ h => lset_own h) ?_
        refine AO.coe 40 (y' := (.own n29 0 (lset (([] : List Bool) ++ x19) x21 false).length)) rfl (fun _ _ h => lset_own h) ?_
        refine AO.nK [1, 2, 3, 8, 10, 11, 12] ?_
        refine AW.seq ?_
        obtain ⟨b32, hq33, h⟩ := of_bind h
        refine AW.regQM (by rfl) (by decide +kernel) [(1, (eI64 p1)), (2, (.fz 1 (p2.map eStr))), (3, (.ptr n4 0)), (8, (.own n18 0 x19.length)), (10, (eBool b20)), (11, (eI64 x21)), (12, (.own n29 0 (lset (([] : List Bool) ++ x19) x21 false).length)), (55, (eBool b32))] ?_ ?_
        ·refine AQ.c (Calm.move rfl rfl) ?_
         refine AQ.c (Calm.move rfl rfl) ?_
         obtain ⟨hg34, hq33⟩ := of_guard hq33
         refine AQ.c (Calm.idxO 1 rfl rfl rfl rfl hg34 Try.underlying49 sz4) ?_
         refine AQ.c (Calm.load 1 rfl rfl rfl (At.cast (At.lidx x21 hg34.1 hg34.2 At.here) (by omega)) ag4 sz4) ?_
         refine AQ.c (Calm.move rfl rfl) ?_
         rcases of_ite hq33 with ⟨hc35, hq33⟩ | ⟨hc35, hq33⟩
         ·refine AQ.cG rfl rfl (bD hc35) (Calm.load 0 rfl rfl rfl (At.cast At.here rfl) ag30 sz30) ?_
          refine AQ.cG rfl rfl (bD hc35) (Calm.move rfl rfl) ?_
          refine AQ.cG rfl rfl (bD hc35) (Calm.move rfl rfl) ?_
          refine AQ.cG rfl rfl (bD hc35) (Calm.move rfl rfl) ?_
          obtain ⟨t36, et36, hq33⟩ := of_bind hq33
          refine AQ.cG rfl rfl (bD hc35) (Calm.callB (args := [(.fz 1 (p2.map eStr)), (.fz 1 ((lset (([] : List Bool) ++ x19) x21 false).map eBool))]) rfl rfl ok62 ⟨.inl ⟨rfl, rfl⟩, .inr ⟨_, 0, _, _, _, 2, rfl, rfl, by simp, by rw [own_all]⟩, trivial⟩ rfl (bosketref15_Join_spec et36)) ?_
          refine AQ.cG rfl rfl (bD hc35) (Calm.move rfl rfl) ?_
          obtain ⟨t37, et37, hq33⟩ := of_bind hq33
          refine AQ.cG rfl rfl (bD hc35) (Calm.call (args := [(e30 p0), (eI64 p1), (eStr t36), (.fz 1 (p2.map eStr))]) rfl rfl ok61 ⟨rfl, rfl, rfl, rfl, rfl, rfl, rfl, rfl, trivial⟩ rfl (bosketref15_Splits_spec et37)) ?_
          refine AQ.c (Calm.pickT rfl (bD hc35) rfl) ?_
          cases hq33
          refine AQ.nilE rfl ?_
          exact ⟨rfl, rfl, rfl, rfl, rfl, rfl, rfl, rfl, trivial⟩
         ·refine AQ.sT rfl rfl (bD (eq_false_of_ne_true hc35)) ?_
          refine AQ.sT rfl rfl (bD (eq_false_of_ne_true hc35)) ?_
          refine AQ.sT rfl rfl (bD (eq_false_of_ne_true hc35)) ?_
          refine AQ.sT rfl rfl (bD (eq_false_of_ne_true hc35)) ?_
          refine AQ.sT rfl rfl (bD (eq_false_of_ne_true hc35)) ?_
          refine AQ.sT rfl rfl (bD (eq_false_of_ne_true hc35)) ?_
          refine AQ.sT rfl rfl (bD (eq_false_of_ne_true hc35)) ?_
          refine AQ.c (Calm.pickF rfl (bD (eq_false_of_ne_true hc35)) rfl) ?_
          cases hq33
          refine AQ.nilE rfl ?_
          exact ⟨rfl, rfl, rfl, rfl, rfl, rfl, rfl, rfl, trivial⟩
        ·rcases of_ite h with ⟨hc38, h⟩ | ⟨hc38, h⟩
         ·refine AW.condT' _ rfl hc38 ?_
          refine AW.sr ?_
          refine AO.c (Calm.move rfl rfl) ?_
          refine AO.c (Calm.assign rfl rfl) ?_
          refine AO.nH [1, 2, 3, 8, 11] (H' := [(n4, (.mem (e30 p0))), (n29, (.mem (.ar 1 ((lset (([] : List Bool) ++ x19) x21 false).map eBool))))]) (Sub.cons 0 rfl (Sub.cons 1 rfl (Sub.nil _))) ?_
          refine AW.reg ?_
          refine AO.c (Calm.assign rfl rfl) ?_
          refine AO.nK [1, 2, 3, 8, 10, 11] ?_
          exact ⟨n29, (lset (([] : List Bool) ++ x19) x21 false), true, rfl, rfl, h⟩
         ·refine AW.condF' _ rfl hc38 ?_
          refine AW.sH [1, 2, 3, 8, 10, 11] (H' := [(n4, (.mem (e30 p0))), (n18, (.mem (.ar 1 (x19.map eBool))))]) (Sub.cons 0 rfl (Sub.cons 0 rfl (Sub.nil _))) ?_
          exact ⟨n18, x19, b20, rfl, rfl, h⟩
       ·rintro _ _ ⟨n25, x26, b27, rfl, rfl, h⟩
        rw [bosketref15_Gaps_c1.eq_1] at h
        refine AW.reg ?_
        refine AO.c (Calm.move rfl rfl) ?_
        refine AO.c (x := eI64 (w64 (x21 + (1 : Int)))) (Calm.int rfl rfl rfl rfl) ?_
        refine AO.c (Calm.assign rfl rfl) ?_
        refine AO.nK [1, 2, 3, 8, 10, 11] ?_
        exact ⟨kq23, Nat.lt_succ_self _, n25, x26, b27, (w64 (x21 + (1 : Int))), rfl, rfl, by rw [hrec22]; exact h⟩
      ·refine AW.condN _ rfl hc24 ?_
       refine AW.eK [1, 2, 3, 8, 10] ?_
       exact ⟨kq16, Nat.lt_succ_self _, n18, x19, b20, rfl, rfl, by rw [hrec15]; exact h⟩
     ·refine AW.condF' _ rfl hc17 ?_
      refine AW.eH [8] (H' := [(n12, (.mem (.ar 1 (x13.map eBool))))]) (Sub.cons 1 rfl (Sub.nil _)) ?_
      exact ⟨n12, x13, rfl, rfl, h⟩
    ·rintro _ _ ⟨n10, x11, rfl, rfl, h⟩
     rw [bosketref15_Gaps_c0.eq_1] at h
     refine AW.sr ?_
     refine AO.c (Calm.move rfl rfl) ?_
     refine AO.c (Calm.assign rfl rfl) ?_
     refine AO.c (Calm.assign rfl rfl) ?_
     refine AO.nK [6, 7] ?_
     refine AW.freezeS 0 [(6, (.fz 1 (x11.map eBool)))] rfl ⟨fz_all rfl, trivial⟩ ?_
     refine AW.rK [6, 7] ?_
     have hr := Option.some.inj h
     subst hr
     exact ⟨[(.fz 1 (x11.map eBool)), (eBool true)], ⟨rfl, rfl, rfl, rfl, trivial⟩, rfl⟩
end Go.Avl.T5
/- bosket/bosketlaw15.few; printed by avmain.py. -/
namespace Go.Avl.T5
open Go Go.RowKit Go.Proofs Go.Avl
set_option linter.unusedVariables false
set_option maxRecDepth 100000
set_option maxHeartbeats 4000000
attribute [local irreducible] AW AO AQ Spec SpecH Calm

def bosketlaw15_few_c0 (k : Nat) : Option Bool :=
  some (true)
def bosketlaw15_few_l1 (k : Nat) (p0 : (List ByteArray)) : Nat → Int → Option Bool
  | 0, _ => none
  | j + 1, x3 =>
    if x3 < (p0.length : Int) then if 0 ≤ x3 ∧ x3 < (p0.length : Int) then if (8 : Int) < ((lget p0 x3).size : Int) then some (false)
    else (bosketlaw15_few_l1 k p0 j) (w64 (x3 + (1 : Int)))
    else none
    else bosketlaw15_few_c0 k
def bosketlaw15_few (k : Nat) (p0 : (List ByteArray)) : Option Bool :=
  if (8 : Int) < (p0.length : Int) then some (false)
  else bosketlaw15_few_l1 k p0 k (0 : Int)
theorem bosketlaw15_few_spec {k : Nat} {p0 : (List ByteArray)} {r : Bool} (h : bosketlaw15_few k p0 = some r) : Spec Try.prog 26 [(.fz 1 (p0.map eStr))] (eBool r) := by
  rw [bosketlaw15_few.eq_1] at h
  refine Spec.intro (res := [.tmp 2]) Try.func26 rfl rfl rfl (Nat.le_of_ble_eq_true rfl) ?_
  refine AW.sr ?_
  refine AO.c (Calm.assign rfl rfl) ?_
  refine AO.nK [0] ?_
  refine AW.seq ?_
  refine AW.sr ?_
  refine AO.c (Calm.move rfl rfl) ?_
  refine AO.c (Calm.lenL rfl rfl Try.underlying53) ?_
  refine AO.c (x := eBool (decide ((8 : Int) < (p0.length : Int)))) (Calm.int rfl rfl rfl rfl) ?_
  refine AO.nK [0, 6] ?_
  rcases of_ite h with ⟨hc2, h⟩ | ⟨hc2, h⟩
  ·refine AW.condP _ rfl hc2 ?_
   refine AW.sr ?_
   refine AO.c (Calm.assign rfl rfl) ?_
   refine AO.nK [2] ?_
   refine AW.rK [2] ?_
   have hr := Option.some.inj h
   subst hr
   exact ⟨[(eBool false)], ⟨rfl, rfl, trivial⟩, rfl⟩
  ·refine AW.condN _ rfl hc2 ?_
   refine AW.sK [0] ?_
   refine AW.seq_mid (fun ρ H => ρ = [] ∧ H = [] ∧ bosketlaw15_few_c0 k = some r) ?_ ?_
   ·refine AW.sr ?_
    refine AO.c (Calm.assign rfl rfl) ?_
    refine AO.nK [0, 3] ?_
    refine AW.block ?_
    refine AW.wK [0, 3] ?_
    refine AW.loop (fun kq ρ H => ∃ (x3 : Int), ρ = [(0, (.fz 1 (p0.map eStr))), (3, (eI64 x3))] ∧ H = [] ∧ bosketlaw15_few_l1 k p0 kq x3 = some r) k ⟨(0 : Int), rfl, rfl, h⟩ ?_
    rintro kq5 _ _ ⟨x3, rfl, rfl, h⟩
    cases kq5 with
    | zero => rw [bosketlaw15_few_l1.eq_1] at h; cases h
    | succ kq5 =>
    rw [bosketlaw15_few_l1.eq_2] at h
    generalize hrec4 : bosketlaw15_few_l1 k p0 kq5 = rec4 at h
    refine AW.seq ?_
    refine AW.sr ?_
    refine AO.c (Calm.move rfl rfl) ?_
    refine AO.c (Calm.move rfl rfl) ?_
    refine AO.c (Calm.lenL rfl rfl Try.underlying53) ?_
    refine AO.c (x := eBool (decide (x3 < (p0.length : Int)))) (Calm.int rfl rfl rfl rfl) ?_
    refine AO.nK [0, 3, 10] ?_
    rcases of_ite h with ⟨hc6, h⟩ | ⟨hc6, h⟩
    ·refine AW.condP _ rfl hc6 ?_
     refine AW.sK [0, 3] ?_
     refine AW.seq ?_
     refine AW.block ?_
     refine AW.sr ?_
     refine AO.c (Calm.move rfl rfl) ?_
     refine AO.c (Calm.move rfl rfl) ?_
     obtain ⟨hg7, h⟩ := of_guard h
     refine AO.c (Calm.idxL (f := eStr) rfl rfl rfl hg7 Try.underlying53 sz9) ?_
     refine AO.c (Calm.loadRp rfl rfl ag9 sz9) ?_
     refine AO.c (Calm.lenStr rfl rfl Try.underlying9) ?_
     refine AO.c (x := eBool (decide ((8 : Int) < ((lget p0 x3).size : Int)))) (Calm.int rfl rfl rfl rfl) ?_
     refine AO.nK [0, 3, 18] ?_
     rcases of_ite h with ⟨hc8, h⟩ | ⟨hc8, h⟩
     ·refine AW.condP _ rfl hc8 ?_
      refine AW.sr ?_
      refine AO.c (Calm.assign rfl rfl) ?_
      refine AO.nK [2] ?_
      refine AW.rK [2] ?_
      have hr := Option.some.inj h
      subst hr
      exact ⟨[(eBool false)], ⟨rfl, rfl, trivial⟩, rfl⟩
     ·refine AW.condN _ rfl hc8 ?_
      refine AW.sK [0, 3] ?_
      refine AW.reg ?_
      refine AO.c (Calm.move rfl rfl) ?_
      refine AO.c (x := eI64 (w64 (x3 + (1 : Int)))) (Calm.int rfl rfl rfl rfl) ?_
      refine AO.c (Calm.assign rfl rfl) ?_
      refine AO.nK [0, 3] ?_
      exact ⟨kq5, Nat.lt_succ_self _, (w64 (x3 + (1 : Int))), rfl, rfl, by rw [hrec4]; exact h⟩
    ·refine AW.condN _ rfl hc6 ?_
     refine AW.eK [] ?_
     exact ⟨rfl, rfl, h⟩
   ·rintro _ _ ⟨rfl, rfl, h⟩
    rw [bosketlaw15_few_c0.eq_1] at h
    refine AW.sr ?_
    refine AO.c (Calm.assign rfl rfl) ?_
    refine AO.nK [2] ?_
    refine AW.rK [2] ?_
    have hr := Option.some.inj h
    subst hr
    exact ⟨[(eBool true)], ⟨rfl, rfl, trivial⟩, rfl⟩
end Go.Avl.T5
/- bosket/bosketref06.Same; printed by avmain.py. -/
namespace Go.Avl.T5
open Go Go.RowKit Go.Proofs Go.Avl
set_option linter.unusedVariables false
set_option maxRecDepth 100000
set_option maxHeartbeats 4000000
attribute [local irreducible] AW AO AQ Spec SpecH Calm

def bosketref06_Same_c0 (k : Nat) : Option Bool :=
  some (true)
def bosketref06_Same_l1 (k : Nat) (p0 : (List Bool)) (p1 : (List Bool)) : Nat → Int → Option Bool
  | 0, _ => none
  | j + 1, x4 =>
    if x4 < (p0.length : Int) then if 0 ≤ x4 ∧ x4 < (p0.length : Int) then if 0 ≤ x4 ∧ x4 < (p1.length : Int) then if ((lget p0 x4) != (lget p1 x4)) = true then some (false)
    else (bosketref06_Same_l1 k p0 p1 j) (w64 (x4 + (1 : Int)))
    else none
    else none
    else bosketref06_Same_c0 k
def bosketref06_Same (k : Nat) (p0 : (List Bool)) (p1 : (List Bool)) : Option Bool :=
  if (p0.length : Int) ≠ (p1.length : Int) then some (false)
  else bosketref06_Same_l1 k p0 p1 k (0 : Int)
theorem bosketref06_Same_spec {k : Nat} {p0 : (List Bool)} {p1 : (List Bool)} {r : Bool} (h : bosketref06_Same k p0 p1 = some r) : Spec Try.prog 29 [(.fz 1 (p0.map eBool)), (.fz 1 (p1.map eBool))] (eBool r) := by
  rw [bosketref06_Same.eq_1] at h
  refine Spec.intro (res := [.tmp 4]) Try.func29 rfl rfl rfl (Nat.le_of_ble_eq_true rfl) ?_
  refine AW.sr ?_
  refine AO.c (Calm.assign rfl rfl) ?_
  refine AO.nK [0, 1] ?_
  refine AW.seq ?_
  refine AW.sr ?_
  refine AO.c (Calm.move rfl rfl) ?_
  refine AO.c (Calm.lenL rfl rfl Try.underlying49) ?_
  refine AO.c (Calm.move rfl rfl) ?_
  refine AO.c (Calm.lenL rfl rfl Try.underlying49) ?_
  refine AO.c (x := eBool (decide ((p0.length : Int) ≠ (p1.length : Int)))) (Calm.int rfl rfl rfl rfl) ?_
  refine AO.nK [0, 1, 10] ?_
  rcases of_ite h with ⟨hc3, h⟩ | ⟨hc3, h⟩
  ·refine AW.condP _ rfl hc3 ?_
   refine AW.sr ?_
   refine AO.c (Calm.assign rfl rfl) ?_
   refine AO.nK [4] ?_
   refine AW.rK [4] ?_
   have hr := Option.some.inj h
   subst hr
   exact ⟨[(eBool false)], ⟨rfl, rfl, trivial⟩, rfl⟩
  ·refine AW.condN _ rfl hc3 ?_
   refine AW.sK [0, 1] ?_
   refine AW.seq_mid (fun ρ H => ρ = [] ∧ H = [] ∧ bosketref06_Same_c0 k = some r) ?_ ?_
   ·refine AW.sr ?_
    refine AO.c (Calm.assign rfl rfl) ?_
    refine AO.nK [0, 1, 5] ?_
    refine AW.block ?_
    refine AW.wK [0, 1, 5] ?_
    refine AW.loop (fun kq ρ H => ∃ (x4 : Int), ρ = [(0, (.fz 1 (p0.map eBool))), (1, (.fz 1 (p1.map eBool))), (5, (eI64 x4))] ∧ H = [] ∧ bosketref06_Same_l1 k p0 p1 kq x4 = some r) k ⟨(0 : Int), rfl, rfl, h⟩ ?_
    rintro kq6 _ _ ⟨x4, rfl, rfl, h⟩
    cases kq6 with
    | zero => rw [bosketref06_Same_l1.eq_1] at h; cases h
    | succ kq6 =>
    rw [bosketref06_Same_l1.eq_2] at h
    generalize hrec5 : bosketref06_Same_l1 k p0 p1 kq6 = rec5 at h
    refine AW.seq ?_
    refine AW.sr ?_
    refine AO.c (Calm.move rfl rfl) ?_
    refine AO.c (Calm.move rfl rfl) ?_
    refine AO.c (Calm.lenL rfl rfl Try.underlying49) ?_
    refine AO.c (x := eBool (decide (x4 < (p0.length : Int)))) (Calm.int rfl rfl rfl rfl) ?_
    refine AO.nK [0, 1, 5, 14] ?_
    rcases of_ite h with ⟨hc7, h⟩ | ⟨hc7, h⟩
    ·refine AW.condP _ rfl hc7 ?_
     refine AW.sK [0, 1, 5] ?_
     refine AW.seq ?_
     refine AW.block ?_
     refine AW.seq ?_
     refine AW.regQ (by rfl) (by decide +kernel) ?_
     refine AQ.c (Calm.move rfl rfl) ?_
     refine AQ.c (Calm.move rfl rfl) ?_
     obtain ⟨hg8, h⟩ := of_guard h
     refine AQ.c (Calm.idxL (f := eBool) rfl rfl rfl hg8 Try.underlying49 sz4) ?_
     refine AQ.c (Calm.loadRp rfl rfl ag4 sz4) ?_
     refine AQ.c (Calm.move rfl rfl) ?_
     refine AQ.c (Calm.move rfl rfl) ?_
     obtain ⟨hg9, h⟩ := of_guard h
     refine AQ.c (Calm.idxL (f := eBool) rfl rfl rfl hg9 Try.underlying49 sz4) ?_
     refine AQ.c (Calm.loadRp rfl rfl ag4 sz4) ?_
     refine AQ.c (x := eBool ((lget p0 x4) != (lget p1 x4))) (Calm.boolNe rfl rfl rfl Try.underlying4) ?_
     refine AQ.nK [0, 1, 5, 25] ?_
     rcases of_ite h with ⟨hc10, h⟩ | ⟨hc10, h⟩
     ·refine AW.condT' _ rfl hc10 ?_
      refine AW.sr ?_
      refine AO.c (Calm.assign rfl rfl) ?_
      refine AO.nK [4] ?_
      refine AW.rK [4] ?_
      have hr := Option.some.inj h
      subst hr
      exact ⟨[(eBool false)], ⟨rfl, rfl, trivial⟩, rfl⟩
     ·refine AW.condF' _ rfl hc10 ?_
      refine AW.sK [0, 1, 5] ?_
      refine AW.reg ?_
      refine AO.c (Calm.move rfl rfl) ?_
      refine AO.c (x := eI64 (w64 (x4 + (1 : Int)))) (Calm.int rfl rfl rfl rfl) ?_
      refine AO.c (Calm.assign rfl rfl) ?_
      refine AO.nK [0, 1, 5] ?_
      exact ⟨kq6, Nat.lt_succ_self _, (w64 (x4 + (1 : Int))), rfl, rfl, by rw [hrec5]; exact h⟩
    ·refine AW.condN _ rfl hc7 ?_
     refine AW.eK [] ?_
     exact ⟨rfl, rfl, h⟩
   ·rintro _ _ ⟨rfl, rfl, h⟩
    rw [bosketref06_Same_c0.eq_1] at h
    refine AW.sr ?_
    refine AO.c (Calm.assign rfl rfl) ?_
    refine AO.nK [4] ?_
    refine AW.rK [4] ?_
    have hr := Option.some.inj h
    subst hr
    exact ⟨[(eBool true)], ⟨rfl, rfl, trivial⟩, rfl⟩
end Go.Avl.T5
/- bosket/bosketlaw15.machine; printed by avmain.py. -/
namespace Go.Avl.T5
open Go Go.RowKit Go.Proofs Go.Avl
set_option linter.unusedVariables false
set_option maxRecDepth 100000
set_option maxHeartbeats 4000000
attribute [local irreducible] AW AO AQ Spec SpecH Calm

def bosketlaw15_machine (k : Nat) : Option S30 :=
  some ((S30.mk (vset (vset (vset (Vector.replicate 256 (0 : Int)) (97 : Int) (1 : Int)) (32 : Int) (2 : Int)) (10 : Int) (2 : Int)) ([[(-1 : Int), (1 : Int), (3 : Int)], [(-1 : Int), (2 : Int), (-1 : Int)], [(-1 : Int), (-1 : Int), (-1 : Int)], [(-1 : Int), (-1 : Int), (3 : Int)]] : List (List Int)) ([(-1 : Int), (0 : Int), (1 : Int), (2 : Int)] : List Int)))
theorem bosketlaw15_machine_spec {k : Nat}  {r : S30} (h : bosketlaw15_machine k = some r) : Spec Try.prog 57 [] (e30 r) := by
  rw [bosketlaw15_machine.eq_1] at h
  refine Spec.intro (res := [.cell 0 30]) Try.func57 rfl rfl rfl (Nat.le_of_ble_eq_true rfl) ?_
  refine AW.sr ?_
  refine AO.alloc rfl 0 rfl (by decide) rfl zr30 lay30 fun n1 => ?_
  refine AO.nK [0] ?_
  refine AW.sr ?_
  refine AO.alloc rfl 1 rfl (by decide) rfl zr30 lay30 fun n2 => ?_
  refine AO.nH [0, 1] (H' := [(n1, (.mem (.st [(256, (.ar 1 ((Vector.replicate 256 (0 : Int)).toList.map eU8))), (1, (.fl (.slice none 0 0))), (1, (.fl (.slice none 0 0)))]))), (n2, (.mem (.st [(256, (.ar 1 ((Vector.replicate 256 (0 : Int)).toList.map eU8))), (1, (.fl (.slice none 0 0))), (1, (.fl (.slice none 0 0)))])))]) (Sub.cons 1 rfl (Sub.cons 0 rfl (Sub.nil _))) ?_
  refine AW.sr ?_
  refine AO.c (x := .ptr n2 0) (Calm.fldPtr rfl rfl Try.underlying30 rfl sz27 _ rfl) ?_
  refine AO.c (Calm.idxP rfl rfl rfl (by decide) Try.underlying27 sz5) ?_
  refine AO.store (X' := (.st [(256, (.ar 1 ((vset (Vector.replicate 256 (0 : Int)) (97 : Int) (1 : Int)).toList.map eU8))), (1, (.fl (.slice none 0 0))), (1, (.fl (.slice none 0 0)))])) 1 rfl rfl rfl rfl rfl rfl (Put.cast (Put.fld0 (Put.vidx (97 : Int) (1 : Int) (by decide) (by decide) Put.here)) (by omega)) rfl rfl sz5 rfl ?_
  refine AO.c (x := .ptr n2 0) (Calm.fldPtr rfl rfl Try.underlying30 rfl sz27 _ rfl) ?_
  refine AO.c (Calm.idxP rfl rfl rfl (by decide) Try.underlying27 sz5) ?_
  refine AO.store (X' := (.st [(256, (.ar 1 ((vset (vset (Vector.replicate 256 (0 : Int)) (97 : Int) (1 : Int)) (32 : Int) (2 : Int)).toList.map eU8))), (1, (.fl (.slice none 0 0))), (1, (.fl (.slice none 0 0)))])) 1 rfl rfl rfl rfl rfl rfl (Put.cast (Put.fld0 (Put.vidx (32 : Int) (2 : Int) (by decide) (by decide) Put.here)) (by omega)) rfl rfl sz5 rfl ?_
  refine AO.c (x := .ptr n2 0) (Calm.fldPtr rfl rfl Try.underlying30 rfl sz27 _ rfl) ?_
  refine AO.c (Calm.idxP rfl rfl rfl (by decide) Try.underlying27 sz5) ?_
  refine AO.store (X' := (.st [(256, (.ar 1 ((vset (vset (vset (Vector.replicate 256 (0 : Int)) (97 : Int) (1 : Int)) (32 : Int) (2 : Int)) (10 : Int) (2 : Int)).toList.map eU8))), (1, (.fl (.slice none 0 0))), (1, (.fl (.slice none 0 0)))])) 1 rfl rfl rfl rfl rfl rfl (Put.cast (Put.fld0 (Put.vidx (10 : Int) (2 : Int) (by decide) (by decide) Put.here)) (by omega)) rfl rfl sz5 rfl ?_
  refine AO.nK [0, 1] ?_
  refine AW.sr ?_
  refine AO.lit (Z := (eI64 (0 : Int))) (xs := (([(-1 : Int), (1 : Int), (3 : Int)] : List Int).map eI64)) (qs := [(0, (eI64 (-1 : Int))), (1, (eI64 (1 : Int))), (2, (eI64 (3 : Int)))]) rfl 8 rfl (by decide) rfl ⟨rfl, rfl, rfl, rfl, rfl, rfl, rfl, rfl, rfl, trivial⟩ Try.underlying25 sz3 zr3 lay3 rfl (by decide) (litOK (z := 1) [(eI64 (-1 : Int)), (eI64 (1 : Int)), (eI64 (3 : Int))] rfl ⟨⟨rfl, rfl⟩, ⟨rfl, rfl⟩, ⟨rfl, rfl⟩, trivial⟩) rfl fun n3 => ?_
  refine AO.lit (Z := (eI64 (0 : Int))) (xs := (([(-1 : Int), (2 : Int), (-1 : Int)] : List Int).map eI64)) (qs := [(0, (eI64 (-1 : Int))), (1, (eI64 (2 : Int))), (2, (eI64 (-1 : Int)))]) rfl 9 rfl (by decide) rfl ⟨rfl, rfl, rfl, rfl, rfl, rfl, rfl, rfl, rfl, trivial⟩ Try.underlying25 sz3 zr3 lay3 rfl (by decide) (litOK (z := 1) [(eI64 (-1 : Int)), (eI64 (2 : Int)), (eI64 (-1 : Int))] rfl ⟨⟨rfl, rfl⟩, ⟨rfl, rfl⟩, ⟨rfl, rfl⟩, trivial⟩) rfl fun n4 => ?_
  refine AO.lit (Z := (eI64 (0 : Int))) (xs := (([(-1 : Int), (-1 : Int), (-1 : Int)] : List Int).map eI64)) (qs := [(0, (eI64 (-1 : Int))), (1, (eI64 (-1 : Int))), (2, (eI64 (-1 : Int)))]) rfl 10 rfl (by decide) rfl ⟨rfl, rfl, rfl, rfl, rfl, rfl, rfl, rfl, rfl, trivial⟩ Try.underlying25 sz3 zr3 lay3 rfl (by decide) (litOK (z := 1) [(eI64 (-1 : Int)), (eI64 (-1 : Int)), (eI64 (-1 : Int))] rfl ⟨⟨rfl, rfl⟩, ⟨rfl, rfl⟩, ⟨rfl, rfl⟩, trivial⟩) rfl fun n5 => ?_
  refine AO.lit (Z := (eI64 (0 : Int))) (xs := (([(-1 : Int), (-1 : Int), (3 : Int)] : List Int).map eI64)) (qs := [(0, (eI64 (-1 : Int))), (1, (eI64 (-1 : Int))), (2, (eI64 (3 : Int)))]) rfl 11 rfl (by decide) rfl ⟨rfl, rfl, rfl, rfl, rfl, rfl, rfl, rfl, rfl, trivial⟩ Try.underlying25 sz3 zr3 lay3 rfl (by decide) (litOK (z := 1) [(eI64 (-1 : Int)), (eI64 (-1 : Int)), (eI64 (3 : Int))] rfl ⟨⟨rfl, rfl⟩, ⟨rfl, rfl⟩, ⟨rfl, rfl⟩, trivial⟩) rfl fun n6 => ?_
  refine AO.freezeS 3 [(8, (.fz 1 (([(-1 : Int), (1 : Int), (3 : Int)] : List Int).map eI64)))] rfl ⟨fz_all rfl, trivial⟩ ?_
  refine AO.freezeS 2 [(9, (.fz 1 (([(-1 : Int), (2 : Int), (-1 : Int)] : List Int).map eI64)))] rfl ⟨fz_all rfl, trivial⟩ ?_
  refine AO.freezeS 1 [(10, (.fz 1 (([(-1 : Int), (-1 : Int), (-1 : Int)] : List Int).map eI64)))] rfl ⟨fz_all rfl, trivial⟩ ?_
  refine AO.freezeS 0 [(11, (.fz 1 (([(-1 : Int), (-1 : Int), (3 : Int)] : List Int).map eI64)))] rfl ⟨fz_all rfl, trivial⟩ ?_
  refine AO.lit (Z := (.fl (.slice none 0 0))) (xs := (([[(-1 : Int), (1 : Int), (3 : Int)], [(-1 : Int), (2 : Int), (-1 : Int)], [(-1 : Int), (-1 : Int), (-1 : Int)], [(-1 : Int), (-1 : Int), (3 : Int)]] : List (List Int)).map e25)) (qs := [(0, (.fz 1 (([(-1 : Int), (1 : Int), (3 : Int)] : List Int).map eI64))), (1, (.fz 1 (([(-1 : Int), (2 : Int), (-1 : Int)] : List Int).map eI64))), (2, (.fz 1 (([(-1 : Int), (-1 : Int), (-1 : Int)] : List Int).map eI64))), (3, (.fz 1 (([(-1 : Int), (-1 : Int), (3 : Int)] : List Int).map eI64)))]) rfl 12 rfl (by decide) rfl ⟨rfl, rfl, rfl, rfl, rfl, rfl, rfl, rfl, rfl, rfl, rfl, rfl, trivial⟩ Try.underlying28 sz25 zr25 lay25 rfl (by decide) (litOK (z := 1) [(.fz 1 (([(-1 : Int), (1 : Int), (3 : Int)] : List Int).map eI64)), (.fz 1 (([(-1 : Int), (2 : Int), (-1 : Int)] : List Int).map eI64)), (.fz 1 (([(-1 : Int), (-1 : Int), (-1 : Int)] : List Int).map eI64)), (.fz 1 (([(-1 : Int), (-1 : Int), (3 : Int)] : List Int).map eI64))] rfl ⟨⟨rfl, rfl⟩, ⟨rfl, rfl⟩, ⟨rfl, rfl⟩, ⟨rfl, rfl⟩, trivial⟩) rfl fun n7 => ?_
  refine AO.c (x := .ptr n2 256) (Calm.fldPtr rfl rfl Try.underlying30 rfl sz28 _ rfl) ?_
  refine AO.store (X' := (.st [(256, (.ar 1 ((vset (vset (vset (Vector.replicate 256 (0 : Int)) (97 : Int) (1 : Int)) (32 : Int) (2 : Int)) (10 : Int) (2 : Int)).toList.map eU8))), (1, (.own n7 0 ([[(-1 : Int), (1 : Int), (3 : Int)], [(-1 : Int), (2 : Int), (-1 : Int)], [(-1 : Int), (-1 : Int), (-1 : Int)], [(-1 : Int), (-1 : Int), (3 : Int)]] : List (List Int)).length)), (1, (.fl (.slice none 0 0)))])) 2 rfl rfl rfl rfl rfl rfl (Put.cast (Put.fldS (Put.fld0 Put.here)) rfl) rfl rfl sz28 rfl ?_
  refine AO.nH [0, 1] (H' := [(n1, (.mem (.st [(256, (.ar 1 ((Vector.replicate 256 (0 : Int)).toList.map eU8))), (1, (.fl (.slice none 0 0))), (1, (.fl (.slice none 0 0)))]))), (n2, (.mem (.st [(256, (.ar 1 ((vset (vset (vset (Vector.replicate 256 (0 : Int)) (97 : Int) (1 : Int)) (32 : Int) (2 : Int)) (10 : Int) (2 : Int)).toList.map eU8))), (1, (.own n7 0 ([[(-1 : Int), (1 : Int), (3 : Int)], [(-1 : Int), (2 : Int), (-1 : Int)], [(-1 : Int), (-1 : Int), (-1 : Int)], [(-1 : Int), (-1 : Int), (3 : Int)]] : List (List Int)).length)), (1, (.fl (.slice none 0 0)))]))), (n7, (.mem (.ar 1 (([[(-1 : Int), (1 : Int), (3 : Int)], [(-1 : Int), (2 : Int), (-1 : Int)], [(-1 : Int), (-1 : Int), (-1 : Int)], [(-1 : Int), (-1 : Int), (3 : Int)]] : List (List Int)).map e25))))]) (Sub.cons 1 rfl (Sub.cons 1 rfl (Sub.cons 0 rfl (Sub.nil _)))) ?_
  refine AW.sr ?_
  refine AO.lit (Z := (eI64 (0 : Int))) (xs := (([(-1 : Int), (0 : Int), (1 : Int), (2 : Int)] : List Int).map eI64)) (qs := [(0, (eI64 (-1 : Int))), (1, (eI64 (0 : Int))), (2, (eI64 (1 : Int))), (3, (eI64 (2 : Int)))]) rfl 14 rfl (by decide) rfl ⟨rfl, rfl, rfl, rfl, rfl, rfl, rfl, rfl, rfl, rfl, rfl, rfl, trivial⟩ Try.underlying25 sz3 zr3 lay3 rfl (by decide) (litOK (z := 1) [(eI64 (-1 : Int)), (eI64 (0 : Int)), (eI64 (1 : Int)), (eI64 (2 : Int))] rfl ⟨⟨rfl, rfl⟩, ⟨rfl, rfl⟩, ⟨rfl, rfl⟩, ⟨rfl, rfl⟩, trivial⟩) rfl fun n8 => ?_
  refine AO.c (x := .ptr n2 257) (Calm.fldPtr rfl rfl Try.underlying30 rfl sz25 _ rfl) ?_
  refine AO.store (X' := (.st [(256, (.ar 1 ((vset (vset (vset (Vector.replicate 256 (0 : Int)) (97 : Int) (1 : Int)) (32 : Int) (2 : Int)) (10 : Int) (2 : Int)).toList.map eU8))), (1, (.own n7 0 ([[(-1 : Int), (1 : Int), (3 : Int)], [(-1 : Int), (2 : Int), (-1 : Int)], [(-1 : Int), (-1 : Int), (-1 : Int)], [(-1 : Int), (-1 : Int), (3 : Int)]] : List (List Int)).length)), (1, (.own n8 0 ([(-1 : Int), (0 : Int), (1 : Int), (2 : Int)] : List Int).length))])) 2 rfl rfl rfl rfl rfl rfl (Put.cast (Put.fldS (Put.fldS (Put.fld0 Put.here))) rfl) rfl rfl sz25 rfl ?_
  refine AO.nH [0, 1] (H' := [(n1, (.mem (.st [(256, (.ar 1 ((Vector.replicate 256 (0 : Int)).toList.map eU8))), (1, (.fl (.slice none 0 0))), (1, (.fl (.slice none 0 0)))]))), (n2, (.mem (.st [(256, (.ar 1 ((vset (vset (vset (Vector.replicate 256 (0 : Int)) (97 : Int) (1 : Int)) (32 : Int) (2 : Int)) (10 : Int) (2 : Int)).toList.map eU8))), (1, (.own n7 0 ([[(-1 : Int), (1 : Int), (3 : Int)], [(-1 : Int), (2 : Int), (-1 : Int)], [(-1 : Int), (-1 : Int), (-1 : Int)], [(-1 : Int), (-1 : Int), (3 : Int)]] : List (List Int)).length)), (1, (.own n8 0 ([(-1 : Int), (0 : Int), (1 : Int), (2 : Int)] : List Int).length))]))), (n7, (.mem (.ar 1 (([[(-1 : Int), (1 : Int), (3 : Int)], [(-1 : Int), (2 : Int), (-1 : Int)], [(-1 : Int), (-1 : Int), (-1 : Int)], [(-1 : Int), (-1 : Int), (3 : Int)]] : List (List Int)).map e25)))), (n8, (.mem (.ar 1 (([(-1 : Int), (0 : Int), (1 : Int), (2 : Int)] : List Int).map eI64))))]) (Sub.cons 1 rfl (Sub.cons 1 rfl (Sub.cons 1 rfl (Sub.cons 0 rfl (Sub.nil _))))) ?_
  refine AW.sr ?_
  refine AO.freezeFld (X' := (.st [(256, (.ar 1 ((vset (vset (vset (Vector.replicate 256 (0 : Int)) (97 : Int) (1 : Int)) (32 : Int) (2 : Int)) (10 : Int) (2 : Int)).toList.map eU8))), (1, (.fz 1 (([[(-1 : Int), (1 : Int), (3 : Int)], [(-1 : Int), (2 : Int), (-1 : Int)], [(-1 : Int), (-1 : Int), (-1 : Int)], [(-1 : Int), (-1 : Int), (3 : Int)]] : List (List Int)).map e25))), (1, (.own n8 0 ([(-1 : Int), (0 : Int), (1 : Int), (2 : Int)] : List Int).length))])) (els' := (([[(-1 : Int), (1 : Int), (3 : Int)], [(-1 : Int), (2 : Int), (-1 : Int)], [(-1 : Int), (-1 : Int), (-1 : Int)], [(-1 : Int), (-1 : Int), (3 : Int)]] : List (List Int)).map e25)) 2 1 rfl rfl (Put.cast (Put.fldS (Put.fld0 Put.here)) rfl) (by simp) (by rw [own_all]) rfl rfl (by decide) ?_
  refine AO.freezeFld (X' := (.st [(256, (.ar 1 ((vset (vset (vset (Vector.replicate 256 (0 : Int)) (97 : Int) (1 : Int)) (32 : Int) (2 : Int)) (10 : Int) (2 : Int)).toList.map eU8))), (1, (.fz 1 (([[(-1 : Int), (1 : Int), (3 : Int)], [(-1 : Int), (2 : Int), (-1 : Int)], [(-1 : Int), (-1 : Int), (-1 : Int)], [(-1 : Int), (-1 : Int), (3 : Int)]] : List (List Int)).map e25))), (1, (.fz 1 (([(-1 : Int), (0 : Int), (1 : Int), (2 : Int)] : List Int).map eI64)))])) (els' := (([(-1 : Int), (0 : Int), (1 : Int), (2 : Int)] : List Int).map eI64)) 2 1 rfl rfl (Put.cast (Put.fldS (Put.fldS (Put.fld0 Put.here))) rfl) (by simp) (by rw [own_all]) rfl rfl (by decide) ?_
  refine AO.c (x := e30 (S30.mk (vset (vset (vset (Vector.replicate 256 (0 : Int)) (97 : Int) (1 : Int)) (32 : Int) (2 : Int)) (10 : Int) (2 : Int)) ([[(-1 : Int), (1 : Int), (3 : Int)], [(-1 : Int), (2 : Int), (-1 : Int)], [(-1 : Int), (-1 : Int), (-1 : Int)], [(-1 : Int), (-1 : Int), (3 : Int)]] : List (List Int)) ([(-1 : Int), (0 : Int), (1 : Int), (2 : Int)] : List Int))) (Calm.load 1 rfl rfl rfl (At.cast At.here rfl) ag30 sz30) ?_
  refine AO.store (X' := (e30 (S30.mk (vset (vset (vset (Vector.replicate 256 (0 : Int)) (97 : Int) (1 : Int)) (32 : Int) (2 : Int)) (10 : Int) (2 : Int)) ([[(-1 : Int), (1 : Int), (3 : Int)], [(-1 : Int), (2 : Int), (-1 : Int)], [(-1 : Int), (-1 : Int), (-1 : Int)], [(-1 : Int), (-1 : Int), (3 : Int)]] : List (List Int)) ([(-1 : Int), (0 : Int), (1 : Int), (2 : Int)] : List Int)))) 0 rfl rfl rfl rfl rfl rfl (Put.cast Put.here rfl) rfl rfl sz30 rfl ?_
  refine AO.nH [0] (H' := [(n1, (.mem (e30 (S30.mk (vset (vset (vset (Vector.replicate 256 (0 : Int)) (97 : Int) (1 : Int)) (32 : Int) (2 : Int)) (10 : Int) (2 : Int)) ([[(-1 : Int), (1 : Int), (3 : Int)], [(-1 : Int), (2 : Int), (-1 : Int)], [(-1 : Int), (-1 : Int), (-1 : Int)], [(-1 : Int), (-1 : Int), (3 : Int)]] : List (List Int)) ([(-1 : Int), (0 : Int), (1 : Int), (2 : Int)] : List Int)))))]) (Sub.cons 0 rfl (Sub.nil _)) ?_
  refine AW.rK [0] ?_
  have hr := Option.some.inj h
  subst hr
  exact ⟨[(e30 (S30.mk (vset (vset (vset (Vector.replicate 256 (0 : Int)) (97 : Int) (1 : Int)) (32 : Int) (2 : Int)) (10 : Int) (2 : Int)) ([[(-1 : Int), (1 : Int), (3 : Int)], [(-1 : Int), (2 : Int), (-1 : Int)], [(-1 : Int), (-1 : Int), (-1 : Int)], [(-1 : Int), (-1 : Int), (3 : Int)]] : List (List Int)) ([(-1 : Int), (0 : Int), (1 : Int), (2 : Int)] : List Int)))], ⟨⟨_, 0, rfl, rfl, ag30, sz30⟩, trivial⟩, rfl⟩
end Go.Avl.T5
/- bosket/dfa.Run; printed by avmain.py. -/
namespace Go.Avl.T5
open Go Go.RowKit Go.Proofs Go.Avl
set_option linter.unusedVariables false
set_option maxRecDepth 100000
set_option maxHeartbeats 4000000
attribute [local irreducible] AW AO AQ Spec SpecH Calm

def dfa_Run_c0 (k : Nat) (x5 : Int) : Option Int :=
  some (x5)
def dfa_Run_l1 (k : Nat) (p0 : S30) (p2 : ByteArray) : Nat → Int → Int → Option Int
  | 0, _, _ => none
  | j + 1, x6, x7 =>
    Option.bind (α := Bool) (if x7 < (p2.size : Int) then some (decide (x6 ≠ (-1 : Int)))
    else some (false)) fun b10 =>
    if b10 = true then if 0 ≤ x7 ∧ x7 < (p2.size : Int) then (dfa_Step k p0 x6 (byteAt p2 x7)).bind fun t15 =>
    (dfa_Run_l1 k p0 p2 j) t15 (w64 (x7 + (1 : Int)))
    else none
    else dfa_Run_c0 k x6
def dfa_Run (k : Nat) (p0 : S30) (p1 : Int) (p2 : ByteArray) : Option Int :=
  dfa_Run_l1 k p0 p2 k p1 (0 : Int)
theorem dfa_Run_spec {k : Nat} {p0 : S30} {p1 : Int} {p2 : ByteArray} {r : Int} (h : dfa_Run k p0 p1 p2 = some r) : Spec Try.prog 101 [(e30 p0), (eI64 p1), (eStr p2)] (eI64 r) := by
  rw [dfa_Run.eq_1] at h
  refine Spec.intro (res := [.tmp 6]) Try.func101 rfl rfl rfl (Nat.le_of_ble_eq_true rfl) ?_
  refine AW.sr ?_
  refine AO.box rfl 3 rfl (by decide) rfl rfl rfl fun n4 => ?_
  refine AO.c (Calm.assign rfl rfl) ?_
  refine AO.nK [1, 2, 3] ?_
  refine AW.seq_mid (fun ρ H => ∃ (x5 : Int), ρ = [(1, (eI64 x5))] ∧ H = [] ∧ dfa_Run_c0 k x5 = some r) ?_ ?_
  ·refine AW.sr ?_
   refine AO.c (Calm.assign rfl rfl) ?_
   refine AO.nK [1, 2, 3, 7] ?_
   refine AW.block ?_
   refine AW.wK [1, 2, 3, 7] ?_
   refine AW.loop (fun kq ρ H => ∃ (x6 : Int) (x7 : Int), ρ = [(1, (eI64 x6)), (2, (eStr p2)), (3, (.ptr n4 0)), (7, (eI64 x7))] ∧ H = [(n4, (.mem (e30 p0)))] ∧ dfa_Run_l1 k p0 p2 kq x6 x7 = some r) k ⟨p1, (0 : Int), rfl, rfl, h⟩ ?_
   rintro kq9 _ _ ⟨x6, x7, rfl, rfl, h⟩
   cases kq9 with
   | zero => rw [dfa_Run_l1.eq_1] at h; cases h
   | succ kq9 =>
   rw [dfa_Run_l1.eq_2] at h
   generalize hrec8 : dfa_Run_l1 k p0 p2 kq9 = rec8 at h
   refine AW.seq ?_
   refine AW.seq ?_
   obtain ⟨b10, hq11, h⟩ := of_bind h
   refine AW.regM [(1, (eI64 x6)), (2, (eStr p2)), (3, (.ptr n4 0)), (7, (eI64 x7)), (15, (eBool b10))] [(n4, (.mem (e30 p0)))] ?_ ?_
   ·refine AO.c (Calm.move rfl rfl) ?_
    refine AO.c (Calm.move rfl rfl) ?_
    refine AO.c (Calm.lenStr rfl rfl Try.underlying9) ?_
    refine AO.c (x := eBool (decide (x7 < (p2.size : Int)))) (Calm.int rfl rfl rfl rfl) ?_
    refine AO.c (Calm.move rfl rfl) ?_
    rcases of_ite hq11 with ⟨hc12, hq11⟩ | ⟨hc12, hq11⟩
    ·refine AO.cG rfl rfl (bD (decide_eq_true hc12)) (Calm.move rfl rfl) ?_
     refine AO.cG (x := eBool (decide (x6 ≠ (-1 : Int)))) rfl rfl (bD (decide_eq_true hc12)) (Calm.int rfl rfl rfl rfl) ?_
     refine AO.c (Calm.pickT rfl (bD (decide_eq_true hc12)) rfl) ?_
     cases hq11
     refine AO.nilE ⟨rfl, rfl⟩ ?_ ?_
     · exact ⟨rfl, rfl, rfl, rfl, rfl, trivial⟩
     · exact (Sub.refl _)
    ·refine AO.sT rfl rfl (bD (decide_eq_false hc12)) ?_
     refine AO.sT rfl rfl (bD (decide_eq_false hc12)) ?_
     refine AO.c (Calm.pickF rfl (bD (decide_eq_false hc12)) rfl) ?_
     cases hq11
     refine AO.nilE ⟨rfl, rfl⟩ ?_ ?_
     · exact ⟨rfl, rfl, rfl, rfl, rfl, trivial⟩
     · exact (Sub.refl _)
   ·rcases of_ite h with ⟨hc13, h⟩ | ⟨hc13, h⟩
    ·refine AW.condT' _ rfl hc13 ?_
     refine AW.sK [1, 2, 3, 7] ?_
     refine AW.seq ?_
     refine AW.block ?_
     refine AW.regQ (by rfl) (by decide +kernel) ?_
     refine AQ.c (Calm.load 0 rfl rfl rfl (At.cast At.here rfl) ag30 sz30) ?_
     refine AQ.c (Calm.move rfl rfl) ?_
     refine AQ.c (Calm.move rfl rfl) ?_
     refine AQ.c (Calm.move rfl rfl) ?_
     obtain ⟨hg14, h⟩ := of_guard h
     refine AQ.c (x := eU8 (byteAt p2 x7)) (Calm.idxS rfl rfl rfl hg14 Try.underlying9) ?_
     obtain ⟨t15, et15, h⟩ := of_bind h
     refine AQ.c (Calm.call (args := [(e30 p0), (eI64 x6), (eU8 (byteAt p2 x7))]) rfl rfl ok97 ⟨rfl, rfl, rfl, rfl, rfl, rfl, trivial⟩ rfl (dfa_Step_spec et15)) ?_
     refine AQ.c (Calm.assign rfl rfl) ?_
     refine AQ.nK [1, 2, 3, 7] ?_
     refine AW.reg ?_
     refine AO.c (Calm.move rfl rfl) ?_
     refine AO.c (x := eI64 (w64 (x7 + (1 : Int)))) (Calm.int rfl rfl rfl rfl) ?_
     refine AO.c (Calm.assign rfl rfl) ?_
     refine AO.nK [1, 2, 3, 7] ?_
     exact ⟨kq9, Nat.lt_succ_self _, t15, (w64 (x7 + (1 : Int))), rfl, rfl, by rw [hrec8]; exact h⟩
    ·refine AW.condF' _ rfl hc13 ?_
     refine AW.eH [1] (H' := []) (Sub.nil _) ?_
     exact ⟨x6, rfl, rfl, h⟩
  ·rintro _ _ ⟨x5, rfl, rfl, h⟩
   rw [dfa_Run_c0.eq_1] at h
   refine AW.sr ?_
   refine AO.c (Calm.move rfl rfl) ?_
   refine AO.c (Calm.assign rfl rfl) ?_
   refine AO.nK [6] ?_
   refine AW.rK [6] ?_
   have hr := Option.some.inj h
   subst hr
   exact ⟨[(eI64 x5)], ⟨rfl, rfl, trivial⟩, rfl⟩
end Go.Avl.T5
/- bosket/dfa.Has; printed by avmain.py. -/
namespace Go.Avl.T5
open Go Go.RowKit Go.Proofs Go.Avl
set_option linter.unusedVariables false
set_option maxRecDepth 100000
set_option maxHeartbeats 4000000
attribute [local irreducible] AW AO AQ Spec SpecH Calm

def dfa_Has (k : Nat) (p0 : S30) (p1 : ByteArray) : Option Int :=
  (dfa_Run k p0 (0 : Int) p1).bind fun t4 =>
  (dfa_Mark k p0 t4).bind fun t5 =>
  some (t5)
theorem dfa_Has_spec {k : Nat} {p0 : S30} {p1 : ByteArray} {r : Int} (h : dfa_Has k p0 p1 = some r) : Spec Try.prog 83 [(e30 p0), (eStr p1)] (eI64 r) := by
  rw [dfa_Has.eq_1] at h
  refine Spec.intro (res := [.tmp 4]) Try.func83 rfl rfl rfl (Nat.le_of_ble_eq_true rfl) ?_
  refine AW.sr ?_
  refine AO.box rfl 2 rfl (by decide) rfl rfl rfl fun n3 => ?_
  refine AO.c (Calm.assign rfl rfl) ?_
  refine AO.nK [1, 2] ?_
  refine AW.seq ?_
  refine AW.regQ (by rfl) (by decide +kernel) ?_
  refine AQ.c (Calm.load 0 rfl rfl rfl (At.cast At.here rfl) ag30 sz30) ?_
  refine AQ.c (Calm.load 0 rfl rfl rfl (At.cast At.here rfl) ag30 sz30) ?_
  refine AQ.c (Calm.move rfl rfl) ?_
  obtain ⟨t4, et4, h⟩ := of_bind h
  refine AQ.c (Calm.call (args := [(e30 p0), (eI64 (0 : Int)), (eStr p1)]) rfl rfl ok101 ⟨rfl, rfl, rfl, rfl, rfl, rfl, trivial⟩ rfl (dfa_Run_spec et4)) ?_
  obtain ⟨t5, et5, h⟩ := of_bind h
  refine AQ.c (Calm.call (args := [(e30 p0), (eI64 t4)]) rfl rfl ok85 ⟨rfl, rfl, rfl, rfl, trivial⟩ rfl (dfa_Mark_spec et5)) ?_
  refine AQ.c (Calm.assign rfl rfl) ?_
  refine AQ.nK [4] ?_
  refine AW.rH [4] (H' := []) (Sub.nil _) ?_
  have hr := Option.some.inj h
  subst hr
  exact ⟨[(eI64 t5)], ⟨rfl, rfl, trivial⟩, rfl⟩
end Go.Avl.T5
/- bosket/dfa.Alive; printed by avmain.py. -/
namespace Go.Avl.T5
open Go Go.RowKit Go.Proofs Go.Avl
set_option linter.unusedVariables false
set_option maxRecDepth 100000
set_option maxHeartbeats 4000000
attribute [local irreducible] AW AO AQ Spec SpecH Calm

def dfa_Alive_c0 (k : Nat) (x6 : (List Bool)) : Option (List Bool) :=
  some (x6)
def dfa_Alive_c1 (k : Nat) (rec15 : ((List Bool) → Bool → Int → Option (List Bool))) (x14 : Int) (x18 : (List Bool)) (b19 : Bool) : Option (List Bool) :=
  rec15 x18 b19 (w64 (x14 + (1 : Int)))
def dfa_Alive_l2 (k : Nat) (rec15 : ((List Bool) → Bool → Int → Option (List Bool))) (p0 : S30) (x12 : (List Bool)) (b13 : Bool) (x14 : Int) : Nat → Int → Option (List Bool)
  | 0, _ => none
  | j + 1, x23 =>
    if x23 < ((lget p0.f1 x14).length : Int) then if 0 ≤ x23 ∧ x23 < ((lget p0.f1 x14).length : Int) then Option.bind (α := Bool) (if (0 : Int) ≤ (lget (lget p0.f1 x14) x23) then if (lget (lget p0.f1 x14) x23) < (x12.length : Int) then if 0 ≤ (lget (lget p0.f1 x14) x23) ∧ (lget (lget p0.f1 x14) x23) < (x12.length : Int) then some ((lget x12 (lget (lget p0.f1 x14) x23)))
    else none
    else some (false)
    else some (false)) fun b28 =>
    if b28 = true then if 0 ≤ x14 ∧ x14 < (x12.length : Int) then dfa_Alive_c1 k rec15 x14 (lset x12 x14 true) true
    else none
    else (dfa_Alive_l2 k rec15 p0 x12 b13 x14 j) (w64 (x23 + (1 : Int)))
    else none
    else dfa_Alive_c1 k rec15 x14 x12 b13
def dfa_Alive_l3 (k : Nat) (rec9 : ((List Bool) → Bool → Option (List Bool))) (p0 : S30) : Nat → (List Bool) → Bool → Int → Option (List Bool)
  | 0, _, _, _ => none
  | j + 1, x12, b13, x14 =>
    if x14 < (p0.f1.length : Int) then if 0 ≤ x14 ∧ x14 < (p0.f1.length : Int) then if 0 ≤ x14 ∧ x14 < (x12.length : Int) then if (lget x12 x14) = true then dfa_Alive_c1 k (dfa_Alive_l3 k rec9 p0 j) x14 x12 b13
    else dfa_Alive_l2 k (dfa_Alive_l3 k rec9 p0 j) p0 x12 b13 x14 k (0 : Int)
    else none
    else none
    else rec9 x12 b13
def dfa_Alive_l4 (k : Nat) (p0 : S30) : Nat → (List Bool) → Bool → Option (List Bool)
  | 0, _, _ => none
  | j + 1, x7, b8 =>
    if b8 = true then dfa_Alive_l3 k (dfa_Alive_l4 k p0 j) p0 k x7 false (0 : Int)
    else dfa_Alive_c0 k x7
def dfa_Alive_c5 (k : Nat) (p0 : S30) (x5 : (List Bool)) : Option (List Bool) :=
  dfa_Alive_l4 k p0 k x5 true
def dfa_Alive_l6 (k : Nat) (p0 : S30) : Nat → (List Bool) → Int → Option (List Bool)
  | 0, _, _ => none
  | j + 1, x35, x36 =>
    if x36 < ((List.replicate (p0.f1.length : Int).toNat false).length : Int) then (dfa_Mark k p0 x36).bind fun t40 =>
    if 0 ≤ x36 ∧ x36 < (x35.length : Int) then (dfa_Alive_l6 k p0 j) (lset x35 x36 (decide ((0 : Int) ≤ t40))) (w64 (x36 + (1 : Int)))
    else none
    else dfa_Alive_c5 k p0 x35
def dfa_Alive (k : Nat) (p0 : S30) : Option (List Bool) :=
  if 0 ≤ (p0.f1.length : Int) ∧ (p0.f1.length : Int) * (1 : Int) ≤ 140737488355328 ∧ (p0.f1.length : Int) ≤ 9223372036854775807 then dfa_Alive_l6 k p0 k (List.replicate (p0.f1.length : Int).toNat false) (0 : Int)
  else none
theorem dfa_Alive_spec {k : Nat} {p0 : S30} {r : (List Bool)} (h : dfa_Alive k p0 = some r) : Spec Try.prog 92 [(e30 p0)] (e49 r) := by
  rw [dfa_Alive.eq_1] at h
  refine Spec.intro (res := [.tmp 2]) Try.func92 rfl rfl rfl (Nat.le_of_ble_eq_true rfl) ?_
  refine AW.sr ?_
  refine AO.box rfl 1 rfl (by decide) rfl rfl rfl fun n2 => ?_
  refine AO.c (Calm.assign rfl rfl) ?_
  refine AO.nK [1] ?_
  refine AW.sr ?_
  refine AO.c (x := .ptr n2 256) (Calm.fldPtr rfl rfl Try.underlying30 rfl sz28 _ rfl) ?_
  refine AO.c (Calm.load 0 rfl rfl rfl (At.cast (At.fldS (At.fld0 At.here)) rfl) ag28 sz28) ?_
  refine AO.c (Calm.lenL rfl rfl Try.underlying28) ?_
  obtain ⟨hg4, h⟩ := of_guard h
  refine AO.makeL (f := eBool) false rfl 13 rfl (by decide) rfl rfl rfl Try.underlying49 sz4 by4 zr4 lay4 rfl hg4 fun n3 => ?_
  refine AO.c (Calm.assign rfl rfl) ?_
  refine AO.nH [1, 3] (H' := [(n2, (.mem (e30 p0))), (n3, (.mem (.ar 1 ((List.replicate (p0.f1.length : Int).toNat false).map eBool))))]) (Sub.cons 1 rfl (Sub.cons 0 rfl (Sub.nil _))) ?_
  refine AW.seq_mid (fun ρ H => ∃ (x5 : (List Bool)), ρ = [(1, (.ptr n2 0)), (3, (.own n3 0 x5.length))] ∧ H = [(n2, (.mem (e30 p0))), (n3, (.mem (.ar 1 (x5.map eBool))))] ∧ dfa_Alive_c5 k p0 x5 = some r) ?_ ?_
  ·refine AW.sr ?_
   refine AO.c (Calm.move rfl rfl) ?_
   refine AO.c (Calm.lenOwn rfl rfl Try.underlying49) ?_
   refine AO.c (Calm.move rfl rfl) ?_
   refine AO.nK [1, 3, 15, 16] ?_
   refine AW.block ?_
   refine AW.wK [1, 3, 15, 16] ?_
   refine AW.loop (fun kq ρ H => ∃ (x35 : (List Bool)) (x36 : Int), ρ = [(1, (.ptr n2 0)), (3, (.own n3 0 x35.length)), (15, (eI64 ((List.replicate (p0.f1.length : Int).toNat false).length : Int))), (16, (eI64 x36))] ∧ H = [(n2, (.mem (e30 p0))), (n3, (.mem (.ar 1 (x35.map eBool))))] ∧ dfa_Alive_l6 k p0 kq x35 x36 = some r) k ⟨(List.replicate (p0.f1.length : Int).toNat false), (0 : Int), rfl, rfl, h⟩ ?_
   rintro kq38 _ _ ⟨x35, x36, rfl, rfl, h⟩
   cases kq38 with
   | zero => rw [dfa_Alive_l6.eq_1] at h; cases h
   | succ kq38 =>
   rw [dfa_Alive_l6.eq_2] at h
   generalize hrec37 : dfa_Alive_l6 k p0 kq38 = rec37 at h
   refine AW.sr ?_
   refine AO.c (x := eBool (decide (x36 < ((List.replicate (p0.f1.length : Int).toNat false).length : Int)))) (Calm.int rfl rfl rfl rfl) ?_
   refine AO.nK [1, 3, 15, 16, 17] ?_
   refine AW.seq ?_
   rcases of_ite h with ⟨hc39, h⟩ | ⟨hc39, h⟩
   ·refine AW.condP _ rfl hc39 ?_
    refine AW.sK [1, 3, 15, 16] ?_
    refine AW.seq ?_
    refine AW.block ?_
    refine AW.sr ?_
    refine AO.c (Calm.move rfl rfl) ?_
    refine AO.c (Calm.assign rfl rfl) ?_
    refine AO.nK [1, 3, 4, 15, 16] ?_
    refine AW.reg ?_
    refine AO.c (Calm.move rfl rfl) ?_
    refine AO.c (Calm.move rfl rfl) ?_
    refine AO.c (Calm.load 0 rfl rfl rfl (At.cast At.here rfl) ag30 sz30) ?_
    refine AO.c (Calm.move rfl rfl) ?_
    obtain ⟨t40, et40, h⟩ := of_bind h
    refine AO.callS [(e30 p0), (eI64 x36)] (eI64 t40) 23 rfl (by decide) ok85 rfl rfl rfl ⟨rfl, rfl, rfl, rfl, trivial⟩ (dfa_Mark_spec et40) ?_
    refine AO.c (x := eBool (decide ((0 : Int) ≤ t40))) (Calm.int rfl rfl rfl rfl) ?_
    obtain ⟨hg41, h⟩ := of_guard h
    refine AO.c (Calm.idxO 1 rfl rfl rfl rfl hg41 Try.underlying49 sz4) ?_
    refine AO.store (X' := (.ar 1 ((lset x35 x36 (decide ((0 : Int) ≤ t40))).map eBool))) 1 rfl rfl rfl rfl rfl rfl (Put.cast (Put.lidx x36 (decide ((0 : Int) ≤ t40)) hg41.1 hg41.2 Put.here) (by omega)) rfl rfl sz4 rfl ?_
    refine AO.coe 3 (y' := (.own n3 0 (lset x35 x36 (decide ((0 : Int) ≤ t40))).length)) rfl (fun _ _ h => lset_own h) ?_
    refine AO.coe 19 (y' := (.own n3 0 (lset x35 x36 (decide ((0 : Int) ≤ t40))).length)) rfl (fun _ _ h => lset_own h) ?_
    refine AO.nK [1, 3, 15, 16] ?_
    refine AW.reg ?_
    refine AO.c (x := eI64 (w64 (x36 + (1 : Int)))) (Calm.int rfl rfl rfl rfl) ?_
    refine AO.c (Calm.move rfl rfl) ?_
    refine AO.nK [1, 3, 15, 16] ?_
    exact ⟨kq38, Nat.lt_succ_self _, (lset x35 x36 (decide ((0 : Int) ≤ t40))), (w64 (x36 + (1 : Int))), rfl, rfl, by rw [hrec37]; exact h⟩
   ·refine AW.condN _ rfl hc39 ?_
    refine AW.eK [1, 3] ?_
    exact ⟨x35, rfl, rfl, h⟩
  ·rintro _ _ ⟨x5, rfl, rfl, h⟩
   rw [dfa_Alive_c5.eq_1] at h
   refine AW.seq_mid (fun ρ H => ∃ (x6 : (List Bool)), ρ = [(3, (.own n3 0 x6.length))] ∧ H = [(n3, (.mem (.ar 1 (x6.map eBool))))] ∧ dfa_Alive_c0 k x6 = some r) ?_ ?_
   ·refine AW.sr ?_
    refine AO.c (Calm.assign rfl rfl) ?_
    refine AO.nK [1, 3, 5] ?_
    refine AW.block ?_
    refine AW.wK [1, 3, 5] ?_
    refine AW.loop (fun kq ρ H => ∃ (x7 : (List Bool)) (b8 : Bool), ρ = [(1, (.ptr n2 0)), (3, (.own n3 0 x7.length)), (5, (eBool b8))] ∧ H = [(n2, (.mem (e30 p0))), (n3, (.mem (.ar 1 (x7.map eBool))))] ∧ dfa_Alive_l4 k p0 kq x7 b8 = some r) k ⟨x5, true, rfl, rfl, h⟩ ?_
    rintro kq10 _ _ ⟨x7, b8, rfl, rfl, h⟩
    cases kq10 with
    | zero => rw [dfa_Alive_l4.eq_1] at h; cases h
    | succ kq10 =>
    rw [dfa_Alive_l4.eq_2] at h
    generalize hrec9 : dfa_Alive_l4 k p0 kq10 = rec9 at h
    refine AW.seq ?_
    refine AW.sr ?_
    refine AO.c (Calm.move rfl rfl) ?_
    refine AO.nK [1, 3, 27] ?_
    rcases of_ite h with ⟨hc11, h⟩ | ⟨hc11, h⟩
    ·refine AW.condT' _ rfl hc11 ?_
     refine AW.sK [1, 3] ?_
     refine AW.block ?_
     refine AW.scope ?_
     refine AW.sr ?_
     refine AO.c (Calm.assign rfl rfl) ?_
     refine AO.nK [1, 3, 5] ?_
     refine AW.seq ?_
     refine AW.lK [1, 3, 5] ?_
     refine AW.sr ?_
     refine AO.c (x := .ptr n2 256) (Calm.fldPtr rfl rfl Try.underlying30 rfl sz28 _ rfl) ?_
     refine AO.c (Calm.load 0 rfl rfl rfl (At.cast (At.fldS (At.fld0 At.here)) rfl) ag28 sz28) ?_
     refine AO.c (Calm.lenL rfl rfl Try.underlying28) ?_
     refine AO.c (Calm.move rfl rfl) ?_
     refine AO.nK [1, 3, 5, 29, 30, 31] ?_
     refine AW.block ?_
     refine AW.wK [1, 3, 5, 29, 30, 31] ?_
     refine AW.loop (fun kq ρ H => ∃ (x12 : (List Bool)) (b13 : Bool) (x14 : Int), ρ = [(1, (.ptr n2 0)), (3, (.own n3 0 x12.length)), (5, (eBool b13)), (29, (.fz 1 (p0.f1.map e25))), (30, (eI64 (p0.f1.length : Int))), (31, (eI64 x14))] ∧ H = [(n2, (.mem (e30 p0))), (n3, (.mem (.ar 1 (x12.map eBool))))] ∧ dfa_Alive_l3 k rec9 p0 kq x12 b13 x14 = some r) k ⟨x7, false, (0 : Int), rfl, rfl, h⟩ ?_
     rintro kq16 _ _ ⟨x12, b13, x14, rfl, rfl, h⟩
     cases kq16 with
     | zero => rw [dfa_Alive_l3.eq_1] at h; cases h
     | succ kq16 =>
     rw [dfa_Alive_l3.eq_2] at h
     generalize hrec15 : dfa_Alive_l3 k rec9 p0 kq16 = rec15 at h
     refine AW.sr ?_
     refine AO.c (x := eBool (decide (x14 < (p0.f1.length : Int)))) (Calm.int rfl rfl rfl rfl) ?_
     refine AO.nK [1, 3, 5, 29, 30, 31, 32] ?_
     refine AW.seq ?_
     rcases of_ite h with ⟨hc17, h⟩ | ⟨hc17, h⟩
     ·refine AW.condP _ rfl hc17 ?_
      refine AW.sK [1, 3, 5, 29, 30, 31] ?_
      refine AW.seq_mid (fun ρ H => ∃ (x18 : (List Bool)) (b19 : Bool), ρ = [(1, (.ptr n2 0)), (3, (.own n3 0 x18.length)), (5, (eBool b19)), (29, (.fz 1 (p0.f1.map e25))), (30, (eI64 (p0.f1.length : Int))), (31, (eI64 x14))] ∧ H = [(n2, (.mem (e30 p0))), (n3, (.mem (.ar 1 (x18.map eBool))))] ∧ dfa_Alive_c1 k rec15 x14 x18 b19 = some r) ?_ ?_
      ·refine AW.block ?_
       refine AW.sr ?_
       refine AO.c (Calm.move rfl rfl) ?_
       obtain ⟨hg20, h⟩ := of_guard h
       refine AO.c (Calm.idxL (f := e25) rfl rfl rfl hg20 Try.underlying28 sz25) ?_
       refine AO.c (Calm.loadRp rfl rfl ag25 sz25) ?_
       refine AO.c (Calm.assign rfl rfl) ?_
       refine AO.c (Calm.assign rfl rfl) ?_
       refine AO.nK [1, 3, 5, 6, 7, 29, 30, 31] ?_
       refine AW.seq ?_
       refine AW.sr ?_
       refine AO.c (Calm.move rfl rfl) ?_
       refine AO.c (Calm.move rfl rfl) ?_
       obtain ⟨hg21, h⟩ := of_guard h
       refine AO.c (Calm.idxO 1 rfl rfl rfl rfl hg21 Try.underlying49 sz4) ?_
       refine AO.c (Calm.load 1 rfl rfl rfl (At.cast (At.lidx x14 hg21.1 hg21.2 At.here) (by omega)) ag4 sz4) ?_
       refine AO.nK [1, 3, 5, 6, 7, 29, 30, 31, 39] ?_
       rcases of_ite h with ⟨hc22, h⟩ | ⟨hc22, h⟩
       ·refine AW.condT' _ rfl hc22 ?_
        refine AW.eK [1, 3, 5, 29, 30, 31] ?_
        exact ⟨x12, b13, rfl, rfl, h⟩
       ·refine AW.condF' _ rfl hc22 ?_
        refine AW.sK [1, 3, 5, 6, 7, 29, 30, 31] ?_
        refine AW.sr ?_
        refine AO.c (Calm.move rfl rfl) ?_
        refine AO.c (Calm.lenL rfl rfl Try.underlying25) ?_
        refine AO.c (Calm.move rfl rfl) ?_
        refine AO.nK [1, 3, 5, 6, 29, 30, 31, 40, 41, 42] ?_
        refine AW.block ?_
        refine AW.wK [1, 3, 5, 6, 29, 30, 31, 40, 41, 42] ?_
        refine AW.loop (fun kq ρ H => ∃ (x23 : Int), ρ = [(1, (.ptr n2 0)), (3, (.own n3 0 x12.length)), (5, (eBool b13)), (6, (eI64 x14)), (29, (.fz 1 (p0.f1.map e25))), (30, (eI64 (p0.f1.length : Int))), (31, (eI64 x14)), (40, (.fz 1 ((lget p0.f1 x14).map eI64))), (41, (eI64 ((lget p0.f1 x14).length : Int))), (42, (eI64 x23))] ∧ H = [(n2, (.mem (e30 p0))), (n3, (.mem (.ar 1 (x12.map eBool))))] ∧ dfa_Alive_l2 k rec15 p0 x12 b13 x14 kq x23 = some r) k ⟨(0 : Int), rfl, rfl, h⟩ ?_
        rintro kq25 _ _ ⟨x23, rfl, rfl, h⟩
        cases kq25 with
        | zero => rw [dfa_Alive_l2.eq_1] at h; cases h
        | succ kq25 =>
        rw [dfa_Alive_l2.eq_2] at h
        generalize hrec24 : dfa_Alive_l2 k rec15 p0 x12 b13 x14 kq25 = rec24 at h
        refine AW.sr ?_
        refine AO.c (x := eBool (decide (x23 < ((lget p0.f1 x14).length : Int)))) (Calm.int rfl rfl rfl rfl) ?_
        refine AO.nK [1, 3, 5, 6, 29, 30, 31, 40, 41, 42, 43] ?_
        refine AW.seq ?_
        rcases of_ite h with ⟨hc26, h⟩ | ⟨hc26, h⟩
        ·refine AW.condP _ rfl hc26 ?_
         refine AW.sK [1, 3, 5, 6, 29, 30, 31, 40, 41, 42] ?_
         refine AW.seq ?_
         refine AW.block ?_
         refine AW.sr ?_
         obtain ⟨hg27, h⟩ := of_guard h
         refine AO.c (Calm.idxL (f := eI64) rfl rfl rfl hg27 Try.underlying25 sz3) ?_
         refine AO.c (Calm.loadRp rfl rfl ag3 sz3) ?_
         refine AO.c (Calm.assign rfl rfl) ?_
         refine AO.nK [1, 3, 5, 6, 9, 29, 30, 31, 40, 41, 42] ?_
         refine AW.seq ?_
         obtain ⟨b28, hq29, h⟩ := of_bind h
         refine AW.regM [(1, (.ptr n2 0)), (3, (.own n3 0 x12.length)), (5, (eBool b13)), (6, (eI64 x14)), (29, (.fz 1 (p0.f1.map e25))), (30, (eI64 (p0.f1.length : Int))), (31, (eI64 x14)), (40, (.fz 1 ((lget p0.f1 x14).map eI64))), (41, (eI64 ((lget p0.f1 x14).length : Int))), (42, (eI64 x23)), (59, (eBool b28))] [(n2, (.mem (e30 p0))), (n3, (.mem (.ar 1 (x12.map eBool))))] ?_ ?_
         ·refine AO.c (Calm.move rfl rfl) ?_
          refine AO.c (x := eBool (decide ((0 : Int) ≤ (lget (lget p0.f1 x14) x23)))) (Calm.int rfl rfl rfl rfl) ?_
          refine AO.c (Calm.move rfl rfl) ?_
          rcases of_ite hq29 with ⟨hc30, hq29⟩ | ⟨hc30, hq29⟩
          ·refine AO.cG rfl rfl (bD (decide_eq_true hc30)) (Calm.move rfl rfl) ?_
           refine AO.cG rfl rfl (bD (decide_eq_true hc30)) (Calm.move rfl rfl) ?_
           refine AO.cG rfl rfl (bD (decide_eq_true hc30)) (Calm.lenOwn rfl rfl Try.underlying49) ?_
           refine AO.cG (x := eBool (decide ((lget (lget p0.f1 x14) x23) < (x12.length : Int)))) rfl rfl (bD (decide_eq_true hc30)) (Calm.int rfl rfl rfl rfl) ?_
           refine AO.c (Calm.pickT rfl (bD (decide_eq_true hc30)) rfl) ?_
           refine AO.c (Calm.move rfl rfl) ?_
           rcases of_ite hq29 with ⟨hc31, hq29⟩ | ⟨hc31, hq29⟩
           ·refine AO.cG rfl rfl (bD (decide_eq_true hc31)) (Calm.move rfl rfl) ?_
            refine AO.cG rfl rfl (bD (decide_eq_true hc31)) (Calm.move rfl rfl) ?_
            obtain ⟨hg32, hq29⟩ := of_guard hq29
            refine AO.cG rfl rfl (bD (decide_eq_true hc31)) (Calm.idxO 1 rfl rfl rfl rfl hg32 Try.underlying49 sz4) ?_
            refine AO.cG rfl rfl (bD (decide_eq_true hc31)) (Calm.load 1 rfl rfl rfl (At.cast (At.lidx (lget (lget p0.f1 x14) x23) hg32.1 hg32.2 At.here) (by omega)) ag4 sz4) ?_
            refine AO.c (Calm.pickT rfl (bD (decide_eq_true hc31)) rfl) ?_
            cases hq29
            refine AO.nilE ⟨rfl, rfl⟩ ?_ ?_
            · exact ⟨rfl, rfl, rfl, rfl, rfl, rfl, rfl, rfl, rfl, rfl, rfl, trivial⟩
            · exact (Sub.refl _)
           ·refine AO.sT rfl rfl (bD (decide_eq_false hc31)) ?_
            refine AO.sT rfl rfl (bD (decide_eq_false hc31)) ?_
            refine AO.sT rfl rfl (bD (decide_eq_false hc31)) ?_
            refine AO.sT rfl rfl (bD (decide_eq_false hc31)) ?_
            refine AO.c (Calm.pickF rfl (bD (decide_eq_false hc31)) rfl) ?_
            cases hq29
            refine AO.nilE ⟨rfl, rfl⟩ ?_ ?_
            · exact ⟨rfl, rfl, rfl, rfl, rfl, rfl, rfl, rfl, rfl, rfl, rfl, trivial⟩
            · exact (Sub.refl _)
          ·refine AO.sT rfl rfl (bD (decide_eq_false hc30)) ?_
           refine AO.sT rfl rfl (bD (decide_eq_false hc30)) ?_
           refine AO.sT rfl rfl (bD (decide_eq_false hc30)) ?_
           refine AO.sT rfl rfl (bD (decide_eq_false hc30)) ?_
           refine AO.c (Calm.pickF rfl (bD (decide_eq_false hc30)) rfl) ?_
           refine AO.c (Calm.move rfl rfl) ?_
           refine AO.sT rfl rfl rfl ?_
           refine AO.sT rfl rfl rfl ?_
           refine AO.sT rfl rfl rfl ?_
           refine AO.sT rfl rfl rfl ?_
           refine AO.c (Calm.pickF rfl rfl rfl) ?_
           cases hq29
           refine AO.nilE ⟨rfl, rfl⟩ ?_ ?_
           · exact ⟨rfl, rfl, rfl, rfl, rfl, rfl, rfl, rfl, rfl, rfl, rfl, trivial⟩
           · exact (Sub.refl _)
         ·rcases of_ite h with ⟨hc33, h⟩ | ⟨hc33, h⟩
          ·refine AW.condT' _ rfl hc33 ?_
           refine AW.sr ?_
           refine AO.c (Calm.move rfl rfl) ?_
           refine AO.c (Calm.move rfl rfl) ?_
           obtain ⟨hg34, h⟩ := of_guard h
           refine AO.c (Calm.idxO 1 rfl rfl rfl rfl hg34 Try.underlying49 sz4) ?_
           refine AO.store (X' := (.ar 1 ((lset x12 x14 true).map eBool))) 1 rfl rfl rfl rfl rfl rfl (Put.cast (Put.lidx x14 true hg34.1 hg34.2 Put.here) (by omega)) rfl rfl sz4 rfl ?_
           refine AO.coe 3 (y' := (.own n3 0 (lset x12 x14 true).length)) rfl (fun _ _ h => lset_own h) ?_
           refine AO.coe 60 (y' := (.own n3 0 (lset x12 x14 true).length)) rfl (fun _ _ h => lset_own h) ?_
           refine AO.c (Calm.assign rfl rfl) ?_
           refine AO.nK [1, 3, 5, 29, 30, 31] ?_
           refine AW.eK [1, 3, 5, 29, 30, 31] ?_
           exact ⟨(lset x12 x14 true), true, rfl, rfl, h⟩
          ·refine AW.condF' _ rfl hc33 ?_
           refine AW.sK [1, 3, 5, 6, 29, 30, 31, 40, 41, 42] ?_
           refine AW.reg ?_
           refine AO.c (x := eI64 (w64 (x23 + (1 : Int)))) (Calm.int rfl rfl rfl rfl) ?_
           refine AO.c (Calm.move rfl rfl) ?_
           refine AO.nK [1, 3, 5, 6, 29, 30, 31, 40, 41, 42] ?_
           exact ⟨kq25, Nat.lt_succ_self _, (w64 (x23 + (1 : Int))), rfl, rfl, by rw [hrec24]; exact h⟩
        ·refine AW.condN _ rfl hc26 ?_
         refine AW.eK [1, 3, 5, 29, 30, 31] ?_
         exact ⟨x12, b13, rfl, rfl, h⟩
      ·rintro _ _ ⟨x18, b19, rfl, rfl, h⟩
       rw [dfa_Alive_c1.eq_1] at h
       refine AW.reg ?_
       refine AO.c (x := eI64 (w64 (x14 + (1 : Int)))) (Calm.int rfl rfl rfl rfl) ?_
       refine AO.c (Calm.move rfl rfl) ?_
       refine AO.nK [1, 3, 5, 29, 30, 31] ?_
       exact ⟨kq16, Nat.lt_succ_self _, x18, b19, (w64 (x14 + (1 : Int))), rfl, rfl, by rw [hrec15]; exact h⟩
     ·refine AW.condN _ rfl hc17 ?_
      refine AW.eK [1, 3, 5] ?_
      exact ⟨kq10, Nat.lt_succ_self _, x12, b13, rfl, rfl, by rw [hrec9]; exact h⟩
    ·refine AW.condF' _ rfl hc11 ?_
     refine AW.eH [3] (H' := [(n3, (.mem (.ar 1 (x7.map eBool))))]) (Sub.cons 1 rfl (Sub.nil _)) ?_
     exact ⟨x7, rfl, rfl, h⟩
   ·rintro _ _ ⟨x6, rfl, rfl, h⟩
    rw [dfa_Alive_c0.eq_1] at h
    refine AW.sr ?_
    refine AO.c (Calm.move rfl rfl) ?_
    refine AO.c (Calm.assign rfl rfl) ?_
    refine AO.nK [2] ?_
    refine AW.freezeS 0 [(2, (.fz 1 (x6.map eBool)))] rfl ⟨fz_all rfl, trivial⟩ ?_
    refine AW.rK [2] ?_
    have hr := Option.some.inj h
    subst hr
    exact ⟨[(.fz 1 (x6.map eBool))], ⟨rfl, rfl, trivial⟩, rfl⟩
end Go.Avl.T5
