/- Parts: T7f148, T7f144, T7f146, T7f145, T7f149, T7f147, T7f119, T7f143, T7f61. -/
import Derived.Test.YtpkgpmmcbpfenaaAF1
/- bosket/escape.Read; printed by avmain.py. -/
namespace Go.Avl.T7
open Go Go.RowKit Go.Proofs Go.Avl
set_option linter.unusedVariables false
set_option maxRecDepth 100000
set_option maxHeartbeats 4000000
attribute [local irreducible] AW AO AQ Spec SpecH Calm

def F148_c0 (k : Nat) (p0 : ByteArray) : Option (Int × Int × Bool) :=
  Option.bind (α := Bool) (if (48 : Int) ≤ (byteAt p0 (1 : Int)) then if (byteAt p0 (1 : Int)) ≤ (57 : Int) then some (true)
  else if (97 : Int) ≤ (byteAt p0 (1 : Int)) then if (byteAt p0 (1 : Int)) ≤ (122 : Int) then some (true)
  else if (65 : Int) ≤ (byteAt p0 (1 : Int)) then if (byteAt p0 (1 : Int)) ≤ (90 : Int) then some (true)
  else if (byteAt p0 (1 : Int)) < (32 : Int) then some (true)
  else some (decide ((126 : Int) < (byteAt p0 (1 : Int))))
  else if (byteAt p0 (1 : Int)) < (32 : Int) then some (true)
  else some (decide ((126 : Int) < (byteAt p0 (1 : Int))))
  else if (65 : Int) ≤ (byteAt p0 (1 : Int)) then if (byteAt p0 (1 : Int)) ≤ (90 : Int) then some (true)
  else if (byteAt p0 (1 : Int)) < (32 : Int) then some (true)
  else some (decide ((126 : Int) < (byteAt p0 (1 : Int))))
  else if (byteAt p0 (1 : Int)) < (32 : Int) then some (true)
  else some (decide ((126 : Int) < (byteAt p0 (1 : Int))))
  else if (97 : Int) ≤ (byteAt p0 (1 : Int)) then if (byteAt p0 (1 : Int)) ≤ (122 : Int) then some (true)
  else if (65 : Int) ≤ (byteAt p0 (1 : Int)) then if (byteAt p0 (1 : Int)) ≤ (90 : Int) then some (true)
  else if (byteAt p0 (1 : Int)) < (32 : Int) then some (true)
  else some (decide ((126 : Int) < (byteAt p0 (1 : Int))))
  else if (byteAt p0 (1 : Int)) < (32 : Int) then some (true)
  else some (decide ((126 : Int) < (byteAt p0 (1 : Int))))
  else if (65 : Int) ≤ (byteAt p0 (1 : Int)) then if (byteAt p0 (1 : Int)) ≤ (90 : Int) then some (true)
  else if (byteAt p0 (1 : Int)) < (32 : Int) then some (true)
  else some (decide ((126 : Int) < (byteAt p0 (1 : Int))))
  else if (byteAt p0 (1 : Int)) < (32 : Int) then some (true)
  else some (decide ((126 : Int) < (byteAt p0 (1 : Int))))) fun b8 =>
  if b8 = true then some ((0 : Int), (0 : Int), false)
  else some ((byteAt p0 (1 : Int)), (2 : Int), true)
def F148_c1 (k : Nat) : Option (Int × Int × Bool) :=
  some ((0 : Int), (0 : Int), false)
def F148_c2 (k : Nat) (p0 : ByteArray) : Option (Int × Int × Bool) :=
  Option.bind (α := Bool) (if (4 : Int) ≤ (p0.size : Int) then if 0 ≤ (2 : Int) ∧ (2 : Int) < (p0.size : Int) then (F150 k (byteAt p0 (2 : Int))).bind fun t37 =>
  if (0 : Int) ≤ t37 then if 0 ≤ (3 : Int) ∧ (3 : Int) < (p0.size : Int) then (F150 k (byteAt p0 (3 : Int))).bind fun t40 =>
  some (decide ((0 : Int) ≤ t40))
  else none
  else some (false)
  else none
  else some (false)) fun b33 =>
  if b33 = true then if 0 ≤ (2 : Int) ∧ (2 : Int) < (p0.size : Int) then (F150 k (byteAt p0 (2 : Int))).bind fun t43 =>
  if 0 ≤ (3 : Int) ∧ (3 : Int) < (p0.size : Int) then (F150 k (byteAt p0 (3 : Int))).bind fun t45 =>
  some ((w8 (bits .or .i64 (IntKind.i64.wrap (t43 * 2 ^ (min (4 : Int).toNat IntKind.i64.bits))) t45)), (4 : Int), true)
  else none
  else none
  else F148_c1 k
def F148_c3 (k : Nat) : Option (Int × Int × Bool) :=
  some ((13 : Int), (2 : Int), true)
def F148_c4 (k : Nat) : Option (Int × Int × Bool) :=
  some ((9 : Int), (2 : Int), true)
def F148_c5 (k : Nat) : Option (Int × Int × Bool) :=
  some ((10 : Int), (2 : Int), true)
def F148 (k : Nat) (p0 : ByteArray) : Option (Int × Int × Bool) :=
  if p0 = (ByteArray.mk #[]) then some ((0 : Int), (0 : Int), false)
  else if 0 ≤ (0 : Int) ∧ (0 : Int) < (p0.size : Int) then if (byteAt p0 (0 : Int)) ≠ (92 : Int) then if 0 ≤ (0 : Int) ∧ (0 : Int) < (p0.size : Int) then some ((byteAt p0 (0 : Int)), (1 : Int), true)
  else none
  else if (p0.size : Int) < (2 : Int) then some ((0 : Int), (0 : Int), false)
  else if 0 ≤ (1 : Int) ∧ (1 : Int) < (p0.size : Int) then if (byteAt p0 (1 : Int)) = (110 : Int) then F148_c5 k
  else if (byteAt p0 (1 : Int)) = (116 : Int) then F148_c4 k
  else if (byteAt p0 (1 : Int)) = (114 : Int) then F148_c3 k
  else if (byteAt p0 (1 : Int)) = (120 : Int) then F148_c2 k p0
  else if (byteAt p0 (1 : Int)) = (0 : Int) then F148_c1 k
  else F148_c0 k p0
  else none
  else none
theorem F148_spec {k : Nat} {p0 : ByteArray} {r : (Int × Int × Bool)} (h : F148 k p0 = some r) : Spec Try.prog 148 [(eStr p0)] (.tup [(eU8 r.1), (eI64 r.2.1), (eBool r.2.2)]) := by
  rw [F148.eq_1] at h
  refine Spec.intro (res := [.tmp 2, .tmp 3, .tmp 4]) Try.func148 rfl rfl rfl (Nat.le_of_ble_eq_true rfl) ?_
  refine AW.sr ?_
  refine AO.ag rfl rfl ?_
  refine AO.ag rfl rfl ?_
  refine AO.ag rfl rfl ?_
  refine AO.nK [0] ?_
  refine AW.seq ?_
  refine AW.block ?_
  refine AW.sr ?_
  refine AO.mv rfl rfl ?_
  refine AO.c (x := eBool (decide (p0 = (ByteArray.mk #[])))) (Calm.str rfl rfl rfl rfl) ?_
  refine AO.ag rfl rfl ?_
  refine AO.nK [0, 6] ?_
  rcases of_ite h with ⟨hc2, h⟩ | ⟨hc2, h⟩
  ·refine AW.condP _ rfl hc2 ?_
   refine AW.sr ?_
   refine AO.ag rfl rfl ?_
   refine AO.ag rfl rfl ?_
   refine AO.ag rfl rfl ?_
   refine AO.nK [2, 3, 4] ?_
   refine AW.rK [2, 3, 4] ?_
   have hr := Option.some.inj h
   subst hr
   exact ⟨[(eU8 (0 : Int)), (eI64 (0 : Int)), (eBool false)], ⟨rfl, rfl, rfl, rfl, rfl, rfl, trivial⟩, rfl⟩
  ·refine AW.condN _ rfl hc2 ?_
   refine AW.sr ?_
   refine AO.mv rfl rfl ?_
   obtain ⟨hg3, h⟩ := of_guard h
   refine AO.c (x := eU8 (byteAt p0 (0 : Int))) (Calm.idxS rfl rfl rfl hg3 Try.underlying9) ?_
   refine AO.c (x := eBool (decide ((byteAt p0 (0 : Int)) ≠ (92 : Int)))) (Calm.int rfl rfl rfl rfl) ?_
   refine AO.ag rfl rfl ?_
   refine AO.nK [0, 9] ?_
   rcases of_ite h with ⟨hc4, h⟩ | ⟨hc4, h⟩
   ·refine AW.condP _ rfl hc4 ?_
    refine AW.sr ?_
    refine AO.mv rfl rfl ?_
    obtain ⟨hg5, h⟩ := of_guard h
    refine AO.c (x := eU8 (byteAt p0 (0 : Int))) (Calm.idxS rfl rfl rfl hg5 Try.underlying9) ?_
    refine AO.ag rfl rfl ?_
    refine AO.ag rfl rfl ?_
    refine AO.ag rfl rfl ?_
    refine AO.nK [2, 3, 4] ?_
    refine AW.rK [2, 3, 4] ?_
    have hr := Option.some.inj h
    subst hr
    exact ⟨[(eU8 (byteAt p0 (0 : Int))), (eI64 (1 : Int)), (eBool true)], ⟨rfl, rfl, rfl, rfl, rfl, rfl, trivial⟩, rfl⟩
   ·refine AW.condN _ rfl hc4 ?_
    refine AW.sr ?_
    refine AO.mv rfl rfl ?_
    refine AO.c (Calm.lenStr rfl rfl Try.underlying9) ?_
    refine AO.c (x := eBool (decide ((p0.size : Int) < (2 : Int)))) (Calm.int rfl rfl rfl rfl) ?_
    refine AO.ag rfl rfl ?_
    refine AO.nK [0, 15] ?_
    rcases of_ite h with ⟨hc6, h⟩ | ⟨hc6, h⟩
    ·refine AW.condP _ rfl hc6 ?_
     refine AW.sr ?_
     refine AO.ag rfl rfl ?_
     refine AO.ag rfl rfl ?_
     refine AO.ag rfl rfl ?_
     refine AO.nK [2, 3, 4] ?_
     refine AW.rK [2, 3, 4] ?_
     have hr := Option.some.inj h
     subst hr
     exact ⟨[(eU8 (0 : Int)), (eI64 (0 : Int)), (eBool false)], ⟨rfl, rfl, rfl, rfl, rfl, rfl, trivial⟩, rfl⟩
    ·refine AW.condN _ rfl hc6 ?_
     refine AW.sK [0] ?_
     refine AW.sr ?_
     refine AO.mv rfl rfl ?_
     obtain ⟨hg7, h⟩ := of_guard h
     refine AO.c (x := eU8 (byteAt p0 (1 : Int))) (Calm.idxS rfl rfl rfl hg7 Try.underlying9) ?_
     refine AO.ag rfl rfl ?_
     refine AO.nK [0, 5] ?_
     refine AW.seq_mid (fun ρ H => ρ = [(5, (eU8 (byteAt p0 (1 : Int))))] ∧ H = [] ∧ F148_c0 k p0 = some r) ?_ ?_
     ·refine AW.sr ?_
      refine AO.mv rfl rfl ?_
      refine AO.nK [0, 5, 21] ?_
      refine AW.block ?_
      refine AW.seq_mid (fun ρ H => ρ = [] ∧ H = [] ∧ F148_c1 k = some r) ?_ ?_
      ·refine AW.block ?_
       refine AW.seq_mid (fun ρ H => ρ = [(0, (eStr p0))] ∧ H = [] ∧ F148_c2 k p0 = some r) ?_ ?_
       ·refine AW.block ?_
        refine AW.seq_mid (fun ρ H => ρ = [] ∧ H = [] ∧ F148_c3 k = some r) ?_ ?_
        ·refine AW.block ?_
         refine AW.seq_mid (fun ρ H => ρ = [] ∧ H = [] ∧ F148_c4 k = some r) ?_ ?_
         ·refine AW.block ?_
          refine AW.seq_mid (fun ρ H => ρ = [] ∧ H = [] ∧ F148_c5 k = some r) ?_ ?_
          ·refine AW.block ?_
           refine AW.seq ?_
           refine AW.seq ?_
           refine AW.sr ?_
           refine AO.c (x := eBool (decide ((byteAt p0 (1 : Int)) = (110 : Int)))) (Calm.int rfl rfl rfl rfl) ?_
           refine AO.ag rfl rfl ?_
           refine AO.nK [0, 5, 21, 22] ?_
           rcases of_ite h with ⟨hc46, h⟩ | ⟨hc46, h⟩
           ·refine AW.condP _ rfl hc46 ?_
            refine AW.eK [] ?_
            exact ⟨rfl, rfl, h⟩
           ·refine AW.condN _ rfl hc46 ?_
            refine AW.sK [0, 5, 21] ?_
            refine AW.seq ?_
            refine AW.sr ?_
            refine AO.c (x := eBool (decide ((byteAt p0 (1 : Int)) = (116 : Int)))) (Calm.int rfl rfl rfl rfl) ?_
            refine AO.ag rfl rfl ?_
            refine AO.nK [0, 5, 21, 24] ?_
            rcases of_ite h with ⟨hc47, h⟩ | ⟨hc47, h⟩
            ·refine AW.condP _ rfl hc47 ?_
             refine AW.eK [] ?_
             exact ⟨rfl, rfl, h⟩
            ·refine AW.condN _ rfl hc47 ?_
             refine AW.sK [0, 5, 21] ?_
             refine AW.seq ?_
             refine AW.sr ?_
             refine AO.c (x := eBool (decide ((byteAt p0 (1 : Int)) = (114 : Int)))) (Calm.int rfl rfl rfl rfl) ?_
             refine AO.ag rfl rfl ?_
             refine AO.nK [0, 5, 21, 26] ?_
             rcases of_ite h with ⟨hc48, h⟩ | ⟨hc48, h⟩
             ·refine AW.condP _ rfl hc48 ?_
              refine AW.eK [] ?_
              exact ⟨rfl, rfl, h⟩
             ·refine AW.condN _ rfl hc48 ?_
              refine AW.sK [0, 5, 21] ?_
              refine AW.seq ?_
              refine AW.sr ?_
              refine AO.c (x := eBool (decide ((byteAt p0 (1 : Int)) = (120 : Int)))) (Calm.int rfl rfl rfl rfl) ?_
              refine AO.ag rfl rfl ?_
              refine AO.nK [0, 5, 21, 28] ?_
              rcases of_ite h with ⟨hc49, h⟩ | ⟨hc49, h⟩
              ·refine AW.condP _ rfl hc49 ?_
               refine AW.eK [0] ?_
               exact ⟨rfl, rfl, h⟩
              ·refine AW.condN _ rfl hc49 ?_
               refine AW.sK [5, 21] ?_
               refine AW.sr ?_
               refine AO.c (x := eBool (decide ((byteAt p0 (1 : Int)) = (0 : Int)))) (Calm.int rfl rfl rfl rfl) ?_
               refine AO.ag rfl rfl ?_
               refine AO.nK [5, 30] ?_
               rcases of_ite h with ⟨hc50, h⟩ | ⟨hc50, h⟩
               ·refine AW.condP _ rfl hc50 ?_
                refine AW.eK [] ?_
                exact ⟨rfl, rfl, h⟩
               ·refine AW.condN _ rfl hc50 ?_
                refine AW.sK [5] ?_
                refine AW.eK [5] ?_
                exact ⟨rfl, rfl, h⟩
          ·rintro _ _ ⟨rfl, rfl, h⟩
           rw [F148_c5.eq_1] at h
           refine AW.seq ?_
           refine AW.sr ?_
           refine AO.ag rfl rfl ?_
           refine AO.ag rfl rfl ?_
           refine AO.ag rfl rfl ?_
           refine AO.nK [2, 3, 4] ?_
           refine AW.rK [2, 3, 4] ?_
           have hr := Option.some.inj h
           subst hr
           exact ⟨[(eU8 (10 : Int)), (eI64 (2 : Int)), (eBool true)], ⟨rfl, rfl, rfl, rfl, rfl, rfl, trivial⟩, rfl⟩
         ·rintro _ _ ⟨rfl, rfl, h⟩
          rw [F148_c4.eq_1] at h
          refine AW.seq ?_
          refine AW.sr ?_
          refine AO.ag rfl rfl ?_
          refine AO.ag rfl rfl ?_
          refine AO.ag rfl rfl ?_
          refine AO.nK [2, 3, 4] ?_
          refine AW.rK [2, 3, 4] ?_
          have hr := Option.some.inj h
          subst hr
          exact ⟨[(eU8 (9 : Int)), (eI64 (2 : Int)), (eBool true)], ⟨rfl, rfl, rfl, rfl, rfl, rfl, trivial⟩, rfl⟩
        ·rintro _ _ ⟨rfl, rfl, h⟩
         rw [F148_c3.eq_1] at h
         refine AW.seq ?_
         refine AW.sr ?_
         refine AO.ag rfl rfl ?_
         refine AO.ag rfl rfl ?_
         refine AO.ag rfl rfl ?_
         refine AO.nK [2, 3, 4] ?_
         refine AW.rK [2, 3, 4] ?_
         have hr := Option.some.inj h
         subst hr
         exact ⟨[(eU8 (13 : Int)), (eI64 (2 : Int)), (eBool true)], ⟨rfl, rfl, rfl, rfl, rfl, rfl, trivial⟩, rfl⟩
       ·rintro _ _ ⟨rfl, rfl, h⟩
        rw [F148_c2.eq_1] at h
        refine AW.seq ?_
        obtain ⟨b33, hq34, h⟩ := of_bind h
        refine AW.regM [(0, (eStr p0)), (46, (eBool b33))] [] ?_ ?_
        ·refine AO.mv rfl rfl ?_
         refine AO.c (Calm.lenStr rfl rfl Try.underlying9) ?_
         refine AO.c (x := eBool (decide ((4 : Int) ≤ (p0.size : Int)))) (Calm.int rfl rfl rfl rfl) ?_
         refine AO.mv rfl rfl ?_
         rcases of_ite hq34 with ⟨hc35, hq34⟩ | ⟨hc35, hq34⟩
         ·refine AO.cG rfl rfl (bD (decide_eq_true hc35)) (Calm.move rfl rfl) ?_
          obtain ⟨hg36, hq34⟩ := of_guard hq34
          refine AO.cG (x := eU8 (byteAt p0 (2 : Int))) rfl rfl (bD (decide_eq_true hc35)) (Calm.idxS rfl rfl rfl hg36 Try.underlying9) ?_
          obtain ⟨t37, et37, hq34⟩ := of_bind hq34
          refine AO.callG 3 true 35 [(eU8 (byteAt p0 (2 : Int)))] (eI64 t37) 38 rfl (by decide) ok150 rfl rfl (bD (decide_eq_true hc35)) rfl rfl ⟨rfl, rfl, trivial⟩ (F150_spec et37) ?_
          refine AO.cG (x := eBool (decide ((0 : Int) ≤ t37))) rfl rfl (bD (decide_eq_true hc35)) (Calm.int rfl rfl rfl rfl) ?_
          refine AO.c (Calm.pickT rfl (bD (decide_eq_true hc35)) rfl) ?_
          refine AO.mv rfl rfl ?_
          rcases of_ite hq34 with ⟨hc38, hq34⟩ | ⟨hc38, hq34⟩
          ·refine AO.cG rfl rfl (bD (decide_eq_true hc38)) (Calm.move rfl rfl) ?_
           obtain ⟨hg39, hq34⟩ := of_guard hq34
           refine AO.cG (x := eU8 (byteAt p0 (3 : Int))) rfl rfl (bD (decide_eq_true hc38)) (Calm.idxS rfl rfl rfl hg39 Try.underlying9) ?_
           obtain ⟨t40, et40, hq34⟩ := of_bind hq34
           refine AO.callG 9 true 41 [(eU8 (byteAt p0 (3 : Int)))] (eI64 t40) 44 rfl (by decide) ok150 rfl rfl (bD (decide_eq_true hc38)) rfl rfl ⟨rfl, rfl, trivial⟩ (F150_spec et40) ?_
           refine AO.cG (x := eBool (decide ((0 : Int) ≤ t40))) rfl rfl (bD (decide_eq_true hc38)) (Calm.int rfl rfl rfl rfl) ?_
           refine AO.c (Calm.pickT rfl (bD (decide_eq_true hc38)) rfl) ?_
           cases hq34
           refine AO.nilE ⟨rfl, rfl⟩ ?_ ?_
           · exact ⟨rfl, rfl, trivial⟩
           · exact (Sub.refl _)
          ·refine AO.sT rfl rfl (bD (decide_eq_false hc38)) ?_
           refine AO.sT rfl rfl (bD (decide_eq_false hc38)) ?_
           refine AO.sT rfl rfl (bD (decide_eq_false hc38)) ?_
           refine AO.sT rfl rfl (bD (decide_eq_false hc38)) ?_
           refine AO.c (Calm.pickF rfl (bD (decide_eq_false hc38)) rfl) ?_
           cases hq34
           refine AO.nilE ⟨rfl, rfl⟩ ?_ ?_
           · exact ⟨rfl, rfl, trivial⟩
           · exact (Sub.refl _)
         ·refine AO.sT rfl rfl (bD (decide_eq_false hc35)) ?_
          refine AO.sT rfl rfl (bD (decide_eq_false hc35)) ?_
          refine AO.sT rfl rfl (bD (decide_eq_false hc35)) ?_
          refine AO.sT rfl rfl (bD (decide_eq_false hc35)) ?_
          refine AO.c (Calm.pickF rfl (bD (decide_eq_false hc35)) rfl) ?_
          refine AO.mv rfl rfl ?_
          refine AO.sT rfl rfl rfl ?_
          refine AO.sT rfl rfl rfl ?_
          refine AO.sT rfl rfl rfl ?_
          refine AO.sT rfl rfl rfl ?_
          refine AO.c (Calm.pickF rfl rfl rfl) ?_
          cases hq34
          refine AO.nilE ⟨rfl, rfl⟩ ?_ ?_
          · exact ⟨rfl, rfl, trivial⟩
          · exact (Sub.refl _)
        ·rcases of_ite h with ⟨hc41, h⟩ | ⟨hc41, h⟩
         ·refine AW.condT' _ rfl hc41 ?_
          refine AW.seq ?_
          refine AW.regQ (by rfl) (by decide +kernel) ?_
          refine AQ.c (Calm.move rfl rfl) ?_
          obtain ⟨hg42, h⟩ := of_guard h
          refine AQ.c (x := eU8 (byteAt p0 (2 : Int))) (Calm.idxS rfl rfl rfl hg42 Try.underlying9) ?_
          obtain ⟨t43, et43, h⟩ := of_bind h
          refine AQ.c (Calm.call (args := [(eU8 (byteAt p0 (2 : Int)))]) rfl rfl ok150 ⟨rfl, rfl, trivial⟩ rfl (F150_spec et43)) ?_
          refine AQ.c (x := eI64 (IntKind.i64.wrap (t43 * 2 ^ (min (4 : Int).toNat IntKind.i64.bits)))) (Calm.shl rfl rfl rfl (by decide)) ?_
          refine AQ.c (Calm.move rfl rfl) ?_
          obtain ⟨hg44, h⟩ := of_guard h
          refine AQ.c (x := eU8 (byteAt p0 (3 : Int))) (Calm.idxS rfl rfl rfl hg44 Try.underlying9) ?_
          obtain ⟨t45, et45, h⟩ := of_bind h
          refine AQ.c (Calm.call (args := [(eU8 (byteAt p0 (3 : Int)))]) rfl rfl ok150 ⟨rfl, rfl, trivial⟩ rfl (F150_spec et45)) ?_
          refine AQ.c (x := eI64 (bits .or .i64 (IntKind.i64.wrap (t43 * 2 ^ (min (4 : Int).toNat IntKind.i64.bits))) t45)) (Calm.int rfl rfl rfl rfl) ?_
          refine AQ.c (x := eU8 (w8 (bits .or .i64 (IntKind.i64.wrap (t43 * 2 ^ (min (4 : Int).toNat IntKind.i64.bits))) t45))) (Calm.conv rfl rfl Try.underlying3 Try.underlying5) ?_
          refine AQ.c (Calm.assign rfl rfl) ?_
          refine AQ.c (Calm.assign rfl rfl) ?_
          refine AQ.c (Calm.assign rfl rfl) ?_
          refine AQ.nK [2, 3, 4] ?_
          refine AW.rK [2, 3, 4] ?_
          have hr := Option.some.inj h
          subst hr
          exact ⟨[(eU8 (w8 (bits .or .i64 (IntKind.i64.wrap (t43 * 2 ^ (min (4 : Int).toNat IntKind.i64.bits))) t45))), (eI64 (4 : Int)), (eBool true)], ⟨rfl, rfl, rfl, rfl, rfl, rfl, trivial⟩, rfl⟩
         ·refine AW.condF' _ rfl hc41 ?_
          refine AW.sK [] ?_
          exact ⟨rfl, rfl, h⟩
      ·rintro _ _ ⟨rfl, rfl, h⟩
       rw [F148_c1.eq_1] at h
       refine AW.seq ?_
       refine AW.sr ?_
       refine AO.ag rfl rfl ?_
       refine AO.ag rfl rfl ?_
       refine AO.ag rfl rfl ?_
       refine AO.nK [2, 3, 4] ?_
       refine AW.rK [2, 3, 4] ?_
       have hr := Option.some.inj h
       subst hr
       exact ⟨[(eU8 (0 : Int)), (eI64 (0 : Int)), (eBool false)], ⟨rfl, rfl, rfl, rfl, rfl, rfl, trivial⟩, rfl⟩
     ·rintro _ _ ⟨rfl, rfl, h⟩
      rw [F148_c0.eq_1] at h
      refine AW.seq ?_
      refine AW.seq ?_
      obtain ⟨b8, hq9, h⟩ := of_bind h
      refine AW.regM [(5, (eU8 (byteAt p0 (1 : Int)))), (85, (eBool b8))] [] ?_ ?_
      ·refine AO.mv rfl rfl ?_
       refine AO.c (x := eBool (decide ((48 : Int) ≤ (byteAt p0 (1 : Int))))) (Calm.int rfl rfl rfl rfl) ?_
       refine AO.mv rfl rfl ?_
       rcases of_ite hq9 with ⟨hc10, hq9⟩ | ⟨hc10, hq9⟩
       ·refine AO.cG rfl rfl (bD (decide_eq_true hc10)) (Calm.move rfl rfl) ?_
        refine AO.cG (x := eBool (decide ((byteAt p0 (1 : Int)) ≤ (57 : Int)))) rfl rfl (bD (decide_eq_true hc10)) (Calm.int rfl rfl rfl rfl) ?_
        refine AO.c (Calm.pickT rfl (bD (decide_eq_true hc10)) rfl) ?_
        refine AO.mv rfl rfl ?_
        rcases of_ite hq9 with ⟨hc11, hq9⟩ | ⟨hc11, hq9⟩
        ·refine AO.sF rfl rfl (bD (decide_eq_true hc11)) ?_
         refine AO.sF rfl rfl (bD (decide_eq_true hc11)) ?_
         refine AO.sF rfl rfl (bD (decide_eq_true hc11)) ?_
         refine AO.sU rfl rfl rfl ?_
         refine AO.sU rfl rfl rfl ?_
         refine AO.sF rfl rfl (bD (decide_eq_true hc11)) ?_
         refine AO.c (Calm.pickT rfl (bD (decide_eq_true hc11)) rfl) ?_
         refine AO.mv rfl rfl ?_
         refine AO.sF rfl rfl rfl ?_
         refine AO.sF rfl rfl rfl ?_
         refine AO.sF rfl rfl rfl ?_
         refine AO.sU rfl rfl rfl ?_
         refine AO.sU rfl rfl rfl ?_
         refine AO.sF rfl rfl rfl ?_
         refine AO.c (Calm.pickT rfl rfl rfl) ?_
         refine AO.mv rfl rfl ?_
         refine AO.sF rfl rfl rfl ?_
         refine AO.sF rfl rfl rfl ?_
         refine AO.c (Calm.pickT rfl rfl rfl) ?_
         refine AO.mv rfl rfl ?_
         refine AO.sF rfl rfl rfl ?_
         refine AO.sF rfl rfl rfl ?_
         refine AO.c (Calm.pickT rfl rfl rfl) ?_
         cases hq9
         refine AO.nilE ⟨rfl, rfl⟩ ?_ ?_
         · exact ⟨rfl, rfl, trivial⟩
         · exact (Sub.refl _)
        ·refine AO.cG rfl rfl (bD (decide_eq_false hc11)) (Calm.move rfl rfl) ?_
         refine AO.cG (x := eBool (decide ((97 : Int) ≤ (byteAt p0 (1 : Int))))) rfl rfl (bD (decide_eq_false hc11)) (Calm.int rfl rfl rfl rfl) ?_
         refine AO.cG rfl rfl (bD (decide_eq_false hc11)) (Calm.move rfl rfl) ?_
         rcases of_ite hq9 with ⟨hc12, hq9⟩ | ⟨hc12, hq9⟩
         ·refine AO.cG rfl rfl (bD (decide_eq_true hc12)) (Calm.move rfl rfl) ?_
          refine AO.cG (x := eBool (decide ((byteAt p0 (1 : Int)) ≤ (122 : Int)))) rfl rfl (bD (decide_eq_true hc12)) (Calm.int rfl rfl rfl rfl) ?_
          refine AO.cG rfl rfl (bD (decide_eq_false hc11)) (Calm.pickT rfl (bD (decide_eq_true hc12)) rfl) ?_
          refine AO.c (Calm.pickF rfl (bD (decide_eq_false hc11)) rfl) ?_
          refine AO.mv rfl rfl ?_
          rcases of_ite hq9 with ⟨hc13, hq9⟩ | ⟨hc13, hq9⟩
          ·refine AO.sF rfl rfl (bD (decide_eq_true hc13)) ?_
           refine AO.sF rfl rfl (bD (decide_eq_true hc13)) ?_
           refine AO.sF rfl rfl (bD (decide_eq_true hc13)) ?_
           refine AO.sU rfl rfl rfl ?_
           refine AO.sU rfl rfl rfl ?_
           refine AO.sF rfl rfl (bD (decide_eq_true hc13)) ?_
           refine AO.c (Calm.pickT rfl (bD (decide_eq_true hc13)) rfl) ?_
           refine AO.mv rfl rfl ?_
           refine AO.sF rfl rfl rfl ?_
           refine AO.sF rfl rfl rfl ?_
           refine AO.c (Calm.pickT rfl rfl rfl) ?_
           refine AO.mv rfl rfl ?_
           refine AO.sF rfl rfl rfl ?_
           refine AO.sF rfl rfl rfl ?_
           refine AO.c (Calm.pickT rfl rfl rfl) ?_
           cases hq9
           refine AO.nilE ⟨rfl, rfl⟩ ?_ ?_
           · exact ⟨rfl, rfl, trivial⟩
           · exact (Sub.refl _)
          ·refine AO.cG rfl rfl (bD (decide_eq_false hc13)) (Calm.move rfl rfl) ?_
           refine AO.cG (x := eBool (decide ((65 : Int) ≤ (byteAt p0 (1 : Int))))) rfl rfl (bD (decide_eq_false hc13)) (Calm.int rfl rfl rfl rfl) ?_
           refine AO.cG rfl rfl (bD (decide_eq_false hc13)) (Calm.move rfl rfl) ?_
           rcases of_ite hq9 with ⟨hc14, hq9⟩ | ⟨hc14, hq9⟩
           ·refine AO.cG rfl rfl (bD (decide_eq_true hc14)) (Calm.move rfl rfl) ?_
            refine AO.cG (x := eBool (decide ((byteAt p0 (1 : Int)) ≤ (90 : Int)))) rfl rfl (bD (decide_eq_true hc14)) (Calm.int rfl rfl rfl rfl) ?_
            refine AO.cG rfl rfl (bD (decide_eq_false hc13)) (Calm.pickT rfl (bD (decide_eq_true hc14)) rfl) ?_
            refine AO.c (Calm.pickF rfl (bD (decide_eq_false hc13)) rfl) ?_
            refine AO.mv rfl rfl ?_
            rcases of_ite hq9 with ⟨hc15, hq9⟩ | ⟨hc15, hq9⟩
            ·refine AO.sF rfl rfl (bD (decide_eq_true hc15)) ?_
             refine AO.sF rfl rfl (bD (decide_eq_true hc15)) ?_
             refine AO.c (Calm.pickT rfl (bD (decide_eq_true hc15)) rfl) ?_
             refine AO.mv rfl rfl ?_
             refine AO.sF rfl rfl rfl ?_
             refine AO.sF rfl rfl rfl ?_
             refine AO.c (Calm.pickT rfl rfl rfl) ?_
             cases hq9
             refine AO.nilE ⟨rfl, rfl⟩ ?_ ?_
             · exact ⟨rfl, rfl, trivial⟩
             · exact (Sub.refl _)
            ·refine AO.cG rfl rfl (bD (decide_eq_false hc15)) (Calm.move rfl rfl) ?_
             refine AO.cG (x := eBool (decide ((byteAt p0 (1 : Int)) < (32 : Int)))) rfl rfl (bD (decide_eq_false hc15)) (Calm.int rfl rfl rfl rfl) ?_
             refine AO.c (Calm.pickF rfl (bD (decide_eq_false hc15)) rfl) ?_
             refine AO.mv rfl rfl ?_
             rcases of_ite hq9 with ⟨hc16, hq9⟩ | ⟨hc16, hq9⟩
             ·refine AO.sF rfl rfl (bD (decide_eq_true hc16)) ?_
              refine AO.sF rfl rfl (bD (decide_eq_true hc16)) ?_
              refine AO.c (Calm.pickT rfl (bD (decide_eq_true hc16)) rfl) ?_
              cases hq9
              refine AO.nilE ⟨rfl, rfl⟩ ?_ ?_
              · exact ⟨rfl, rfl, trivial⟩
              · exact (Sub.refl _)
             ·refine AO.cG rfl rfl (bD (decide_eq_false hc16)) (Calm.move rfl rfl) ?_
              refine AO.cG (x := eBool (decide ((126 : Int) < (byteAt p0 (1 : Int))))) rfl rfl (bD (decide_eq_false hc16)) (Calm.int rfl rfl rfl rfl) ?_
              refine AO.c (Calm.pickF rfl (bD (decide_eq_false hc16)) rfl) ?_
              cases hq9
              refine AO.nilE ⟨rfl, rfl⟩ ?_ ?_
              · exact ⟨rfl, rfl, trivial⟩
              · exact (Sub.refl _)
           ·refine AO.sT rfl rfl (bD (decide_eq_false hc14)) ?_
            refine AO.sT rfl rfl (bD (decide_eq_false hc14)) ?_
            refine AO.cG rfl rfl (bD (decide_eq_false hc13)) (Calm.pickF rfl (bD (decide_eq_false hc14)) rfl) ?_
            refine AO.c (Calm.pickF rfl (bD (decide_eq_false hc13)) rfl) ?_
            refine AO.mv rfl rfl ?_
            refine AO.cG rfl rfl rfl (Calm.move rfl rfl) ?_
            refine AO.cG (x := eBool (decide ((byteAt p0 (1 : Int)) < (32 : Int)))) rfl rfl rfl (Calm.int rfl rfl rfl rfl) ?_
            refine AO.c (Calm.pickF rfl rfl rfl) ?_
            refine AO.mv rfl rfl ?_
            rcases of_ite hq9 with ⟨hc17, hq9⟩ | ⟨hc17, hq9⟩
            ·refine AO.sF rfl rfl (bD (decide_eq_true hc17)) ?_
             refine AO.sF rfl rfl (bD (decide_eq_true hc17)) ?_
             refine AO.c (Calm.pickT rfl (bD (decide_eq_true hc17)) rfl) ?_
             cases hq9
             refine AO.nilE ⟨rfl, rfl⟩ ?_ ?_
             · exact ⟨rfl, rfl, trivial⟩
             · exact (Sub.refl _)
            ·refine AO.cG rfl rfl (bD (decide_eq_false hc17)) (Calm.move rfl rfl) ?_
             refine AO.cG (x := eBool (decide ((126 : Int) < (byteAt p0 (1 : Int))))) rfl rfl (bD (decide_eq_false hc17)) (Calm.int rfl rfl rfl rfl) ?_
             refine AO.c (Calm.pickF rfl (bD (decide_eq_false hc17)) rfl) ?_
             cases hq9
             refine AO.nilE ⟨rfl, rfl⟩ ?_ ?_
             · exact ⟨rfl, rfl, trivial⟩
             · exact (Sub.refl _)
         ·refine AO.sT rfl rfl (bD (decide_eq_false hc12)) ?_
          refine AO.sT rfl rfl (bD (decide_eq_false hc12)) ?_
          refine AO.cG rfl rfl (bD (decide_eq_false hc11)) (Calm.pickF rfl (bD (decide_eq_false hc12)) rfl) ?_
          refine AO.c (Calm.pickF rfl (bD (decide_eq_false hc11)) rfl) ?_
          refine AO.mv rfl rfl ?_
          refine AO.cG rfl rfl rfl (Calm.move rfl rfl) ?_
          refine AO.cG (x := eBool (decide ((65 : Int) ≤ (byteAt p0 (1 : Int))))) rfl rfl rfl (Calm.int rfl rfl rfl rfl) ?_
          refine AO.cG rfl rfl rfl (Calm.move rfl rfl) ?_
          rcases of_ite hq9 with ⟨hc18, hq9⟩ | ⟨hc18, hq9⟩
          ·refine AO.cG rfl rfl (bD (decide_eq_true hc18)) (Calm.move rfl rfl) ?_
           refine AO.cG (x := eBool (decide ((byteAt p0 (1 : Int)) ≤ (90 : Int)))) rfl rfl (bD (decide_eq_true hc18)) (Calm.int rfl rfl rfl rfl) ?_
           refine AO.cG rfl rfl rfl (Calm.pickT rfl (bD (decide_eq_true hc18)) rfl) ?_
           refine AO.c (Calm.pickF rfl rfl rfl) ?_
           refine AO.mv rfl rfl ?_
           rcases of_ite hq9 with ⟨hc19, hq9⟩ | ⟨hc19, hq9⟩
           ·refine AO.sF rfl rfl (bD (decide_eq_true hc19)) ?_
            refine AO.sF rfl rfl (bD (decide_eq_true hc19)) ?_
            refine AO.c (Calm.pickT rfl (bD (decide_eq_true hc19)) rfl) ?_
            refine AO.mv rfl rfl ?_
            refine AO.sF rfl rfl rfl ?_
            refine AO.sF rfl rfl rfl ?_
            refine AO.c (Calm.pickT rfl rfl rfl) ?_
            cases hq9
            refine AO.nilE ⟨rfl, rfl⟩ ?_ ?_
            · exact ⟨rfl, rfl, trivial⟩
            · exact (Sub.refl _)
           ·refine AO.cG rfl rfl (bD (decide_eq_false hc19)) (Calm.move rfl rfl) ?_
            refine AO.cG (x := eBool (decide ((byteAt p0 (1 : Int)) < (32 : Int)))) rfl rfl (bD (decide_eq_false hc19)) (Calm.int rfl rfl rfl rfl) ?_
            refine AO.c (Calm.pickF rfl (bD (decide_eq_false hc19)) rfl) ?_
            refine AO.mv rfl rfl ?_
            rcases of_ite hq9 with ⟨hc20, hq9⟩ | ⟨hc20, hq9⟩
            ·refine AO.sF rfl rfl (bD (decide_eq_true hc20)) ?_
             refine AO.sF rfl rfl (bD (decide_eq_true hc20)) ?_
             refine AO.c (Calm.pickT rfl (bD (decide_eq_true hc20)) rfl) ?_
             cases hq9
             refine AO.nilE ⟨rfl, rfl⟩ ?_ ?_
             · exact ⟨rfl, rfl, trivial⟩
             · exact (Sub.refl _)
            ·refine AO.cG rfl rfl (bD (decide_eq_false hc20)) (Calm.move rfl rfl) ?_
             refine AO.cG (x := eBool (decide ((126 : Int) < (byteAt p0 (1 : Int))))) rfl rfl (bD (decide_eq_false hc20)) (Calm.int rfl rfl rfl rfl) ?_
             refine AO.c (Calm.pickF rfl (bD (decide_eq_false hc20)) rfl) ?_
             cases hq9
             refine AO.nilE ⟨rfl, rfl⟩ ?_ ?_
             · exact ⟨rfl, rfl, trivial⟩
             · exact (Sub.refl _)
          ·refine AO.sT rfl rfl (bD (decide_eq_false hc18)) ?_
           refine AO.sT rfl rfl (bD (decide_eq_false hc18)) ?_
           refine AO.cG rfl rfl rfl (Calm.pickF rfl (bD (decide_eq_false hc18)) rfl) ?_
           refine AO.c (Calm.pickF rfl rfl rfl) ?_
           refine AO.mv rfl rfl ?_
           refine AO.cG rfl rfl rfl (Calm.move rfl rfl) ?_
           refine AO.cG (x := eBool (decide ((byteAt p0 (1 : Int)) < (32 : Int)))) rfl rfl rfl (Calm.int rfl rfl rfl rfl) ?_
           refine AO.c (Calm.pickF rfl rfl rfl) ?_
           refine AO.mv rfl rfl ?_
           rcases of_ite hq9 with ⟨hc21, hq9⟩ | ⟨hc21, hq9⟩
           ·refine AO.sF rfl rfl (bD (decide_eq_true hc21)) ?_
            refine AO.sF rfl rfl (bD (decide_eq_true hc21)) ?_
            refine AO.c (Calm.pickT rfl (bD (decide_eq_true hc21)) rfl) ?_
            cases hq9
            refine AO.nilE ⟨rfl, rfl⟩ ?_ ?_
            · exact ⟨rfl, rfl, trivial⟩
            · exact (Sub.refl _)
           ·refine AO.cG rfl rfl (bD (decide_eq_false hc21)) (Calm.move rfl rfl) ?_
            refine AO.cG (x := eBool (decide ((126 : Int) < (byteAt p0 (1 : Int))))) rfl rfl (bD (decide_eq_false hc21)) (Calm.int rfl rfl rfl rfl) ?_
            refine AO.c (Calm.pickF rfl (bD (decide_eq_false hc21)) rfl) ?_
            cases hq9
            refine AO.nilE ⟨rfl, rfl⟩ ?_ ?_
            · exact ⟨rfl, rfl, trivial⟩
            · exact (Sub.refl _)
       ·refine AO.sT rfl rfl (bD (decide_eq_false hc10)) ?_
        refine AO.sT rfl rfl (bD (decide_eq_false hc10)) ?_
        refine AO.c (Calm.pickF rfl (bD (decide_eq_false hc10)) rfl) ?_
        refine AO.mv rfl rfl ?_
        refine AO.cG rfl rfl rfl (Calm.move rfl rfl) ?_
        refine AO.cG (x := eBool (decide ((97 : Int) ≤ (byteAt p0 (1 : Int))))) rfl rfl rfl (Calm.int rfl rfl rfl rfl) ?_
        refine AO.cG rfl rfl rfl (Calm.move rfl rfl) ?_
        rcases of_ite hq9 with ⟨hc22, hq9⟩ | ⟨hc22, hq9⟩
        ·refine AO.cG rfl rfl (bD (decide_eq_true hc22)) (Calm.move rfl rfl) ?_
         refine AO.cG (x := eBool (decide ((byteAt p0 (1 : Int)) ≤ (122 : Int)))) rfl rfl (bD (decide_eq_true hc22)) (Calm.int rfl rfl rfl rfl) ?_
         refine AO.cG rfl rfl rfl (Calm.pickT rfl (bD (decide_eq_true hc22)) rfl) ?_
         refine AO.c (Calm.pickF rfl rfl rfl) ?_
         refine AO.mv rfl rfl ?_
         rcases of_ite hq9 with ⟨hc23, hq9⟩ | ⟨hc23, hq9⟩
         ·refine AO.sF rfl rfl (bD (decide_eq_true hc23)) ?_
          refine AO.sF rfl rfl (bD (decide_eq_true hc23)) ?_
          refine AO.sF rfl rfl (bD (decide_eq_true hc23)) ?_
          refine AO.sU rfl rfl rfl ?_
          refine AO.sU rfl rfl rfl ?_
          refine AO.sF rfl rfl (bD (decide_eq_true hc23)) ?_
          refine AO.c (Calm.pickT rfl (bD (decide_eq_true hc23)) rfl) ?_
          refine AO.mv rfl rfl ?_
          refine AO.sF rfl rfl rfl ?_
          refine AO.sF rfl rfl rfl ?_
          refine AO.c (Calm.pickT rfl rfl rfl) ?_
          refine AO.mv rfl rfl ?_
          refine AO.sF rfl rfl rfl ?_
          refine AO.sF rfl rfl rfl ?_
          refine AO.c (Calm.pickT rfl rfl rfl) ?_
          cases hq9
          refine AO.nilE ⟨rfl, rfl⟩ ?_ ?_
          · exact ⟨rfl, rfl, trivial⟩
          · exact (Sub.refl _)
         ·refine AO.cG rfl rfl (bD (decide_eq_false hc23)) (Calm.move rfl rfl) ?_
          refine AO.cG (x := eBool (decide ((65 : Int) ≤ (byteAt p0 (1 : Int))))) rfl rfl (bD (decide_eq_false hc23)) (Calm.int rfl rfl rfl rfl) ?_
          refine AO.cG rfl rfl (bD (decide_eq_false hc23)) (Calm.move rfl rfl) ?_
          rcases of_ite hq9 with ⟨hc24, hq9⟩ | ⟨hc24, hq9⟩
          ·refine AO.cG rfl rfl (bD (decide_eq_true hc24)) (Calm.move rfl rfl) ?_
           refine AO.cG (x := eBool (decide ((byteAt p0 (1 : Int)) ≤ (90 : Int)))) rfl rfl (bD (decide_eq_true hc24)) (Calm.int rfl rfl rfl rfl) ?_
           refine AO.cG rfl rfl (bD (decide_eq_false hc23)) (Calm.pickT rfl (bD (decide_eq_true hc24)) rfl) ?_
           refine AO.c (Calm.pickF rfl (bD (decide_eq_false hc23)) rfl) ?_
           refine AO.mv rfl rfl ?_
           rcases of_ite hq9 with ⟨hc25, hq9⟩ | ⟨hc25, hq9⟩
           ·refine AO.sF rfl rfl (bD (decide_eq_true hc25)) ?_
            refine AO.sF rfl rfl (bD (decide_eq_true hc25)) ?_
            refine AO.c (Calm.pickT rfl (bD (decide_eq_true hc25)) rfl) ?_
            refine AO.mv rfl rfl ?_
            refine AO.sF rfl rfl rfl ?_
            refine AO.sF rfl rfl rfl ?_
            refine AO.c (Calm.pickT rfl rfl rfl) ?_
            cases hq9
            refine AO.nilE ⟨rfl, rfl⟩ ?_ ?_
            · exact ⟨rfl, rfl, trivial⟩
            · exact (Sub.refl _)
           ·refine AO.cG rfl rfl (bD (decide_eq_false hc25)) (Calm.move rfl rfl) ?_
            refine AO.cG (x := eBool (decide ((byteAt p0 (1 : Int)) < (32 : Int)))) rfl rfl (bD (decide_eq_false hc25)) (Calm.int rfl rfl rfl rfl) ?_
            refine AO.c (Calm.pickF rfl (bD (decide_eq_false hc25)) rfl) ?_
            refine AO.mv rfl rfl ?_
            rcases of_ite hq9 with ⟨hc26, hq9⟩ | ⟨hc26, hq9⟩
            ·refine AO.sF rfl rfl (bD (decide_eq_true hc26)) ?_
             refine AO.sF rfl rfl (bD (decide_eq_true hc26)) ?_
             refine AO.c (Calm.pickT rfl (bD (decide_eq_true hc26)) rfl) ?_
             cases hq9
             refine AO.nilE ⟨rfl, rfl⟩ ?_ ?_
             · exact ⟨rfl, rfl, trivial⟩
             · exact (Sub.refl _)
            ·refine AO.cG rfl rfl (bD (decide_eq_false hc26)) (Calm.move rfl rfl) ?_
             refine AO.cG (x := eBool (decide ((126 : Int) < (byteAt p0 (1 : Int))))) rfl rfl (bD (decide_eq_false hc26)) (Calm.int rfl rfl rfl rfl) ?_
             refine AO.c (Calm.pickF rfl (bD (decide_eq_false hc26)) rfl) ?_
             cases hq9
             refine AO.nilE ⟨rfl, rfl⟩ ?_ ?_
             · exact ⟨rfl, rfl, trivial⟩
             · exact (Sub.refl _)
          ·refine AO.sT rfl rfl (bD (decide_eq_false hc24)) ?_
           refine AO.sT rfl rfl (bD (decide_eq_false hc24)) ?_
           refine AO.cG rfl rfl (bD (decide_eq_false hc23)) (Calm.pickF rfl (bD (decide_eq_false hc24)) rfl) ?_
           refine AO.c (Calm.pickF rfl (bD (decide_eq_false hc23)) rfl) ?_
           refine AO.mv rfl rfl ?_
           refine AO.cG rfl rfl rfl (Calm.move rfl rfl) ?_
           refine AO.cG (x := eBool (decide ((byteAt p0 (1 : Int)) < (32 : Int)))) rfl rfl rfl (Calm.int rfl rfl rfl rfl) ?_
           refine AO.c (Calm.pickF rfl rfl rfl) ?_
           refine AO.mv rfl rfl ?_
           rcases of_ite hq9 with ⟨hc27, hq9⟩ | ⟨hc27, hq9⟩
           ·refine AO.sF rfl rfl (bD (decide_eq_true hc27)) ?_
            refine AO.sF rfl rfl (bD (decide_eq_true hc27)) ?_
            refine AO.c (Calm.pickT rfl (bD (decide_eq_true hc27)) rfl) ?_
            cases hq9
            refine AO.nilE ⟨rfl, rfl⟩ ?_ ?_
            · exact ⟨rfl, rfl, trivial⟩
            · exact (Sub.refl _)
           ·refine AO.cG rfl rfl (bD (decide_eq_false hc27)) (Calm.move rfl rfl) ?_
            refine AO.cG (x := eBool (decide ((126 : Int) < (byteAt p0 (1 : Int))))) rfl rfl (bD (decide_eq_false hc27)) (Calm.int rfl rfl rfl rfl) ?_
            refine AO.c (Calm.pickF rfl (bD (decide_eq_false hc27)) rfl) ?_
            cases hq9
            refine AO.nilE ⟨rfl, rfl⟩ ?_ ?_
            · exact ⟨rfl, rfl, trivial⟩
            · exact (Sub.refl _)
        ·refine AO.sT rfl rfl (bD (decide_eq_false hc22)) ?_
         refine AO.sT rfl rfl (bD (decide_eq_false hc22)) ?_
         refine AO.cG rfl rfl rfl (Calm.pickF rfl (bD (decide_eq_false hc22)) rfl) ?_
         refine AO.c (Calm.pickF rfl rfl rfl) ?_
         refine AO.mv rfl rfl ?_
         refine AO.cG rfl rfl rfl (Calm.move rfl rfl) ?_
         refine AO.cG (x := eBool (decide ((65 : Int) ≤ (byteAt p0 (1 : Int))))) rfl rfl rfl (Calm.int rfl rfl rfl rfl) ?_
         refine AO.cG rfl rfl rfl (Calm.move rfl rfl) ?_
         rcases of_ite hq9 with ⟨hc28, hq9⟩ | ⟨hc28, hq9⟩
         ·refine AO.cG rfl rfl (bD (decide_eq_true hc28)) (Calm.move rfl rfl) ?_
          refine AO.cG (x := eBool (decide ((byteAt p0 (1 : Int)) ≤ (90 : Int)))) rfl rfl (bD (decide_eq_true hc28)) (Calm.int rfl rfl rfl rfl) ?_
          refine AO.cG rfl rfl rfl (Calm.pickT rfl (bD (decide_eq_true hc28)) rfl) ?_
          refine AO.c (Calm.pickF rfl rfl rfl) ?_
          refine AO.mv rfl rfl ?_
          rcases of_ite hq9 with ⟨hc29, hq9⟩ | ⟨hc29, hq9⟩
          ·refine AO.sF rfl rfl (bD (decide_eq_true hc29)) ?_
           refine AO.sF rfl rfl (bD (decide_eq_true hc29)) ?_
           refine AO.c (Calm.pickT rfl (bD (decide_eq_true hc29)) rfl) ?_
           refine AO.mv rfl rfl ?_
           refine AO.sF rfl rfl rfl ?_
           refine AO.sF rfl rfl rfl ?_
           refine AO.c (Calm.pickT rfl rfl rfl) ?_
           cases hq9
           refine AO.nilE ⟨rfl, rfl⟩ ?_ ?_
           · exact ⟨rfl, rfl, trivial⟩
           · exact (Sub.refl _)
          ·refine AO.cG rfl rfl (bD (decide_eq_false hc29)) (Calm.move rfl rfl) ?_
           refine AO.cG (x := eBool (decide ((byteAt p0 (1 : Int)) < (32 : Int)))) rfl rfl (bD (decide_eq_false hc29)) (Calm.int rfl rfl rfl rfl) ?_
           refine AO.c (Calm.pickF rfl (bD (decide_eq_false hc29)) rfl) ?_
           refine AO.mv rfl rfl ?_
           rcases of_ite hq9 with ⟨hc30, hq9⟩ | ⟨hc30, hq9⟩
           ·refine AO.sF rfl rfl (bD (decide_eq_true hc30)) ?_
            refine AO.sF rfl rfl (bD (decide_eq_true hc30)) ?_
            refine AO.c (Calm.pickT rfl (bD (decide_eq_true hc30)) rfl) ?_
            cases hq9
            refine AO.nilE ⟨rfl, rfl⟩ ?_ ?_
            · exact ⟨rfl, rfl, trivial⟩
            · exact (Sub.refl _)
           ·refine AO.cG rfl rfl (bD (decide_eq_false hc30)) (Calm.move rfl rfl) ?_
            refine AO.cG (x := eBool (decide ((126 : Int) < (byteAt p0 (1 : Int))))) rfl rfl (bD (decide_eq_false hc30)) (Calm.int rfl rfl rfl rfl) ?_
            refine AO.c (Calm.pickF rfl (bD (decide_eq_false hc30)) rfl) ?_
            cases hq9
            refine AO.nilE ⟨rfl, rfl⟩ ?_ ?_
            · exact ⟨rfl, rfl, trivial⟩
            · exact (Sub.refl _)
         ·refine AO.sT rfl rfl (bD (decide_eq_false hc28)) ?_
          refine AO.sT rfl rfl (bD (decide_eq_false hc28)) ?_
          refine AO.cG rfl rfl rfl (Calm.pickF rfl (bD (decide_eq_false hc28)) rfl) ?_
          refine AO.c (Calm.pickF rfl rfl rfl) ?_
          refine AO.mv rfl rfl ?_
          refine AO.cG rfl rfl rfl (Calm.move rfl rfl) ?_
          refine AO.cG (x := eBool (decide ((byteAt p0 (1 : Int)) < (32 : Int)))) rfl rfl rfl (Calm.int rfl rfl rfl rfl) ?_
          refine AO.c (Calm.pickF rfl rfl rfl) ?_
          refine AO.mv rfl rfl ?_
          rcases of_ite hq9 with ⟨hc31, hq9⟩ | ⟨hc31, hq9⟩
          ·refine AO.sF rfl rfl (bD (decide_eq_true hc31)) ?_
           refine AO.sF rfl rfl (bD (decide_eq_true hc31)) ?_
           refine AO.c (Calm.pickT rfl (bD (decide_eq_true hc31)) rfl) ?_
           cases hq9
           refine AO.nilE ⟨rfl, rfl⟩ ?_ ?_
           · exact ⟨rfl, rfl, trivial⟩
           · exact (Sub.refl _)
          ·refine AO.cG rfl rfl (bD (decide_eq_false hc31)) (Calm.move rfl rfl) ?_
           refine AO.cG (x := eBool (decide ((126 : Int) < (byteAt p0 (1 : Int))))) rfl rfl (bD (decide_eq_false hc31)) (Calm.int rfl rfl rfl rfl) ?_
           refine AO.c (Calm.pickF rfl (bD (decide_eq_false hc31)) rfl) ?_
           cases hq9
           refine AO.nilE ⟨rfl, rfl⟩ ?_ ?_
           · exact ⟨rfl, rfl, trivial⟩
           · exact (Sub.refl _)
      ·rcases of_ite h with ⟨hc32, h⟩ | ⟨hc32, h⟩
       ·refine AW.condT' _ rfl hc32 ?_
        refine AW.sr ?_
        refine AO.ag rfl rfl ?_
        refine AO.ag rfl rfl ?_
        refine AO.ag rfl rfl ?_
        refine AO.nK [2, 3, 4] ?_
        refine AW.rK [2, 3, 4] ?_
        have hr := Option.some.inj h
        subst hr
        exact ⟨[(eU8 (0 : Int)), (eI64 (0 : Int)), (eBool false)], ⟨rfl, rfl, rfl, rfl, rfl, rfl, trivial⟩, rfl⟩
       ·refine AW.condF' _ rfl hc32 ?_
        refine AW.sK [5] ?_
        refine AW.sr ?_
        refine AO.mv rfl rfl ?_
        refine AO.ag rfl rfl ?_
        refine AO.ag rfl rfl ?_
        refine AO.ag rfl rfl ?_
        refine AO.nK [2, 3, 4] ?_
        refine AW.rK [2, 3, 4] ?_
        have hr := Option.some.inj h
        subst hr
        exact ⟨[(eU8 (byteAt p0 (1 : Int))), (eI64 (2 : Int)), (eBool true)], ⟨rfl, rfl, rfl, rfl, rfl, rfl, trivial⟩, rfl⟩
end Go.Avl.T7
/- (*bosket/rex.reader).byte; printed by avmain.py. -/
namespace Go.Avl.T7
open Go Go.RowKit Go.Proofs Go.Avl
set_option linter.unusedVariables false
set_option maxRecDepth 100000
set_option maxHeartbeats 4000000
attribute [local irreducible] AW AO AQ Spec SpecH Calm

def F144 (k : Nat) (p0 : S140) : Option (Int × Bool × S140) :=
  if 0 ≤ p0.f1 ∧ p0.f1 ≤ (p0.f0.size : Int) ∧ (p0.f0.size : Int) ≤ (p0.f0.size : Int) then (F148 k (p0.f0.extract p0.f1.toNat (p0.f0.size : Int).toNat)).bind fun t3 =>
  some (t3.1, t3.2.2, (S140.mk p0.f0 (w64 (p0.f1 + t3.2.1)) p0.f2))
  else none
theorem F144_spec {k : Nat} {p0 : S140} {r : (Int × Bool × S140)} (h : F144 k p0 = some r) {q0 : Nat} {T0 : Heap} : SpecH Try.prog 144 [(.ptr q0 0)] ((q0, (.mem (e140 p0))) :: T0) (fun x H' => x = .tup [(eU8 r.1), (eBool r.2.1)] ∧ Sub ((q0, (.mem (e140 r.2.2))) :: T0) H') := by
  rw [F144.eq_1] at h
  refine SpecH.intro (res := [.tmp 2, .tmp 3]) Try.func144 rfl rfl rfl (Nat.le_of_ble_eq_true rfl) ?_
  refine AW.sr ?_
  refine AO.ag rfl rfl ?_
  refine AO.ag rfl rfl ?_
  refine AO.nK [0] ?_
  refine AW.seq ?_
  refine AW.regQ (by rfl) (by decide +kernel) ?_
  refine AQ.c (Calm.move rfl rfl) ?_
  refine AQ.c (Calm.nilCheck rfl rfl) ?_
  refine AQ.c (x := .ptr q0 0) (Calm.fldPtr rfl rfl Try.underlying140 rfl sz9 _ rfl) ?_
  refine AQ.c (Calm.load 0 rfl rfl rfl (At.cast (At.fld0 At.here) rfl) ag9 sz9) ?_
  refine AQ.c (Calm.move rfl rfl) ?_
  refine AQ.c (Calm.nilCheck rfl rfl) ?_
  refine AQ.c (x := .ptr q0 1) (Calm.fldPtr rfl rfl Try.underlying140 rfl sz3 _ rfl) ?_
  refine AQ.c (Calm.load 0 rfl rfl rfl (At.cast (At.fldS (At.fld0 At.here)) rfl) ag3 sz3) ?_
  obtain ⟨hg2, h⟩ := of_guard h
  refine AQ.c (x := eStr (p0.f0.extract p0.f1.toNat (p0.f0.size : Int).toNat)) (Calm.sliceS rfl rfl rfl rfl hg2 Try.underlying9) ?_
  obtain ⟨t3, et3, h⟩ := of_bind h
  refine AQ.c (Calm.call (args := [(eStr (p0.f0.extract p0.f1.toNat (p0.f0.size : Int).toNat))]) rfl rfl ok148 ⟨rfl, rfl, trivial⟩ rfl (F148_spec et3)) ?_
  refine AQ.c (Calm.move rfl rfl) ?_
  refine AQ.c (Calm.extract rfl rfl rfl) ?_
  refine AQ.c (Calm.extract rfl rfl rfl) ?_
  refine AQ.c (Calm.extract rfl rfl rfl) ?_
  refine AQ.c (Calm.assign rfl rfl) ?_
  refine AQ.c (Calm.assign rfl rfl) ?_
  refine AQ.c (Calm.assign rfl rfl) ?_
  refine AQ.nK [0, 4, 5, 6] ?_
  refine AW.sr ?_
  refine AO.mv rfl rfl ?_
  refine AO.c (Calm.nilCheck rfl rfl) ?_
  refine AO.c (x := .ptr q0 1) (Calm.fldPtr rfl rfl Try.underlying140 rfl sz3 _ rfl) ?_
  refine AO.c (Calm.load 0 rfl rfl rfl (At.cast (At.fldS (At.fld0 At.here)) rfl) ag3 sz3) ?_
  refine AO.mv rfl rfl ?_
  refine AO.c (x := eI64 (w64 (p0.f1 + t3.2.1))) (Calm.int rfl rfl rfl rfl) ?_
  refine AO.c (Calm.nilCheck rfl rfl) ?_
  refine AO.c (x := .ptr q0 1) (Calm.fldPtr rfl rfl Try.underlying140 rfl sz3 _ rfl) ?_
  refine AO.store (X' := (.st [(1, (eStr p0.f0)), (1, (eI64 (w64 (p0.f1 + t3.2.1)))), (1, (eI64 p0.f2))])) 0 rfl rfl rfl rfl rfl rfl (Put.cast (Put.fldS (Put.fld0 Put.here)) rfl) rfl rfl sz3 rfl ?_
  refine AO.nK [4, 6] ?_
  refine AW.sr ?_
  refine AO.mv rfl rfl ?_
  refine AO.mv rfl rfl ?_
  refine AO.ag rfl rfl ?_
  refine AO.ag rfl rfl ?_
  refine AO.nK [2, 3] ?_
  refine AW.rK [2, 3] ?_
  have hr := Option.some.inj h
  subst hr
  exact ⟨[(eU8 t3.1), (eBool t3.2.2)], ⟨rfl, rfl, rfl, rfl, trivial⟩, rfl, (Sub.cons 0 rfl (Sub.refl _))⟩
end Go.Avl.T7
/- bosket/byteset.Range; printed by avmain.py. -/
namespace Go.Avl.T7
open Go Go.RowKit Go.Proofs Go.Avl
set_option linter.unusedVariables false
set_option maxRecDepth 100000
set_option maxHeartbeats 4000000
attribute [local irreducible] AW AO AQ Spec SpecH Calm

def F146_c0 (k : Nat) (x5 : (Vector Int 4)) : Option (Vector Int 4) :=
  some (x5)
def F146_l1 (k : Nat) (p1 : Int) : Nat → (Vector Int 4) → Int → Option (Vector Int 4)
  | 0, _, _ => none
  | j + 1, x6, x7 =>
    if x7 ≤ (w64 p1) then if 0 ≤ (IntKind.i64.wrap (x7.tdiv (64 : Int))) ∧ (IntKind.i64.wrap (x7.tdiv (64 : Int))) < (4 : Int) then if 0 ≤ (u64 (x7.tmod (64 : Int))) then if 0 ≤ (IntKind.i64.wrap (x7.tdiv (64 : Int))) ∧ (IntKind.i64.wrap (x7.tdiv (64 : Int))) < (4 : Int) then (F146_l1 k p1 j) (vset x6 (IntKind.i64.wrap (x7.tdiv (64 : Int))) (bits .or .u64 (vget x6 (IntKind.i64.wrap (x7.tdiv (64 : Int)))) (IntKind.u64.wrap ((1 : Int) * 2 ^ (min (u64 (x7.tmod (64 : Int))).toNat IntKind.u64.bits))))) (w64 (x7 + (1 : Int)))
    else none
    else none
    else none
    else F146_c0 k x6
def F146 (k : Nat) (p0 : Int) (p1 : Int) : Option (Vector Int 4) :=
  F146_l1 k p1 k (Vector.replicate 4 (0 : Int)) (w64 p0)
theorem F146_spec {k : Nat} {p0 : Int} {p1 : Int} {r : (Vector Int 4)} (h : F146 k p0 p1 = some r) : Spec Try.prog 146 [(eU8 p0), (eU8 p1)] (e62 r) := by
  rw [F146.eq_1] at h
  refine Spec.intro (res := [.cell 4 62]) Try.func146 rfl rfl rfl (Nat.le_of_ble_eq_true rfl) ?_
  refine AW.sr ?_
  refine AO.alloc rfl 4 rfl (by decide) rfl zr62 lay62 fun n3 => ?_
  refine AO.nK [0, 1, 4] ?_
  refine AW.sr ?_
  refine AO.alloc rfl 5 rfl (by decide) rfl zr62 lay62 fun n4 => ?_
  refine AO.nH [0, 1, 4, 5] (H' := [(n3, (.mem (.ar 1 ((Vector.replicate 4 (0 : Int)).toList.map eU64)))), (n4, (.mem (.ar 1 ((Vector.replicate 4 (0 : Int)).toList.map eU64))))]) (Sub.cons 1 rfl (Sub.cons 0 rfl (Sub.nil _))) ?_
  refine AW.seq_mid (fun ρ H => ∃ (x5 : (Vector Int 4)), ρ = [(4, (.ptr n3 0)), (5, (.ptr n4 0))] ∧ H = [(n3, (.mem (.ar 1 ((Vector.replicate 4 (0 : Int)).toList.map eU64)))), (n4, (.mem (.ar 1 (x5.toList.map eU64))))] ∧ F146_c0 k x5 = some r) ?_ ?_
  ·refine AW.sr ?_
   refine AO.mv rfl rfl ?_
   refine AO.c (x := eI64 (w64 p0)) (Calm.conv rfl rfl Try.underlying5 Try.underlying3) ?_
   refine AO.ag rfl rfl ?_
   refine AO.nK [1, 4, 5, 6] ?_
   refine AW.block ?_
   refine AW.wK [1, 4, 5, 6] ?_
   refine AW.loop (fun kq ρ H => ∃ (x6 : (Vector Int 4)) (x7 : Int), ρ = [(1, (eU8 p1)), (4, (.ptr n3 0)), (5, (.ptr n4 0)), (6, (eI64 x7))] ∧ H = [(n3, (.mem (.ar 1 ((Vector.replicate 4 (0 : Int)).toList.map eU64)))), (n4, (.mem (.ar 1 (x6.toList.map eU64))))] ∧ F146_l1 k p1 kq x6 x7 = some r) k ⟨(Vector.replicate 4 (0 : Int)), (w64 p0), rfl, rfl, h⟩ ?_
   rintro kq9 _ _ ⟨x6, x7, rfl, rfl, h⟩
   cases kq9 with
   | zero => rw [F146_l1.eq_1] at h; cases h
   | succ kq9 =>
   rw [F146_l1.eq_2] at h
   generalize hrec8 : F146_l1 k p1 kq9 = rec8 at h
   refine AW.seq ?_
   refine AW.sr ?_
   refine AO.mv rfl rfl ?_
   refine AO.mv rfl rfl ?_
   refine AO.c (x := eI64 (w64 p1)) (Calm.conv rfl rfl Try.underlying5 Try.underlying3) ?_
   refine AO.c (x := eBool (decide (x7 ≤ (w64 p1)))) (Calm.int rfl rfl rfl rfl) ?_
   refine AO.nK [1, 4, 5, 6, 12] ?_
   rcases of_ite h with ⟨hc10, h⟩ | ⟨hc10, h⟩
   ·refine AW.condP _ rfl hc10 ?_
    refine AW.sK [1, 4, 5, 6] ?_
    refine AW.seq ?_
    refine AW.block ?_
    refine AW.reg ?_
    refine AO.mv rfl rfl ?_
    refine AO.c (x := eI64 (IntKind.i64.wrap (x7.tdiv (64 : Int)))) (Calm.quo rfl rfl rfl (by decide)) ?_
    obtain ⟨hg11, h⟩ := of_guard h
    refine AO.c (Calm.idxP rfl rfl rfl hg11 Try.underlying62 sz60) ?_
    refine AO.c (Calm.load 1 rfl rfl rfl (At.cast (At.vidx (IntKind.i64.wrap (x7.tdiv (64 : Int))) hg11.1 hg11.2 At.here) (by omega)) ag60 sz60) ?_
    refine AO.mv rfl rfl ?_
    refine AO.c (x := eI64 (x7.tmod (64 : Int))) (Calm.rem rfl rfl rfl (by decide)) ?_
    refine AO.c (x := eU64 (u64 (x7.tmod (64 : Int)))) (Calm.conv rfl rfl Try.underlying3 Try.underlying186) ?_
    obtain ⟨hg12, h⟩ := of_guard h
    refine AO.c (x := eU64 (IntKind.u64.wrap ((1 : Int) * 2 ^ (min (u64 (x7.tmod (64 : Int))).toNat IntKind.u64.bits)))) (Calm.shl rfl rfl rfl hg12) ?_
    refine AO.c (x := eU64 (bits .or .u64 (vget x6 (IntKind.i64.wrap (x7.tdiv (64 : Int)))) (IntKind.u64.wrap ((1 : Int) * 2 ^ (min (u64 (x7.tmod (64 : Int))).toNat IntKind.u64.bits))))) (Calm.int rfl rfl rfl rfl) ?_
    obtain ⟨hg13, h⟩ := of_guard h
    refine AO.c (Calm.idxP rfl rfl rfl hg13 Try.underlying62 sz60) ?_
    refine AO.store (X' := (.ar 1 ((vset x6 (IntKind.i64.wrap (x7.tdiv (64 : Int))) (bits .or .u64 (vget x6 (IntKind.i64.wrap (x7.tdiv (64 : Int)))) (IntKind.u64.wrap ((1 : Int) * 2 ^ (min (u64 (x7.tmod (64 : Int))).toNat IntKind.u64.bits))))).toList.map eU64))) 1 rfl rfl rfl rfl rfl rfl (Put.cast (Put.vidx (IntKind.i64.wrap (x7.tdiv (64 : Int))) (bits .or .u64 (vget x6 (IntKind.i64.wrap (x7.tdiv (64 : Int)))) (IntKind.u64.wrap ((1 : Int) * 2 ^ (min (u64 (x7.tmod (64 : Int))).toNat IntKind.u64.bits)))) hg13.1 hg13.2 Put.here) (by omega)) rfl rfl sz60 rfl ?_
    refine AO.nK [1, 4, 5, 6] ?_
    refine AW.reg ?_
    refine AO.mv rfl rfl ?_
    refine AO.c (x := eI64 (w64 (x7 + (1 : Int)))) (Calm.int rfl rfl rfl rfl) ?_
    refine AO.ag rfl rfl ?_
    refine AO.nK [1, 4, 5, 6] ?_
    exact ⟨kq9, Nat.lt_succ_self _, (vset x6 (IntKind.i64.wrap (x7.tdiv (64 : Int))) (bits .or .u64 (vget x6 (IntKind.i64.wrap (x7.tdiv (64 : Int)))) (IntKind.u64.wrap ((1 : Int) * 2 ^ (min (u64 (x7.tmod (64 : Int))).toNat IntKind.u64.bits))))), (w64 (x7 + (1 : Int))), rfl, rfl, by rw [hrec8]; exact h⟩
   ·refine AW.condN _ rfl hc10 ?_
    refine AW.eK [4, 5] ?_
    exact ⟨x6, rfl, rfl, h⟩
  ·rintro _ _ ⟨x5, rfl, rfl, h⟩
   rw [F146_c0.eq_1] at h
   refine AW.sr ?_
   refine AO.c (Calm.load 1 rfl rfl rfl (At.cast At.here rfl) ag62 (by rw [sz62]; simp [AV.size])) ?_
   refine AO.store (X' := (.ar 1 (x5.toList.map eU64))) 0 rfl rfl rfl rfl rfl rfl (Put.cast Put.here rfl) rfl (by simp [AV.size]) (by rw [sz62]; simp [AV.size]) rfl ?_
   refine AO.nH [4] (H' := [(n3, (.mem (.ar 1 (x5.toList.map eU64))))]) (Sub.cons 0 rfl (Sub.nil _)) ?_
   refine AW.rK [4] ?_
   have hr := Option.some.inj h
   subst hr
   exact ⟨[(.ar 1 (x5.toList.map eU64))], ⟨⟨_, 0, rfl, rfl, ag62, (by rw [sz62]; simp [AV.size])⟩, trivial⟩, rfl⟩
end Go.Avl.T7
/- bosket/byteset.Or; printed by avmain.py. -/
namespace Go.Avl.T7
open Go Go.RowKit Go.Proofs Go.Avl
set_option linter.unusedVariables false
set_option maxRecDepth 100000
set_option maxHeartbeats 4000000
attribute [local irreducible] AW AO AQ Spec SpecH Calm

def F145_c0 (k : Nat) (x6 : (Vector Int 4)) : Option (Vector Int 4) :=
  some (x6)
def F145_l1 (k : Nat) (p1 : (Vector Int 4)) : Nat → (Vector Int 4) → Int → Option (Vector Int 4)
  | 0, _, _ => none
  | j + 1, x7, x8 =>
    if x8 < (4 : Int) then if 0 ≤ x8 ∧ x8 < (4 : Int) then if 0 ≤ x8 ∧ x8 < (4 : Int) then if 0 ≤ x8 ∧ x8 < (4 : Int) then (F145_l1 k p1 j) (vset x7 x8 (bits .or .u64 (vget x7 x8) (vget p1 x8))) (w64 (x8 + (1 : Int)))
    else none
    else none
    else none
    else F145_c0 k x7
def F145 (k : Nat) (p0 : (Vector Int 4)) (p1 : (Vector Int 4)) : Option (Vector Int 4) :=
  F145_l1 k p1 k p0 (0 : Int)
theorem F145_spec {k : Nat} {p0 : (Vector Int 4)} {p1 : (Vector Int 4)} {r : (Vector Int 4)} (h : F145 k p0 p1 = some r) : Spec Try.prog 145 [(.ar 1 (p0.toList.map eU64)), (.ar 1 (p1.toList.map eU64))] (e62 r) := by
  rw [F145.eq_1] at h
  refine Spec.intro (res := [.cell 4 62]) Try.func145 rfl rfl rfl (Nat.le_of_ble_eq_true rfl) ?_
  refine AW.sr ?_
  refine AO.box rfl 2 rfl (by decide) rfl rfl rfl fun n3 => ?_
  refine AO.box rfl 3 rfl (by decide) rfl rfl rfl fun n4 => ?_
  refine AO.alloc rfl 4 rfl (by decide) rfl zr62 lay62 fun n5 => ?_
  refine AO.nH [2, 3, 4] (H' := [(n3, (.mem (.ar 1 (p0.toList.map eU64)))), (n4, (.mem (.ar 1 (p1.toList.map eU64)))), (n5, (.mem (.ar 1 ((Vector.replicate 4 (0 : Int)).toList.map eU64))))]) (Sub.cons 2 rfl (Sub.cons 1 rfl (Sub.cons 0 rfl (Sub.nil _)))) ?_
  refine AW.seq_mid (fun ρ H => ∃ (x6 : (Vector Int 4)), ρ = [(2, (.ptr n3 0)), (4, (.ptr n5 0))] ∧ H = [(n3, (.mem (.ar 1 (x6.toList.map eU64)))), (n5, (.mem (.ar 1 ((Vector.replicate 4 (0 : Int)).toList.map eU64))))] ∧ F145_c0 k x6 = some r) ?_ ?_
  ·refine AW.sr ?_
   refine AO.mv rfl rfl ?_
   refine AO.nK [2, 3, 4, 6] ?_
   refine AW.block ?_
   refine AW.wK [2, 3, 4, 6] ?_
   refine AW.loop (fun kq ρ H => ∃ (x7 : (Vector Int 4)) (x8 : Int), ρ = [(2, (.ptr n3 0)), (3, (.ptr n4 0)), (4, (.ptr n5 0)), (6, (eI64 x8))] ∧ H = [(n3, (.mem (.ar 1 (x7.toList.map eU64)))), (n4, (.mem (.ar 1 (p1.toList.map eU64)))), (n5, (.mem (.ar 1 ((Vector.replicate 4 (0 : Int)).toList.map eU64))))] ∧ F145_l1 k p1 kq x7 x8 = some r) k ⟨p0, (0 : Int), rfl, rfl, h⟩ ?_
   rintro kq10 _ _ ⟨x7, x8, rfl, rfl, h⟩
   cases kq10 with
   | zero => rw [F145_l1.eq_1] at h; cases h
   | succ kq10 =>
   rw [F145_l1.eq_2] at h
   generalize hrec9 : F145_l1 k p1 kq10 = rec9 at h
   refine AW.sr ?_
   refine AO.c (x := eBool (decide (x8 < (4 : Int)))) (Calm.int rfl rfl rfl rfl) ?_
   refine AO.nK [2, 3, 4, 6, 7] ?_
   refine AW.seq ?_
   rcases of_ite h with ⟨hc11, h⟩ | ⟨hc11, h⟩
   ·refine AW.condP _ rfl hc11 ?_
    refine AW.sK [2, 3, 4, 6] ?_
    refine AW.seq ?_
    refine AW.block ?_
    refine AW.sr ?_
    refine AO.mv rfl rfl ?_
    refine AO.ag rfl rfl ?_
    refine AO.nK [2, 3, 4, 5, 6] ?_
    obtain ⟨hg12, h⟩ := of_guard h
    obtain ⟨hg13, h⟩ := of_guard h
    obtain ⟨hg14, h⟩ := of_guard h
    refine AW.regAnyL rfl rfl (by rfl) (by decide +kernel) (by decide +kernel) [(eI64 x8), (.ptr n3 (0 + x8.toNat * 1)), (eU64 (vget x7 x8)), (eI64 x8), (.ptr n4 (0 + x8.toNat * 1)), (eU64 (vget p1 x8)), (eU64 (bits .or .u64 (vget x7 x8) (vget p1 x8))), (.ptr n3 (0 + x8.toNat * 1))] [(2, (.ptr n3 0)), (3, (.ptr n4 0)), (4, (.ptr n5 0)), (5, (eI64 x8)), (6, (eI64 x8))] ⟨rfl, rfl, rfl, rfl, rfl, trivial⟩ rfl ?_ [(2, (.ptr n3 0)), (3, (.ptr n4 0)), (4, (.ptr n5 0)), (6, (eI64 x8)), (15, (eU64 (bits .or .u64 (vget x7 x8) (vget p1 x8)))), (16, (.ptr n3 (0 + x8.toNat * 1)))] ⟨rfl, rfl, rfl, rfl, rfl, rfl, trivial⟩ ?_
    ·refine ⟨?_, ?_, ?_, ?_, ?_, ?_, ?_, ?_, trivial⟩
     ·refine AO.wK [5] ?_
      refine AO.mv rfl rfl ?_
      exact AO.nE (d := 9) rfl ⟨⟨_, rfl, rfl⟩, Sub.refl _⟩
     ·refine AO.wK [2, 9] ?_
      refine AO.c (Calm.idxP rfl rfl rfl hg12 Try.underlying62 sz60) ?_
      exact AO.nE (d := 10) rfl ⟨⟨_, rfl, rfl⟩, Sub.refl _⟩
     ·refine AO.wK [10] ?_
      refine AO.c (Calm.load 0 rfl rfl rfl (At.cast (At.vidx x8 hg12.1 hg12.2 At.here) (by omega)) ag60 sz60) ?_
      exact AO.nE (d := 11) rfl ⟨⟨_, rfl, rfl⟩, Sub.refl _⟩
     ·refine AO.wK [5] ?_
      refine AO.mv rfl rfl ?_
      exact AO.nE (d := 12) rfl ⟨⟨_, rfl, rfl⟩, Sub.refl _⟩
     ·refine AO.wK [3, 12] ?_
      refine AO.c (Calm.idxP rfl rfl rfl hg13 Try.underlying62 sz60) ?_
      exact AO.nE (d := 13) rfl ⟨⟨_, rfl, rfl⟩, Sub.refl _⟩
     ·refine AO.wK [13] ?_
      refine AO.c (Calm.load 1 rfl rfl rfl (At.cast (At.vidx x8 hg13.1 hg13.2 At.here) (by omega)) ag60 sz60) ?_
      exact AO.nE (d := 14) rfl ⟨⟨_, rfl, rfl⟩, Sub.refl _⟩
     ·refine AO.wK [11, 14] ?_
      refine AO.c (x := eU64 (bits .or .u64 (vget x7 x8) (vget p1 x8))) (Calm.int rfl rfl rfl rfl) ?_
      exact AO.nE (d := 15) rfl ⟨⟨_, rfl, rfl⟩, Sub.refl _⟩
     ·refine AO.wK [2, 9] ?_
      refine AO.c (Calm.idxP rfl rfl rfl hg14 Try.underlying62 sz60) ?_
      exact AO.nE (d := 16) rfl ⟨⟨_, rfl, rfl⟩, Sub.refl _⟩
    ·refine AO.store (X' := (.ar 1 ((vset x7 x8 (bits .or .u64 (vget x7 x8) (vget p1 x8))).toList.map eU64))) 0 rfl rfl rfl rfl rfl rfl (Put.cast (Put.vidx x8 (bits .or .u64 (vget x7 x8) (vget p1 x8)) hg14.1 hg14.2 Put.here) (by omega)) rfl rfl sz60 rfl ?_
     refine AO.nK [2, 3, 4, 6] ?_
     refine AW.reg ?_
     refine AO.c (x := eI64 (w64 (x8 + (1 : Int)))) (Calm.int rfl rfl rfl rfl) ?_
     refine AO.mv rfl rfl ?_
     refine AO.nK [2, 3, 4, 6] ?_
     exact ⟨kq10, Nat.lt_succ_self _, (vset x7 x8 (bits .or .u64 (vget x7 x8) (vget p1 x8))), (w64 (x8 + (1 : Int))), rfl, rfl, by rw [hrec9]; exact h⟩
   ·refine AW.condN _ rfl hc11 ?_
    refine AW.eH [2, 4] (H' := [(n3, (.mem (.ar 1 (x7.toList.map eU64)))), (n5, (.mem (.ar 1 ((Vector.replicate 4 (0 : Int)).toList.map eU64))))]) (Sub.cons 0 rfl (Sub.cons 1 rfl (Sub.nil _))) ?_
    exact ⟨x7, rfl, rfl, h⟩
  ·rintro _ _ ⟨x6, rfl, rfl, h⟩
   rw [F145_c0.eq_1] at h
   refine AW.sr ?_
   refine AO.c (Calm.load 0 rfl rfl rfl (At.cast At.here rfl) ag62 (by rw [sz62]; simp [AV.size])) ?_
   refine AO.store (X' := (.ar 1 (x6.toList.map eU64))) 1 rfl rfl rfl rfl rfl rfl (Put.cast Put.here rfl) rfl (by simp [AV.size]) (by rw [sz62]; simp [AV.size]) rfl ?_
   refine AO.nH [4] (H' := [(n5, (.mem (.ar 1 (x6.toList.map eU64))))]) (Sub.cons 1 rfl (Sub.nil _)) ?_
   refine AW.rK [4] ?_
   have hr := Option.some.inj h
   subst hr
   exact ⟨[(.ar 1 (x6.toList.map eU64))], ⟨⟨_, 0, rfl, rfl, ag62, (by rw [sz62]; simp [AV.size])⟩, trivial⟩, rfl⟩
end Go.Avl.T7
/- bosket/byteset.Less; printed by avmain.py. -/
namespace Go.Avl.T7
open Go Go.RowKit Go.Proofs Go.Avl
set_option linter.unusedVariables false
set_option maxRecDepth 100000
set_option maxHeartbeats 4000000
attribute [local irreducible] AW AO AQ Spec SpecH Calm

def F149_c0 (k : Nat) (x6 : (Vector Int 4)) : Option (Vector Int 4) :=
  some (x6)
def F149_l1 (k : Nat) (p1 : (Vector Int 4)) : Nat → (Vector Int 4) → Int → Option (Vector Int 4)
  | 0, _, _ => none
  | j + 1, x7, x8 =>
    if x8 < (4 : Int) then if 0 ≤ x8 ∧ x8 < (4 : Int) then if 0 ≤ x8 ∧ x8 < (4 : Int) then if 0 ≤ x8 ∧ x8 < (4 : Int) then (F149_l1 k p1 j) (vset x7 x8 (bits .andNot .u64 (vget x7 x8) (vget p1 x8))) (w64 (x8 + (1 : Int)))
    else none
    else none
    else none
    else F149_c0 k x7
def F149 (k : Nat) (p0 : (Vector Int 4)) (p1 : (Vector Int 4)) : Option (Vector Int 4) :=
  F149_l1 k p1 k p0 (0 : Int)
theorem F149_spec {k : Nat} {p0 : (Vector Int 4)} {p1 : (Vector Int 4)} {r : (Vector Int 4)} (h : F149 k p0 p1 = some r) : Spec Try.prog 149 [(.ar 1 (p0.toList.map eU64)), (.ar 1 (p1.toList.map eU64))] (e62 r) := by
  rw [F149.eq_1] at h
  refine Spec.intro (res := [.cell 4 62]) Try.func149 rfl rfl rfl (Nat.le_of_ble_eq_true rfl) ?_
  refine AW.sr ?_
  refine AO.box rfl 2 rfl (by decide) rfl rfl rfl fun n3 => ?_
  refine AO.box rfl 3 rfl (by decide) rfl rfl rfl fun n4 => ?_
  refine AO.alloc rfl 4 rfl (by decide) rfl zr62 lay62 fun n5 => ?_
  refine AO.nH [2, 3, 4] (H' := [(n3, (.mem (.ar 1 (p0.toList.map eU64)))), (n4, (.mem (.ar 1 (p1.toList.map eU64)))), (n5, (.mem (.ar 1 ((Vector.replicate 4 (0 : Int)).toList.map eU64))))]) (Sub.cons 2 rfl (Sub.cons 1 rfl (Sub.cons 0 rfl (Sub.nil _)))) ?_
  refine AW.seq_mid (fun ρ H => ∃ (x6 : (Vector Int 4)), ρ = [(2, (.ptr n3 0)), (4, (.ptr n5 0))] ∧ H = [(n3, (.mem (.ar 1 (x6.toList.map eU64)))), (n5, (.mem (.ar 1 ((Vector.replicate 4 (0 : Int)).toList.map eU64))))] ∧ F149_c0 k x6 = some r) ?_ ?_
  ·refine AW.sr ?_
   refine AO.mv rfl rfl ?_
   refine AO.nK [2, 3, 4, 6] ?_
   refine AW.block ?_
   refine AW.wK [2, 3, 4, 6] ?_
   refine AW.loop (fun kq ρ H => ∃ (x7 : (Vector Int 4)) (x8 : Int), ρ = [(2, (.ptr n3 0)), (3, (.ptr n4 0)), (4, (.ptr n5 0)), (6, (eI64 x8))] ∧ H = [(n3, (.mem (.ar 1 (x7.toList.map eU64)))), (n4, (.mem (.ar 1 (p1.toList.map eU64)))), (n5, (.mem (.ar 1 ((Vector.replicate 4 (0 : Int)).toList.map eU64))))] ∧ F149_l1 k p1 kq x7 x8 = some r) k ⟨p0, (0 : Int), rfl, rfl, h⟩ ?_
   rintro kq10 _ _ ⟨x7, x8, rfl, rfl, h⟩
   cases kq10 with
   | zero => rw [F149_l1.eq_1] at h; cases h
   | succ kq10 =>
   rw [F149_l1.eq_2] at h
   generalize hrec9 : F149_l1 k p1 kq10 = rec9 at h
   refine AW.sr ?_
   refine AO.c (x := eBool (decide (x8 < (4 : Int)))) (Calm.int rfl rfl rfl rfl) ?_
   refine AO.nK [2, 3, 4, 6, 7] ?_
   refine AW.seq ?_
   rcases of_ite h with ⟨hc11, h⟩ | ⟨hc11, h⟩
   ·refine AW.condP _ rfl hc11 ?_
    refine AW.sK [2, 3, 4, 6] ?_
    refine AW.seq ?_
    refine AW.block ?_
    refine AW.sr ?_
    refine AO.mv rfl rfl ?_
    refine AO.ag rfl rfl ?_
    refine AO.nK [2, 3, 4, 5, 6] ?_
    obtain ⟨hg12, h⟩ := of_guard h
    obtain ⟨hg13, h⟩ := of_guard h
    obtain ⟨hg14, h⟩ := of_guard h
    refine AW.regAnyL rfl rfl (by rfl) (by decide +kernel) (by decide +kernel) [(eI64 x8), (.ptr n3 (0 + x8.toNat * 1)), (eU64 (vget x7 x8)), (eI64 x8), (.ptr n4 (0 + x8.toNat * 1)), (eU64 (vget p1 x8)), (eU64 (bits .andNot .u64 (vget x7 x8) (vget p1 x8))), (.ptr n3 (0 + x8.toNat * 1))] [(2, (.ptr n3 0)), (3, (.ptr n4 0)), (4, (.ptr n5 0)), (5, (eI64 x8)), (6, (eI64 x8))] ⟨rfl, rfl, rfl, rfl, rfl, trivial⟩ rfl ?_ [(2, (.ptr n3 0)), (3, (.ptr n4 0)), (4, (.ptr n5 0)), (6, (eI64 x8)), (15, (eU64 (bits .andNot .u64 (vget x7 x8) (vget p1 x8)))), (16, (.ptr n3 (0 + x8.toNat * 1)))] ⟨rfl, rfl, rfl, rfl, rfl, rfl, trivial⟩ ?_
    ·refine ⟨?_, ?_, ?_, ?_, ?_, ?_, ?_, ?_, trivial⟩
     ·refine AO.wK [5] ?_
      refine AO.mv rfl rfl ?_
      exact AO.nE (d := 9) rfl ⟨⟨_, rfl, rfl⟩, Sub.refl _⟩
     ·refine AO.wK [2, 9] ?_
      refine AO.c (Calm.idxP rfl rfl rfl hg12 Try.underlying62 sz60) ?_
      exact AO.nE (d := 10) rfl ⟨⟨_, rfl, rfl⟩, Sub.refl _⟩
     ·refine AO.wK [10] ?_
      refine AO.c (Calm.load 0 rfl rfl rfl (At.cast (At.vidx x8 hg12.1 hg12.2 At.here) (by omega)) ag60 sz60) ?_
      exact AO.nE (d := 11) rfl ⟨⟨_, rfl, rfl⟩, Sub.refl _⟩
     ·refine AO.wK [5] ?_
      refine AO.mv rfl rfl ?_
      exact AO.nE (d := 12) rfl ⟨⟨_, rfl, rfl⟩, Sub.refl _⟩
     ·refine AO.wK [3, 12] ?_
      refine AO.c (Calm.idxP rfl rfl rfl hg13 Try.underlying62 sz60) ?_
      exact AO.nE (d := 13) rfl ⟨⟨_, rfl, rfl⟩, Sub.refl _⟩
     ·refine AO.wK [13] ?_
      refine AO.c (Calm.load 1 rfl rfl rfl (At.cast (At.vidx x8 hg13.1 hg13.2 At.here) (by omega)) ag60 sz60) ?_
      exact AO.nE (d := 14) rfl ⟨⟨_, rfl, rfl⟩, Sub.refl _⟩
     ·refine AO.wK [11, 14] ?_
      refine AO.c (x := eU64 (bits .andNot .u64 (vget x7 x8) (vget p1 x8))) (Calm.int rfl rfl rfl rfl) ?_
      exact AO.nE (d := 15) rfl ⟨⟨_, rfl, rfl⟩, Sub.refl _⟩
     ·refine AO.wK [2, 9] ?_
      refine AO.c (Calm.idxP rfl rfl rfl hg14 Try.underlying62 sz60) ?_
      exact AO.nE (d := 16) rfl ⟨⟨_, rfl, rfl⟩, Sub.refl _⟩
    ·refine AO.store (X' := (.ar 1 ((vset x7 x8 (bits .andNot .u64 (vget x7 x8) (vget p1 x8))).toList.map eU64))) 0 rfl rfl rfl rfl rfl rfl (Put.cast (Put.vidx x8 (bits .andNot .u64 (vget x7 x8) (vget p1 x8)) hg14.1 hg14.2 Put.here) (by omega)) rfl rfl sz60 rfl ?_
     refine AO.nK [2, 3, 4, 6] ?_
     refine AW.reg ?_
     refine AO.c (x := eI64 (w64 (x8 + (1 : Int)))) (Calm.int rfl rfl rfl rfl) ?_
     refine AO.mv rfl rfl ?_
     refine AO.nK [2, 3, 4, 6] ?_
     exact ⟨kq10, Nat.lt_succ_self _, (vset x7 x8 (bits .andNot .u64 (vget x7 x8) (vget p1 x8))), (w64 (x8 + (1 : Int))), rfl, rfl, by rw [hrec9]; exact h⟩
   ·refine AW.condN _ rfl hc11 ?_
    refine AW.eH [2, 4] (H' := [(n3, (.mem (.ar 1 (x7.toList.map eU64)))), (n5, (.mem (.ar 1 ((Vector.replicate 4 (0 : Int)).toList.map eU64))))]) (Sub.cons 0 rfl (Sub.cons 1 rfl (Sub.nil _))) ?_
    exact ⟨x7, rfl, rfl, h⟩
  ·rintro _ _ ⟨x6, rfl, rfl, h⟩
   rw [F149_c0.eq_1] at h
   refine AW.sr ?_
   refine AO.c (Calm.load 0 rfl rfl rfl (At.cast At.here rfl) ag62 (by rw [sz62]; simp [AV.size])) ?_
   refine AO.store (X' := (.ar 1 (x6.toList.map eU64))) 1 rfl rfl rfl rfl rfl rfl (Put.cast Put.here rfl) rfl (by simp [AV.size]) (by rw [sz62]; simp [AV.size]) rfl ?_
   refine AO.nH [4] (H' := [(n5, (.mem (.ar 1 (x6.toList.map eU64))))]) (Sub.cons 1 rfl (Sub.nil _)) ?_
   refine AW.rK [4] ?_
   have hr := Option.some.inj h
   subst hr
   exact ⟨[(.ar 1 (x6.toList.map eU64))], ⟨⟨_, 0, rfl, rfl, ag62, (by rw [sz62]; simp [AV.size])⟩, trivial⟩, rfl⟩
end Go.Avl.T7
/- bosket/byteset.Not; printed by avmain.py. -/
namespace Go.Avl.T7
open Go Go.RowKit Go.Proofs Go.Avl
set_option linter.unusedVariables false
set_option maxRecDepth 100000
set_option maxHeartbeats 4000000
attribute [local irreducible] AW AO AQ Spec SpecH Calm

def F147 (k : Nat) (p0 : (Vector Int 4)) : Option (Vector Int 4) :=
  (F142 k).bind fun t4 =>
  (F149 k t4 p0).bind fun t5 =>
  some (t5)
theorem F147_spec {k : Nat} {p0 : (Vector Int 4)} {r : (Vector Int 4)} (h : F147 k p0 = some r) : Spec Try.prog 147 [(.ar 1 (p0.toList.map eU64))] (e62 r) := by
  rw [F147.eq_1] at h
  refine Spec.intro (res := [.cell 2 62]) Try.func147 rfl rfl rfl (Nat.le_of_ble_eq_true rfl) ?_
  refine AW.sr ?_
  refine AO.box rfl 1 rfl (by decide) rfl rfl rfl fun n2 => ?_
  refine AO.alloc rfl 2 rfl (by decide) rfl zr62 lay62 fun n3 => ?_
  refine AO.nH [1, 2] (H' := [(n2, (.mem (.ar 1 (p0.toList.map eU64)))), (n3, (.mem (.ar 1 ((Vector.replicate 4 (0 : Int)).toList.map eU64))))]) (Sub.cons 1 rfl (Sub.cons 0 rfl (Sub.nil _))) ?_
  refine AW.seq ?_
  obtain ⟨t4, et4, h⟩ := of_bind h
  obtain ⟨t5, et5, h⟩ := of_bind h
  refine AW.regAnyL rfl rfl (by rfl) (by decide +kernel) (by decide +kernel) [(.ar 1 (t4.toList.map eU64)), (.ar 1 (p0.toList.map eU64)), (.ar 1 (t5.toList.map eU64))] [(1, (.ptr n2 0)), (2, (.ptr n3 0))] ⟨rfl, rfl, trivial⟩ rfl ?_ [(2, (.ptr n3 0)), (5, (.ar 1 (t5.toList.map eU64)))] ⟨rfl, rfl, trivial⟩ ?_
  ·refine ⟨?_, ?_, ?_, trivial⟩
   ·refine AO.wK [] ?_
    refine AO.callS [] (.ar 1 (t4.toList.map eU64)) 3 rfl (by decide) ok142 rfl rfl rfl trivial (F142_spec et4) ?_
    exact AO.nE (d := 3) rfl ⟨⟨_, rfl, rfl⟩, Sub.refl _⟩
   ·refine AO.wK [1] ?_
    refine AO.c (Calm.load 0 rfl rfl rfl (At.cast At.here rfl) ag62 (by rw [sz62]; simp [AV.size])) ?_
    exact AO.nE (d := 4) rfl ⟨⟨_, rfl, rfl⟩, Sub.refl _⟩
   ·refine AO.wK [3, 4] ?_
    refine AO.callS [(.ar 1 (t4.toList.map eU64)), (.ar 1 (p0.toList.map eU64))] (.ar 1 (t5.toList.map eU64)) 5 rfl (by decide) ok149 rfl rfl rfl ⟨rfl, rfl, rfl, rfl, trivial⟩ (F149_spec et5) ?_
    exact AO.nE (d := 5) rfl ⟨⟨_, rfl, rfl⟩, Sub.refl _⟩
  ·refine AO.store (X' := (.ar 1 (t5.toList.map eU64))) 1 rfl rfl rfl rfl rfl rfl (Put.cast Put.here rfl) rfl (by simp [AV.size]) (by rw [sz62]; simp [AV.size]) rfl ?_
   refine AO.nH [2] (H' := [(n3, (.mem (.ar 1 (t5.toList.map eU64))))]) (Sub.cons 1 rfl (Sub.nil _)) ?_
   refine AW.rK [2] ?_
   have hr := Option.some.inj h
   subst hr
   exact ⟨[(.ar 1 (t5.toList.map eU64))], ⟨⟨_, 0, rfl, rfl, ag62, (by rw [sz62]; simp [AV.size])⟩, trivial⟩, rfl⟩
end Go.Avl.T7
/- bosket/byteset.Empty; printed by avmain.py. -/
namespace Go.Avl.T7
open Go Go.RowKit Go.Proofs Go.Avl
set_option linter.unusedVariables false
set_option maxRecDepth 100000
set_option maxHeartbeats 4000000
attribute [local irreducible] AW AO AQ Spec SpecH Calm

def F119 (k : Nat) (p0 : (Vector Int 4)) : Option Bool :=
  some (decide (p0 = (Vector.replicate 4 (0 : Int))))
theorem F119_spec {k : Nat} {p0 : (Vector Int 4)} {r : Bool} (h : F119 k p0 = some r) : Spec Try.prog 119 [(.ar 1 (p0.toList.map eU64))] (eBool r) := by
  rw [F119.eq_1] at h
  refine Spec.intro (res := [.tmp 2]) Try.func119 rfl rfl rfl (Nat.le_of_ble_eq_true rfl) ?_
  refine AW.sr ?_
  refine AO.box rfl 1 rfl (by decide) rfl rfl rfl fun n2 => ?_
  refine AO.ag rfl rfl ?_
  refine AO.nK [1] ?_
  refine AW.sr ?_
  refine AO.c (Calm.load 0 rfl rfl rfl (At.cast At.here rfl) ag62 (by rw [sz62]; simp [AV.size])) ?_
  refine AO.c (x := .ar 1 ((Vector.replicate 4 (0 : Int)).toList.map eU64)) (Calm.buildAr (qs := []) rfl trivial Try.underlying62 sz60 zr62 lay62 .nil rfl) ?_
  refine AO.c (x := eBool (decide (p0 = (Vector.replicate 4 (0 : Int))))) (Calm.eqA rfl rfl rfl eg62 (eqa62 p0 (Vector.replicate 4 (0 : Int))) (by decide)) ?_
  refine AO.ag rfl rfl ?_
  refine AO.nH [2] (H' := []) (Sub.nil _) ?_
  refine AW.rK [2] ?_
  have hr := Option.some.inj h
  subst hr
  exact ⟨[(eBool (decide (p0 = (Vector.replicate 4 (0 : Int)))))], ⟨rfl, rfl, trivial⟩, rfl⟩
end Go.Avl.T7
/- (*bosket/rex.reader).brackets; printed by avmain.py. -/
namespace Go.Avl.T7
open Go Go.RowKit Go.Proofs Go.Avl
set_option linter.unusedVariables false
set_option maxRecDepth 100000
set_option maxHeartbeats 4000000
set_option linter.unusedSimpArgs false
attribute [local irreducible] AW AO AQ Spec SpecH Calm

def F143_c0 (k : Nat) (x5 : ByteArray) (x6 : Int) (x7 : Int) (x9 : (Vector Int 4)) : Option ((List S131) × Bool × S140) :=
  (F116 k (S140.mk x5 x6 x7) (93 : Int)).bind fun t11 =>
  if t11.1 = true then (F119 k x9).bind fun t14 =>
  some ([(S131.mk (1 : Int) x9)], !t14, t11.2)
  else some ([(S131.mk (1 : Int) x9)], false, t11.2)
def F143_c1 (k : Nat) (t2 : (Bool × S140)) (x5 : ByteArray) (x6 : Int) (x7 : Int) (x8 : (Vector Int 4)) : Option ((List S131) × Bool × S140) :=
  if t2.1 = true then (F147 k x8).bind fun t16 =>
  F143_c0 k x5 x6 x7 t16
  else F143_c0 k x5 x6 x7 x8
def F143_c2 (k : Nat) (rec21 : (ByteArray → Int → Int → (Vector Int 4) → Option ((List S131) × Bool × S140))) (x20 : (Vector Int 4)) (t29 : (Int × Bool × S140)) (x32 : ByteArray) (x33 : Int) (x34 : Int) (x35 : Int) : Option ((List S131) × Bool × S140) :=
  (F146 k t29.1 x35).bind fun t36 =>
  (F145 k x20 t36).bind fun t37 =>
  rec21 x32 x33 x34 t37
def F143_l3 (k : Nat) (t2 : (Bool × S140)) : Nat → ByteArray → Int → Int → (Vector Int 4) → Option ((List S131) × Bool × S140)
  | 0, _, _, _, _ => none
  | j + 1, x17, x18, x19, x20 =>
    (F133 k (S140.mk x17 x18 x19) (ByteArray.mk #[93])).bind fun t23 =>
    if (!t23) = true then (F133 k (S140.mk x17 x18 x19) (ByteArray.mk #[94, 45, 47, 34])).bind fun t26 =>
    if t26 = true then some ([], false, (S140.mk x17 x18 x19))
    else (F144 k (S140.mk x17 x18 x19)).bind fun t29 =>
    if (!t29.2.1) = true then some ([], false, t29.2.2)
    else (F116 k t29.2.2 (45 : Int)).bind fun t38 =>
    if t38.1 = true then (F133 k t38.2 (ByteArray.mk #[93, 94, 45, 47, 34])).bind fun t41 =>
    if t41 = true then some ([], false, t38.2)
    else (F144 k t38.2).bind fun t44 =>
    Option.bind (α := Bool) (if (!t44.2.1) = true then some (true)
    else some (decide (t44.1 < t29.1))) fun b46 =>
    if b46 = true then some ([], false, t44.2.2)
    else F143_c2 k (F143_l3 k t2 j) x20 t29 t44.2.2.f0 t44.2.2.f1 t44.2.2.f2 t44.1
    else F143_c2 k (F143_l3 k t2 j) x20 t29 t38.2.f0 t38.2.f1 t38.2.f2 t29.1
    else F143_c1 k t2 x17 x18 x19 x20
def F143 (k : Nat) (p0 : S140) : Option ((List S131) × Bool × S140) :=
  (F116 k p0 (94 : Int)).bind fun t2 =>
  F143_l3 k t2 k t2.2.f0 t2.2.f1 t2.2.f2 (Vector.replicate 4 (0 : Int))
theorem F143_spec {k : Nat} {p0 : S140} {r : ((List S131) × Bool × S140)} (h : F143 k p0 = some r) {q0 : Nat} {T0 : Heap} : SpecH Try.prog 143 [(.ptr q0 0)] ((q0, (.mem (e140 p0))) :: T0) (fun x H' => x = .tup [(.fz 5 (r.1.map e131)), (eBool r.2.1)] ∧ Sub ((q0, (.mem (e140 r.2.2))) :: T0) H') := by
  rw [F143.eq_1] at h
  refine SpecH.intro (res := [.tmp 2, .tmp 3]) Try.func143 rfl rfl rfl (Nat.le_of_ble_eq_true rfl) ?_
  refine AW.sr ?_
  refine AO.ag rfl rfl ?_
  refine AO.ag rfl rfl ?_
  refine AO.nK [0] ?_
  refine AW.sr ?_
  refine AO.mv rfl rfl ?_
  obtain ⟨t2, et2, h⟩ := of_bind h
  refine AO.callH [(.ptr q0 0), (eU8 (94 : Int))] ((q0, (.mem (e140 p0))) :: T0) _ rfl rfl rfl 10 rfl (by decide) ok116 ⟨rfl, rfl, rfl, rfl, trivial⟩ (Sub.cons 0 rfl (Sub.refl _)) (F116_spec et2) ?_
  rintro _ _ ⟨rfl, hs3⟩
  refine AO.wH [0, 9, 10] hs3 ?_
  refine AO.ag rfl rfl ?_
  refine AO.nK [0, 4] ?_
  refine AW.sr ?_
  refine AO.alloc rfl 5 rfl (by decide) rfl zr62 lay62 fun n4 => ?_
  refine AO.nH [0, 4, 5] (H' := ((q0, (.mem (e140 t2.2))) :: (n4, (.mem (.ar 1 ((Vector.replicate 4 (0 : Int)).toList.map eU64)))) :: T0)) (Sub.cons 1 rfl (Sub.cons 0 rfl (Sub.refl _))) ?_
  refine AW.seq_mid (fun ρ H => ∃ (x5 : ByteArray) (x6 : Int) (x7 : Int) (x8 : (Vector Int 4)), ρ = [(0, (.ptr q0 0)), (4, (eBool t2.1)), (5, (.ptr n4 0))] ∧ H = ((q0, (.mem (.st [(1, (eStr x5)), (1, (eI64 x6)), (1, (eI64 x7))]))) :: (n4, (.mem (.ar 1 (x8.toList.map eU64)))) :: T0) ∧ F143_c1 k t2 x5 x6 x7 x8 = some r) ?_ ?_
  ·refine AW.block ?_
   refine AW.wK [0, 4, 5] ?_
   refine AW.loop (fun kq ρ H => ∃ (x17 : ByteArray) (x18 : Int) (x19 : Int) (x20 : (Vector Int 4)), ρ = [(0, (.ptr q0 0)), (4, (eBool t2.1)), (5, (.ptr n4 0))] ∧ H = ((q0, (.mem (.st [(1, (eStr x17)), (1, (eI64 x18)), (1, (eI64 x19))]))) :: (n4, (.mem (.ar 1 (x20.toList.map eU64)))) :: T0) ∧ F143_l3 k t2 kq x17 x18 x19 x20 = some r) k ⟨t2.2.f0, t2.2.f1, t2.2.f2, (Vector.replicate 4 (0 : Int)), rfl, rfl, h⟩ ?_
   rintro kq22 _ _ ⟨x17, x18, x19, x20, rfl, rfl, h⟩
   cases kq22 with
   | zero => rw [F143_l3.eq_1] at h; cases h
   | succ kq22 =>
   rw [F143_l3.eq_2] at h
   generalize hrec21 : F143_l3 k t2 kq22 = rec21 at h
   refine AW.seq ?_
   refine AW.sr ?_
   refine AO.mv rfl rfl ?_
   obtain ⟨t23, et23, h⟩ := of_bind h
   refine AO.callH [(.ptr q0 0), (eStr (ByteArray.mk #[93]))] ((q0, (.mem (e140 (S140.mk x17 x18 x19)))) :: (n4, (.mem (.ar 1 (x20.toList.map eU64)))) :: T0) _ rfl rfl rfl 12 rfl (by decide) ok133 ⟨rfl, rfl, rfl, rfl, trivial⟩ (Sub.cons 0 rfl (Sub.refl _)) (F133_spec et23) ?_
   rintro _ _ ⟨rfl, hs24⟩
   refine AO.wH [0, 4, 5, 11, 12] hs24 ?_
   refine AO.c (Calm.not rfl rfl) ?_
   refine AO.nK [0, 4, 5, 13] ?_
   rcases of_ite h with ⟨hc25, h⟩ | ⟨hc25, h⟩
   ·refine AW.condT' _ rfl hc25 ?_
    refine AW.sK [0, 4, 5] ?_
    refine AW.block ?_
    refine AW.seq ?_
    refine AW.sr ?_
    refine AO.mv rfl rfl ?_
    obtain ⟨t26, et26, h⟩ := of_bind h
    refine AO.callH [(.ptr q0 0), (eStr (ByteArray.mk #[94, 45, 47, 34]))] ((q0, (.mem (e140 (S140.mk x17 x18 x19)))) :: (n4, (.mem (.ar 1 (x20.toList.map eU64)))) :: T0) _ rfl rfl rfl 15 rfl (by decide) ok133 ⟨rfl, rfl, rfl, rfl, trivial⟩ (Sub.cons 0 rfl (Sub.refl _)) (F133_spec et26) ?_
    rintro _ _ ⟨rfl, hs27⟩
    refine AO.wH [0, 4, 5, 14, 15] hs27 ?_
    refine AO.nK [0, 4, 5, 15] ?_
    rcases of_ite h with ⟨hc28, h⟩ | ⟨hc28, h⟩
    ·refine AW.condT' _ rfl hc28 ?_
     refine AW.sr ?_
     refine AO.ag rfl rfl ?_
     refine AO.ag rfl rfl ?_
     refine AO.nH [2, 3] (H' := ((q0, (.mem (.st [(1, (eStr x17)), (1, (eI64 x18)), (1, (eI64 x19))]))) :: T0)) (Sub.cons 0 rfl (Sub.drop (Sub.refl _))) ?_
     refine AW.coeC 2 (y' := (.fz 5 (([] : List S131).map e131))) rfl Coe.nil ?_
     refine AW.rK [2, 3] ?_
     have hr := Option.some.inj h
     subst hr
     exact ⟨[(.fz 5 (([] : List S131).map e131)), (eBool false)], ⟨rfl, rfl, rfl, rfl, trivial⟩, rfl, (Sub.cons 0 rfl (Sub.refl _))⟩
    ·refine AW.condF' _ rfl hc28 ?_
     refine AW.sK [0, 4, 5] ?_
     refine AW.sr ?_
     refine AO.mv rfl rfl ?_
     obtain ⟨t29, et29, h⟩ := of_bind h
     refine AO.callH [(.ptr q0 0)] ((q0, (.mem (e140 (S140.mk x17 x18 x19)))) :: (n4, (.mem (.ar 1 (x20.toList.map eU64)))) :: T0) _ rfl rfl rfl 18 rfl (by decide) ok144 ⟨rfl, rfl, trivial⟩ (Sub.cons 0 rfl (Sub.refl _)) (F144_spec et29) ?_
     rintro _ _ ⟨rfl, hs30⟩
     refine AO.wH [0, 4, 5, 17, 18] hs30 ?_
     refine AO.mv rfl rfl ?_
     refine AO.c (Calm.extract rfl rfl rfl) ?_
     refine AO.c (Calm.extract rfl rfl rfl) ?_
     refine AO.ag rfl rfl ?_
     refine AO.ag rfl rfl ?_
     refine AO.nK [0, 4, 5, 6, 7] ?_
     refine AW.seq ?_
     refine AW.sr ?_
     refine AO.mv rfl rfl ?_
     refine AO.c (Calm.not rfl rfl) ?_
     refine AO.nK [0, 4, 5, 6, 22] ?_
     rcases of_ite h with ⟨hc31, h⟩ | ⟨hc31, h⟩
     ·refine AW.condT' _ rfl hc31 ?_
      refine AW.sr ?_
      refine AO.ag rfl rfl ?_
      refine AO.ag rfl rfl ?_
      refine AO.nH [2, 3] (H' := ((q0, (.mem (e140 t29.2.2))) :: T0)) (Sub.cons 0 rfl (Sub.drop (Sub.refl _))) ?_
      refine AW.coeC 2 (y' := (.fz 5 (([] : List S131).map e131))) rfl Coe.nil ?_
      refine AW.rK [2, 3] ?_
      have hr := Option.some.inj h
      subst hr
      exact ⟨[(.fz 5 (([] : List S131).map e131)), (eBool false)], ⟨rfl, rfl, rfl, rfl, trivial⟩, rfl, (Sub.cons 0 rfl (Sub.refl _))⟩
     ·refine AW.condF' _ rfl hc31 ?_
      refine AW.sK [0, 4, 5, 6] ?_
      refine AW.sr ?_
      refine AO.mv rfl rfl ?_
      refine AO.ag rfl rfl ?_
      refine AO.nK [0, 4, 5, 6, 8] ?_
      refine AW.seq_mid (fun ρ H => ∃ (x32 : ByteArray) (x33 : Int) (x34 : Int) (x35 : Int), ρ = [(0, (.ptr q0 0)), (4, (eBool t2.1)), (5, (.ptr n4 0)), (6, (eU8 t29.1)), (8, (eU8 x35))] ∧ H = ((q0, (.mem (.st [(1, (eStr x32)), (1, (eI64 x33)), (1, (eI64 x34))]))) :: (n4, (.mem (.ar 1 (x20.toList.map eU64)))) :: T0) ∧ F143_c2 k rec21 x20 t29 x32 x33 x34 x35 = some r) ?_ ?_
      ·refine AW.sr ?_
       refine AO.mv rfl rfl ?_
       obtain ⟨t38, et38, h⟩ := of_bind h
       refine AO.callH [(.ptr q0 0), (eU8 (45 : Int))] ((q0, (.mem (e140 t29.2.2))) :: (n4, (.mem (.ar 1 (x20.toList.map eU64)))) :: T0) _ rfl rfl rfl 25 rfl (by decide) ok116 ⟨rfl, rfl, rfl, rfl, trivial⟩ (Sub.cons 0 rfl (Sub.refl _)) (F116_spec et38) ?_
       rintro _ _ ⟨rfl, hs39⟩
       refine AO.wH [0, 4, 5, 6, 8, 24, 25] hs39 ?_
       refine AO.nK [0, 4, 5, 6, 8, 25] ?_
       rcases of_ite h with ⟨hc40, h⟩ | ⟨hc40, h⟩
       ·refine AW.condT' _ rfl hc40 ?_
        refine AW.seq ?_
        refine AW.sr ?_
        refine AO.mv rfl rfl ?_
        obtain ⟨t41, et41, h⟩ := of_bind h
        refine AO.callH [(.ptr q0 0), (eStr (ByteArray.mk #[93, 94, 45, 47, 34]))] ((q0, (.mem (e140 t38.2))) :: (n4, (.mem (.ar 1 (x20.toList.map eU64)))) :: T0) _ rfl rfl rfl 27 rfl (by decide) ok133 ⟨rfl, rfl, rfl, rfl, trivial⟩ (Sub.cons 0 rfl (Sub.refl _)) (F133_spec et41) ?_
        rintro _ _ ⟨rfl, hs42⟩
        refine AO.wH [0, 4, 5, 6, 8, 25, 26, 27] hs42 ?_
        refine AO.nK [0, 4, 5, 6, 27] ?_
        rcases of_ite h with ⟨hc43, h⟩ | ⟨hc43, h⟩
        ·refine AW.condT' _ rfl hc43 ?_
         refine AW.sr ?_
         refine AO.ag rfl rfl ?_
         refine AO.ag rfl rfl ?_
         refine AO.nH [2, 3] (H' := ((q0, (.mem (e140 t38.2))) :: T0)) (Sub.cons 0 rfl (Sub.drop (Sub.refl _))) ?_
         refine AW.coeC 2 (y' := (.fz 5 (([] : List S131).map e131))) rfl Coe.nil ?_
         refine AW.rK [2, 3] ?_
         have hr := Option.some.inj h
         subst hr
         exact ⟨[(.fz 5 (([] : List S131).map e131)), (eBool false)], ⟨rfl, rfl, rfl, rfl, trivial⟩, rfl, (Sub.cons 0 rfl (Sub.refl _))⟩
        ·refine AW.condF' _ rfl hc43 ?_
         refine AW.sK [0, 4, 5, 6] ?_
         refine AW.sr ?_
         refine AO.mv rfl rfl ?_
         obtain ⟨t44, et44, h⟩ := of_bind h
         refine AO.callH [(.ptr q0 0)] ((q0, (.mem (e140 t38.2))) :: (n4, (.mem (.ar 1 (x20.toList.map eU64)))) :: T0) _ rfl rfl rfl 30 rfl (by decide) ok144 ⟨rfl, rfl, trivial⟩ (Sub.cons 0 rfl (Sub.refl _)) (F144_spec et44) ?_
         rintro _ _ ⟨rfl, hs45⟩
         refine AO.wH [0, 4, 5, 6, 29, 30] hs45 ?_
         refine AO.mv rfl rfl ?_
         refine AO.c (Calm.extract rfl rfl rfl) ?_
         refine AO.c (Calm.extract rfl rfl rfl) ?_
         refine AO.ag rfl rfl ?_
         refine AO.ag rfl rfl ?_
         refine AO.nK [0, 4, 5, 6, 7, 8] ?_
         refine AW.seq ?_
         obtain ⟨b46, hq47, h⟩ := of_bind h
         refine AW.regM [(0, (.ptr q0 0)), (4, (eBool t2.1)), (5, (.ptr n4 0)), (6, (eU8 t29.1)), (8, (eU8 t44.1)), (39, (eBool b46))] ((q0, (.mem (e140 t44.2.2))) :: (n4, (.mem (.ar 1 (x20.toList.map eU64)))) :: T0) ?_ ?_
         ·refine AO.mv rfl rfl ?_
          refine AO.c (Calm.not rfl rfl) ?_
          refine AO.mv rfl rfl ?_
          rcases of_ite hq47 with ⟨hc48, hq47⟩ | ⟨hc48, hq47⟩
          ·refine AO.sF rfl rfl (bD hc48) ?_
           refine AO.sF rfl rfl (bD hc48) ?_
           refine AO.sF rfl rfl (bD hc48) ?_
           refine AO.c (Calm.pickT rfl (bD hc48) rfl) ?_
           cases hq47
           refine AO.nilE ⟨rfl, rfl⟩ ?_ ?_
           · exact ⟨rfl, rfl, rfl, rfl, rfl, rfl, trivial⟩
           · exact (Sub.refl _)
          ·refine AO.cG rfl rfl (bD (eq_false_of_ne_true hc48)) (Calm.move rfl rfl) ?_
           refine AO.cG rfl rfl (bD (eq_false_of_ne_true hc48)) (Calm.move rfl rfl) ?_
           refine AO.cG (x := eBool (decide (t44.1 < t29.1))) rfl rfl (bD (eq_false_of_ne_true hc48)) (Calm.int rfl rfl rfl rfl) ?_
           refine AO.c (Calm.pickF rfl (bD (eq_false_of_ne_true hc48)) rfl) ?_
           cases hq47
           refine AO.nilE ⟨rfl, rfl⟩ ?_ ?_
           · exact ⟨rfl, rfl, rfl, rfl, rfl, rfl, trivial⟩
           · exact (Sub.refl _)
         ·rcases of_ite h with ⟨hc49, h⟩ | ⟨hc49, h⟩
          ·refine AW.condT' _ rfl hc49 ?_
           refine AW.sr ?_
           refine AO.ag rfl rfl ?_
           refine AO.ag rfl rfl ?_
           refine AO.nH [2, 3] (H' := ((q0, (.mem (e140 t44.2.2))) :: T0)) (Sub.cons 0 rfl (Sub.drop (Sub.refl _))) ?_
           refine AW.coeC 2 (y' := (.fz 5 (([] : List S131).map e131))) rfl Coe.nil ?_
           refine AW.rK [2, 3] ?_
           have hr := Option.some.inj h
           subst hr
           exact ⟨[(.fz 5 (([] : List S131).map e131)), (eBool false)], ⟨rfl, rfl, rfl, rfl, trivial⟩, rfl, (Sub.cons 0 rfl (Sub.refl _))⟩
          ·refine AW.condF' _ rfl hc49 ?_
           refine AW.sK [0, 4, 5, 6, 8] ?_
           exact ⟨t44.2.2.f0, t44.2.2.f1, t44.2.2.f2, t44.1, rfl, rfl, h⟩
       ·refine AW.condF' _ rfl hc40 ?_
        refine AW.sK [0, 4, 5, 6, 8] ?_
        exact ⟨t38.2.f0, t38.2.f1, t38.2.f2, t29.1, rfl, rfl, h⟩
      ·rintro _ _ ⟨x32, x33, x34, x35, rfl, rfl, h⟩
       rw [F143_c2.eq_1] at h
       obtain ⟨t36, et36, h⟩ := of_bind h
       obtain ⟨t37, et37, h⟩ := of_bind h
       refine AW.regAnyL rfl rfl (by rfl) (by decide +kernel) (by decide +kernel) [(.ar 1 (x20.toList.map eU64)), (eU8 t29.1), (eU8 x35), (.ar 1 (t36.toList.map eU64)), (.ar 1 (t37.toList.map eU64))] [(0, (.ptr q0 0)), (4, (eBool t2.1)), (5, (.ptr n4 0)), (6, (eU8 t29.1)), (8, (eU8 x35))] ⟨rfl, rfl, rfl, rfl, rfl, trivial⟩ rfl ?_ [(0, (.ptr q0 0)), (4, (eBool t2.1)), (5, (.ptr n4 0)), (44, (.ar 1 (t37.toList.map eU64)))] ⟨rfl, rfl, rfl, rfl, trivial⟩ ?_
       ·refine ⟨?_, ?_, ?_, ?_, ?_, trivial⟩
        ·refine AO.wK [5] ?_
         refine AO.c (Calm.load 1 rfl rfl rfl (At.cast At.here rfl) ag62 (by rw [sz62]; simp [AV.size])) ?_
         exact AO.nE (d := 40) rfl ⟨⟨_, rfl, rfl⟩, Sub.refl _⟩
        ·refine AO.wK [6] ?_
         refine AO.mv rfl rfl ?_
         exact AO.nE (d := 41) rfl ⟨⟨_, rfl, rfl⟩, Sub.refl _⟩
        ·refine AO.wK [8] ?_
         refine AO.mv rfl rfl ?_
         exact AO.nE (d := 42) rfl ⟨⟨_, rfl, rfl⟩, Sub.refl _⟩
        ·refine AO.wK [41, 42] ?_
         refine AO.callS [(eU8 t29.1), (eU8 x35)] (.ar 1 (t36.toList.map eU64)) 43 rfl (by decide) ok146 rfl rfl rfl ⟨rfl, rfl, rfl, rfl, trivial⟩ (F146_spec et36) ?_
         exact AO.nE (d := 43) rfl ⟨⟨_, rfl, rfl⟩, Sub.refl _⟩
        ·refine AO.wK [40, 43] ?_
         refine AO.callS [(.ar 1 (x20.toList.map eU64)), (.ar 1 (t36.toList.map eU64))] (.ar 1 (t37.toList.map eU64)) 44 rfl (by decide) ok145 rfl rfl rfl ⟨rfl, rfl, rfl, rfl, trivial⟩ (F145_spec et37) ?_
         exact AO.nE (d := 44) rfl ⟨⟨_, rfl, rfl⟩, Sub.refl _⟩
       ·refine AO.store (X' := (.ar 1 (t37.toList.map eU64))) 1 rfl rfl rfl rfl rfl rfl (Put.cast Put.here rfl) rfl (by simp [AV.size]) (by rw [sz62]; simp [AV.size]) rfl ?_
        refine AO.nK [0, 4, 5] ?_
        exact ⟨kq22, Nat.lt_succ_self _, x32, x33, x34, t37, rfl, rfl, by rw [hrec21]; exact h⟩
   ·refine AW.condF' _ rfl hc25 ?_
    refine AW.eK [0, 4, 5] ?_
    exact ⟨x17, x18, x19, x20, rfl, rfl, h⟩
  ·rintro _ _ ⟨x5, x6, x7, x8, rfl, rfl, h⟩
   rw [F143_c1.eq_1] at h
   refine AW.seq_mid (fun ρ H => ∃ (x9 : (Vector Int 4)), ρ = [(0, (.ptr q0 0)), (5, (.ptr n4 0))] ∧ H = ((q0, (.mem (.st [(1, (eStr x5)), (1, (eI64 x6)), (1, (eI64 x7))]))) :: (n4, (.mem (.ar 1 (x9.toList.map eU64)))) :: T0) ∧ F143_c0 k x5 x6 x7 x9 = some r) ?_ ?_
   ·refine AW.sr ?_
    refine AO.mv rfl rfl ?_
    refine AO.nK [0, 5, 45] ?_
    rcases of_ite h with ⟨hc15, h⟩ | ⟨hc15, h⟩
    ·refine AW.condT' _ rfl hc15 ?_
     refine AW.reg ?_
     refine AO.c (Calm.load 1 rfl rfl rfl (At.cast At.here rfl) ag62 (by rw [sz62]; simp [AV.size])) ?_
     obtain ⟨t16, et16, h⟩ := of_bind h
     refine AO.callS [(.ar 1 (x8.toList.map eU64))] (.ar 1 (t16.toList.map eU64)) 47 rfl (by decide) ok147 rfl rfl rfl ⟨rfl, rfl, trivial⟩ (F147_spec et16) ?_
     refine AO.store (X' := (.ar 1 (t16.toList.map eU64))) 1 rfl rfl rfl rfl rfl rfl (Put.cast Put.here rfl) rfl (by simp [AV.size]) (by rw [sz62]; simp [AV.size]) rfl ?_
     refine AO.nK [0, 5] ?_
     exact ⟨t16, rfl, rfl, h⟩
    ·refine AW.condF' _ rfl hc15 ?_
     refine AW.sK [0, 5] ?_
     exact ⟨x8, rfl, rfl, h⟩
   ·rintro _ _ ⟨x9, rfl, rfl, h⟩
    rw [F143_c0.eq_1] at h
    refine AW.seq ?_
    obtain ⟨t11, et11, h⟩ := of_bind h
    rcases of_ite h with ⟨hc13, h⟩ | ⟨hc13, h⟩
    ·obtain ⟨t14, et14, h⟩ := of_bind h
     refine AW.regEff (by rfl) (by decide +kernel) (fun (σ : Nat → Nat) => ([(.ar 1 (x9.toList.map eU64)), (e131 (S131.mk (1 : Int) x9)), (.fz 5 (([(S131.mk (1 : Int) x9)] : List S131).map e131)), (.ptr q0 0), (eBool t11.1), (eBool t11.1), (.ar 1 (x9.toList.map eU64)), (eBool t14), (eBool (!t14)), (eBool (!t14)), (.fz 5 (([(S131.mk (1 : Int) x9)] : List S131).map e131)), (eBool (!t14))] : List AV)) (fun (L : Nat → Bool) (σ : Nat → Nat) => ((n4, (.mem (.ar 1 (x9.toList.map eU64)))) :: (bif L 4 then ((q0, (.mem (e140 t11.2))) :: T0) else ((q0, (.mem (.st [(1, (eStr x5)), (1, (eI64 x6)), (1, (eI64 x7))]))) :: T0)) : Heap)) [(0, (.ptr q0 0)), (5, (.ptr n4 0))] ⟨rfl, rfl, trivial⟩ (fun _ => rfl) (fun σ => (Sub.cons 1 rfl (Sub.cons 0 rfl (Sub.refl _)))) ⟨?_, ?_, ?_, ?_, ?_, ?_, ?_, ?_, ?_, ?_, ?_, ?_, trivial⟩ (fun σ => [(2, (.fz 5 (([(S131.mk (1 : Int) x9)] : List S131).map e131))), (3, (eBool (!t14)))]) (fun σ => ((n4, (.mem (.ar 1 (x9.toList.map eU64)))) :: (q0, (.mem (e140 t11.2))) :: T0)) (fun σ => ⟨rfl, rfl, trivial⟩) (fun σ => Sub.refl _) (fun σ => ?_)
     ·refine StepE.calm (fun _ _ => rfl) fun L σ hc hi hd => ?_
      refine AO.wK [5] ?_
      refine AO.c (Calm.load 0 rfl rfl rfl (At.cast At.here rfl) ag62 (by rw [sz62]; simp [AV.size])) ?_
      exact AO.nE (d := 48) rfl ⟨⟨48, _, rfl, rfl, rfl⟩, Sub.refl _⟩
     ·refine StepE.calm (fun _ _ => rfl) fun L σ hc hi hd => ?_
      refine AO.wK [48] ?_
      refine AO.c (x := .st [(1, (eI64 (1 : Int))), (4, (.ar 1 (x9.toList.map eU64)))]) (Calm.build (qs := [(0, (eI64 (1 : Int))), (1, (.ar 1 (x9.toList.map eU64)))]) rfl ⟨rfl, rfl, rfl, rfl, rfl, rfl, trivial⟩ Try.underlying131 rfl zr131 lay131 (.cons rfl rfl rfl rfl (Put.cast (Put.fld0 Put.here) rfl) (.cons rfl rfl (vec_size _ _) (vec_size _ _) (Put.cast (Put.fldS (Put.fld0 Put.here)) rfl) .nil)) rfl) ?_
      exact AO.nE (d := 49) rfl ⟨⟨49, _, rfl, rfl, rfl⟩, Sub.refl _⟩
     ·refine StepE.calm (fun _ _ => rfl) fun L σ hc hi hd => ?_
      refine AO.wK [49] ?_
      refine AO.lit (Z := (.st [(1, (eI64 (0 : Int))), (4, (.ar 1 ((Vector.replicate 4 (0 : Int)).toList.map eU64)))])) (xs := (([(S131.mk (1 : Int) x9)] : List S131).map e131)) (qs := [(0, (e131 (S131.mk (1 : Int) x9)))]) rfl 50 rfl (by decide) rfl ⟨rfl, rfl, rfl, trivial⟩ Try.underlying68 sz131 zr131 lay131 rfl (by decide) (litOK (z := 5) [(e131 (S131.mk (1 : Int) x9))] rfl ⟨⟨rfl, rfl⟩, trivial⟩) rfl fun n10 => ?_
      refine AO.freezeS 0 [(50, (.fz 5 (([(S131.mk (1 : Int) x9)] : List S131).map e131)))] rfl ⟨fz_all rfl, trivial⟩ ?_
      exact AO.nE (d := 50) rfl ⟨⟨50, _, rfl, rfl, rfl⟩, Sub.refl _⟩
     ·refine StepE.calm (fun _ _ => rfl) fun L σ hc hi hd => ?_
      have m4 : L 4 = false := hc.neg (i := 3) (j := 4) rfl (by rfl) hi
      refine AO.heq (H' := ((n4, (.mem (.ar 1 (x9.toList.map eU64)))) :: (q0, (.mem (.st [(1, (eStr x5)), (1, (eI64 x6)), (1, (eI64 x7))]))) :: T0)) (by first | rfl | simp only [m4, cond_true, cond_false]) ?_
      refine AO.wK [0] ?_
      refine AO.mv rfl rfl ?_
      exact AO.nE (d := 51) rfl ⟨⟨51, _, rfl, rfl, rfl⟩, Sub.of_eq (by first | rfl | simp only [m4, cond_true, cond_false]) (Sub.refl _)⟩
     ·intro L σ hc hi hd
      refine AO.heq (H' := ((n4, (.mem (.ar 1 (x9.toList.map eU64)))) :: (q0, (.mem (.st [(1, (eStr x5)), (1, (eI64 x6)), (1, (eI64 x7))]))) :: T0)) (by first | rfl | simp only [hi, cond_true, cond_false]) ?_
      refine AO.wK [51] ?_
      refine AO.callH [(.ptr q0 0), (eU8 (93 : Int))] ((q0, (.mem (e140 (S140.mk x5 x6 x7)))) :: (n4, (.mem (.ar 1 (x9.toList.map eU64)))) :: T0) _ rfl rfl rfl 52 rfl (by decide) ok116 ⟨rfl, rfl, rfl, rfl, trivial⟩ (Sub.cons 1 rfl (Sub.refl _)) (F116_spec et11) ?_
      rintro _ _ ⟨rfl, hs12⟩
      refine AO.wH [51, 52] hs12 ?_
      have a4 : addL L 4 4 = true := rfl
      exact AO.nE (d := 52) rfl ⟨σ, (fun _ _ => rfl), (fun d' hd' => ⟨_, rfl, by cases hd'; rfl⟩), Sub.of_eq (B := ((n4, (.mem (.ar 1 (x9.toList.map eU64)))) :: (q0, (.mem (e140 t11.2))) :: T0)) (by simp only [a4, cond_true, cond_false]) (Sub.cons 1 rfl (Sub.cons 0 rfl (Sub.refl _)))⟩
     ·refine StepE.calm (fun _ _ => rfl) fun L σ hc hi hd => ?_
      refine AO.wK [52] ?_
      refine AO.mv rfl rfl ?_
      exact AO.nE (d := 53) rfl ⟨⟨53, _, rfl, rfl, rfl⟩, Sub.refl _⟩
     ·refine StepE.calm (fun _ _ => rfl) fun L σ hc hi hd => ?_
      refine AO.wK [5, 53] ?_
      refine AO.cG rfl rfl (bD hc13) (Calm.load 0 rfl rfl rfl (At.cast At.here rfl) ag62 (by rw [sz62]; simp [AV.size])) ?_
      exact AO.nE (d := 54) rfl ⟨⟨54, _, rfl, rfl, rfl⟩, Sub.refl _⟩
     ·refine StepE.calm (fun _ _ => rfl) fun L σ hc hi hd => ?_
      refine AO.wK [53, 54] ?_
      refine AO.callG 5 true 53 [(.ar 1 (x9.toList.map eU64))] (eBool t14) 55 rfl (by decide) ok119 rfl rfl (bD hc13) rfl rfl ⟨rfl, rfl, trivial⟩ (F119_spec et14) ?_
      exact AO.nE (d := 55) rfl ⟨⟨55, _, rfl, rfl, rfl⟩, Sub.refl _⟩
     ·refine StepE.calm (fun _ _ => rfl) fun L σ hc hi hd => ?_
      refine AO.wK [53, 55] ?_
      refine AO.cG rfl rfl (bD hc13) (Calm.not rfl rfl) ?_
      exact AO.nE (d := 56) rfl ⟨⟨56, _, rfl, rfl, rfl⟩, Sub.refl _⟩
     ·refine StepE.calm (fun _ _ => rfl) fun L σ hc hi hd => ?_
      refine AO.wK [53, 56] ?_
      refine AO.c (Calm.pickT rfl (bD hc13) rfl) ?_
      exact AO.nE (d := 57) rfl ⟨⟨57, _, rfl, rfl, rfl⟩, Sub.refl _⟩
     ·refine StepE.calm (fun _ _ => rfl) fun L σ hc hi hd => ?_
      refine AO.wK [50] ?_
      refine AO.ag rfl rfl ?_
      exact AO.nE (d := 2) rfl ⟨⟨2, _, rfl, rfl, rfl⟩, Sub.refl _⟩
     ·refine StepE.calm (fun _ _ => rfl) fun L σ hc hi hd => ?_
      refine AO.wK [57] ?_
      refine AO.ag rfl rfl ?_
      exact AO.nE (d := 3) rfl ⟨⟨3, _, rfl, rfl, rfl⟩, Sub.refl _⟩
     ·refine AO.nH [2, 3] (H' := ((q0, (.mem (e140 t11.2))) :: T0)) (Sub.cons 1 rfl (Sub.drop (Sub.refl _))) ?_
      refine AW.rK [2, 3] ?_
      have hr := Option.some.inj h
      subst hr
      exact ⟨[(.fz 5 (([(S131.mk (1 : Int) x9)] : List S131).map e131)), (eBool (!t14))], ⟨rfl, rfl, rfl, rfl, trivial⟩, rfl, (Sub.cons 0 rfl (Sub.refl _))⟩
    ·refine AW.regEff (by rfl) (by decide +kernel) (fun (σ : Nat → Nat) => ([(.ar 1 (x9.toList.map eU64)), (e131 (S131.mk (1 : Int) x9)), (.fz 5 (([(S131.mk (1 : Int) x9)] : List S131).map e131)), (.ptr q0 0), (eBool t11.1), (eBool t11.1), (.fl undef), (.fl undef), (.fl undef), (eBool false), (.fz 5 (([(S131.mk (1 : Int) x9)] : List S131).map e131)), (eBool false)] : List AV)) (fun (L : Nat → Bool) (σ : Nat → Nat) => ((n4, (.mem (.ar 1 (x9.toList.map eU64)))) :: (bif L 4 then ((q0, (.mem (e140 t11.2))) :: T0) else ((q0, (.mem (.st [(1, (eStr x5)), (1, (eI64 x6)), (1, (eI64 x7))]))) :: T0)) : Heap)) [(0, (.ptr q0 0)), (5, (.ptr n4 0))] ⟨rfl, rfl, trivial⟩ (fun _ => rfl) (fun σ => (Sub.cons 1 rfl (Sub.cons 0 rfl (Sub.refl _)))) ⟨?_, ?_, ?_, ?_, ?_, ?_, ?_, ?_, ?_, ?_, ?_, ?_, trivial⟩ (fun σ => [(2, (.fz 5 (([(S131.mk (1 : Int) x9)] : List S131).map e131))), (3, (eBool false))]) (fun σ => ((n4, (.mem (.ar 1 (x9.toList.map eU64)))) :: (q0, (.mem (e140 t11.2))) :: T0)) (fun σ => ⟨rfl, rfl, trivial⟩) (fun σ => Sub.refl _) (fun σ => ?_)
     ·refine StepE.calm (fun _ _ => rfl) fun L σ hc hi hd => ?_
      refine AO.wK [5] ?_
      refine AO.c (Calm.load 0 rfl rfl rfl (At.cast At.here rfl) ag62 (by rw [sz62]; simp [AV.size])) ?_
      exact AO.nE (d := 48) rfl ⟨⟨48, _, rfl, rfl, rfl⟩, Sub.refl _⟩
     ·refine StepE.calm (fun _ _ => rfl) fun L σ hc hi hd => ?_
      refine AO.wK [48] ?_
      refine AO.c (x := .st [(1, (eI64 (1 : Int))), (4, (.ar 1 (x9.toList.map eU64)))]) (Calm.build (qs := [(0, (eI64 (1 : Int))), (1, (.ar 1 (x9.toList.map eU64)))]) rfl ⟨rfl, rfl, rfl, rfl, rfl, rfl, trivial⟩ Try.underlying131 rfl zr131 lay131 (.cons rfl rfl rfl rfl (Put.cast (Put.fld0 Put.here) rfl) (.cons rfl rfl (vec_size _ _) (vec_size _ _) (Put.cast (Put.fldS (Put.fld0 Put.here)) rfl) .nil)) rfl) ?_
      exact AO.nE (d := 49) rfl ⟨⟨49, _, rfl, rfl, rfl⟩, Sub.refl _⟩
     ·refine StepE.calm (fun _ _ => rfl) fun L σ hc hi hd => ?_
      refine AO.wK [49] ?_
      refine AO.lit (Z := (.st [(1, (eI64 (0 : Int))), (4, (.ar 1 ((Vector.replicate 4 (0 : Int)).toList.map eU64)))])) (xs := (([(S131.mk (1 : Int) x9)] : List S131).map e131)) (qs := [(0, (e131 (S131.mk (1 : Int) x9)))]) rfl 50 rfl (by decide) rfl ⟨rfl, rfl, rfl, trivial⟩ Try.underlying68 sz131 zr131 lay131 rfl (by decide) (litOK (z := 5) [(e131 (S131.mk (1 : Int) x9))] rfl ⟨⟨rfl, rfl⟩, trivial⟩) rfl fun n10 => ?_
      refine AO.freezeS 0 [(50, (.fz 5 (([(S131.mk (1 : Int) x9)] : List S131).map e131)))] rfl ⟨fz_all rfl, trivial⟩ ?_
      exact AO.nE (d := 50) rfl ⟨⟨50, _, rfl, rfl, rfl⟩, Sub.refl _⟩
     ·refine StepE.calm (fun _ _ => rfl) fun L σ hc hi hd => ?_
      have m4 : L 4 = false := hc.neg (i := 3) (j := 4) rfl (by rfl) hi
      refine AO.heq (H' := ((n4, (.mem (.ar 1 (x9.toList.map eU64)))) :: (q0, (.mem (.st [(1, (eStr x5)), (1, (eI64 x6)), (1, (eI64 x7))]))) :: T0)) (by first | rfl | simp only [m4, cond_true, cond_false]) ?_
      refine AO.wK [0] ?_
      refine AO.mv rfl rfl ?_
      exact AO.nE (d := 51) rfl ⟨⟨51, _, rfl, rfl, rfl⟩, Sub.of_eq (by first | rfl | simp only [m4, cond_true, cond_false]) (Sub.refl _)⟩
     ·intro L σ hc hi hd
      refine AO.heq (H' := ((n4, (.mem (.ar 1 (x9.toList.map eU64)))) :: (q0, (.mem (.st [(1, (eStr x5)), (1, (eI64 x6)), (1, (eI64 x7))]))) :: T0)) (by first | rfl | simp only [hi, cond_true, cond_false]) ?_
      refine AO.wK [51] ?_
      refine AO.callH [(.ptr q0 0), (eU8 (93 : Int))] ((q0, (.mem (e140 (S140.mk x5 x6 x7)))) :: (n4, (.mem (.ar 1 (x9.toList.map eU64)))) :: T0) _ rfl rfl rfl 52 rfl (by decide) ok116 ⟨rfl, rfl, rfl, rfl, trivial⟩ (Sub.cons 1 rfl (Sub.refl _)) (F116_spec et11) ?_
      rintro _ _ ⟨rfl, hs12⟩
      refine AO.wH [51, 52] hs12 ?_
      have a4 : addL L 4 4 = true := rfl
      exact AO.nE (d := 52) rfl ⟨σ, (fun _ _ => rfl), (fun d' hd' => ⟨_, rfl, by cases hd'; rfl⟩), Sub.of_eq (B := ((n4, (.mem (.ar 1 (x9.toList.map eU64)))) :: (q0, (.mem (e140 t11.2))) :: T0)) (by simp only [a4, cond_true, cond_false]) (Sub.cons 1 rfl (Sub.cons 0 rfl (Sub.refl _)))⟩
     ·refine StepE.calm (fun _ _ => rfl) fun L σ hc hi hd => ?_
      refine AO.wK [52] ?_
      refine AO.mv rfl rfl ?_
      exact AO.nE (d := 53) rfl ⟨⟨53, _, rfl, rfl, rfl⟩, Sub.refl _⟩
     ·refine StepE.calm (fun _ _ => rfl) fun L σ hc hi hd => ?_
      refine AO.wK [53] ?_
      refine AO.sT rfl rfl (bD (eq_false_of_ne_true hc13)) ?_
      exact AO.nE (d := 54) rfl ⟨⟨54, _, rfl, rfl, rfl⟩, Sub.refl _⟩
     ·refine StepE.calm (fun _ _ => rfl) fun L σ hc hi hd => ?_
      refine AO.wK [53] ?_
      refine AO.sT rfl rfl (bD (eq_false_of_ne_true hc13)) ?_
      exact AO.nE (d := 55) rfl ⟨⟨55, _, rfl, rfl, rfl⟩, Sub.refl _⟩
     ·refine StepE.calm (fun _ _ => rfl) fun L σ hc hi hd => ?_
      refine AO.wK [53] ?_
      refine AO.sT rfl rfl (bD (eq_false_of_ne_true hc13)) ?_
      exact AO.nE (d := 56) rfl ⟨⟨56, _, rfl, rfl, rfl⟩, Sub.refl _⟩
     ·refine StepE.calm (fun _ _ => rfl) fun L σ hc hi hd => ?_
      refine AO.wK [53, 56] ?_
      refine AO.c (Calm.pickF rfl (bD (eq_false_of_ne_true hc13)) rfl) ?_
      exact AO.nE (d := 57) rfl ⟨⟨57, _, rfl, rfl, rfl⟩, Sub.refl _⟩
     ·refine StepE.calm (fun _ _ => rfl) fun L σ hc hi hd => ?_
      refine AO.wK [50] ?_
      refine AO.ag rfl rfl ?_
      exact AO.nE (d := 2) rfl ⟨⟨2, _, rfl, rfl, rfl⟩, Sub.refl _⟩
     ·refine StepE.calm (fun _ _ => rfl) fun L σ hc hi hd => ?_
      refine AO.wK [57] ?_
      refine AO.ag rfl rfl ?_
      exact AO.nE (d := 3) rfl ⟨⟨3, _, rfl, rfl, rfl⟩, Sub.refl _⟩
     ·refine AO.nH [2, 3] (H' := ((q0, (.mem (e140 t11.2))) :: T0)) (Sub.cons 1 rfl (Sub.drop (Sub.refl _))) ?_
      refine AW.rK [2, 3] ?_
      have hr := Option.some.inj h
      subst hr
      exact ⟨[(.fz 5 (([(S131.mk (1 : Int) x9)] : List S131).map e131)), (eBool false)], ⟨rfl, rfl, rfl, rfl, trivial⟩, rfl, (Sub.cons 0 rfl (Sub.refl _))⟩
end Go.Avl.T7
/- bosket/byteset.Of; printed by avmain.py. -/
namespace Go.Avl.T7
open Go Go.RowKit Go.Proofs Go.Avl
set_option linter.unusedVariables false
set_option maxRecDepth 100000
set_option maxHeartbeats 4000000
attribute [local irreducible] AW AO AQ Spec SpecH Calm

def F61_c0 (k : Nat) (x4 : (Vector Int 4)) : Option (Vector Int 4) :=
  some (x4)
def F61_l1 (k : Nat) (p0 : (List Int)) : Nat → (Vector Int 4) → Int → Option (Vector Int 4)
  | 0, _, _ => none
  | j + 1, x5, x6 =>
    if x6 < (p0.length : Int) then if 0 ≤ x6 ∧ x6 < (p0.length : Int) then if 0 ≤ (IntKind.u8.wrap ((lget p0 x6).tdiv (64 : Int))) ∧ (IntKind.u8.wrap ((lget p0 x6).tdiv (64 : Int))) < (4 : Int) then if 0 ≤ ((lget p0 x6).tmod (64 : Int)) then if 0 ≤ (IntKind.u8.wrap ((lget p0 x6).tdiv (64 : Int))) ∧ (IntKind.u8.wrap ((lget p0 x6).tdiv (64 : Int))) < (4 : Int) then (F61_l1 k p0 j) (vset x5 (IntKind.u8.wrap ((lget p0 x6).tdiv (64 : Int))) (bits .or .u64 (vget x5 (IntKind.u8.wrap ((lget p0 x6).tdiv (64 : Int)))) (IntKind.u64.wrap ((1 : Int) * 2 ^ (min ((lget p0 x6).tmod (64 : Int)).toNat IntKind.u64.bits))))) (w64 (x6 + (1 : Int)))
    else none
    else none
    else none
    else none
    else F61_c0 k x5
def F61 (k : Nat) (p0 : (List Int)) : Option (Vector Int 4) :=
  F61_l1 k p0 k (Vector.replicate 4 (0 : Int)) (0 : Int)
theorem F61_spec {k : Nat} {p0 : (List Int)} {r : (Vector Int 4)} (h : F61 k p0 = some r) : Spec Try.prog 61 [(.fz 1 (p0.map eU8))] (e62 r) := by
  rw [F61.eq_1] at h
  refine Spec.intro (res := [.cell 2 62]) Try.func61 rfl rfl rfl (Nat.le_of_ble_eq_true rfl) ?_
  refine AW.sr ?_
  refine AO.alloc rfl 2 rfl (by decide) rfl zr62 lay62 fun n2 => ?_
  refine AO.nK [0, 2] ?_
  refine AW.sr ?_
  refine AO.alloc rfl 3 rfl (by decide) rfl zr62 lay62 fun n3 => ?_
  refine AO.nH [0, 2, 3] (H' := [(n2, (.mem (.ar 1 ((Vector.replicate 4 (0 : Int)).toList.map eU64)))), (n3, (.mem (.ar 1 ((Vector.replicate 4 (0 : Int)).toList.map eU64))))]) (Sub.cons 1 rfl (Sub.cons 0 rfl (Sub.nil _))) ?_
  refine AW.seq_mid (fun ρ H => ∃ (x4 : (Vector Int 4)), ρ = [(2, (.ptr n2 0)), (3, (.ptr n3 0))] ∧ H = [(n2, (.mem (.ar 1 ((Vector.replicate 4 (0 : Int)).toList.map eU64)))), (n3, (.mem (.ar 1 (x4.toList.map eU64))))] ∧ F61_c0 k x4 = some r) ?_ ?_
  ·refine AW.sr ?_
   refine AO.mv rfl rfl ?_
   refine AO.c (Calm.lenL rfl rfl Try.underlying102) ?_
   refine AO.mv rfl rfl ?_
   refine AO.nK [2, 3, 6, 7, 8] ?_
   refine AW.block ?_
   refine AW.wK [2, 3, 6, 7, 8] ?_
   refine AW.loop (fun kq ρ H => ∃ (x5 : (Vector Int 4)) (x6 : Int), ρ = [(2, (.ptr n2 0)), (3, (.ptr n3 0)), (6, (.fz 1 (p0.map eU8))), (7, (eI64 (p0.length : Int))), (8, (eI64 x6))] ∧ H = [(n2, (.mem (.ar 1 ((Vector.replicate 4 (0 : Int)).toList.map eU64)))), (n3, (.mem (.ar 1 (x5.toList.map eU64))))] ∧ F61_l1 k p0 kq x5 x6 = some r) k ⟨(Vector.replicate 4 (0 : Int)), (0 : Int), rfl, rfl, h⟩ ?_
   rintro kq8 _ _ ⟨x5, x6, rfl, rfl, h⟩
   cases kq8 with
   | zero => rw [F61_l1.eq_1] at h; cases h
   | succ kq8 =>
   rw [F61_l1.eq_2] at h
   generalize hrec7 : F61_l1 k p0 kq8 = rec7 at h
   refine AW.sr ?_
   refine AO.c (x := eBool (decide (x6 < (p0.length : Int)))) (Calm.int rfl rfl rfl rfl) ?_
   refine AO.nK [2, 3, 6, 7, 8, 9] ?_
   refine AW.seq ?_
   rcases of_ite h with ⟨hc9, h⟩ | ⟨hc9, h⟩
   ·refine AW.condP _ rfl hc9 ?_
    refine AW.sK [2, 3, 6, 7, 8] ?_
    refine AW.seq ?_
    refine AW.block ?_
    refine AW.sr ?_
    obtain ⟨hg10, h⟩ := of_guard h
    refine AO.c (Calm.idxL (f := eU8) rfl rfl rfl hg10 Try.underlying102 sz5) ?_
    refine AO.c (Calm.loadRp rfl rfl ag5 sz5) ?_
    refine AO.ag rfl rfl ?_
    refine AO.nK [2, 3, 5, 6, 7, 8] ?_
    refine AW.reg ?_
    refine AO.mv rfl rfl ?_
    refine AO.c (x := eU8 (IntKind.u8.wrap ((lget p0 x6).tdiv (64 : Int)))) (Calm.quo rfl rfl rfl (by decide)) ?_
    obtain ⟨hg11, h⟩ := of_guard h
    refine AO.c (Calm.idxP rfl rfl rfl hg11 Try.underlying62 sz60) ?_
    refine AO.c (Calm.load 1 rfl rfl rfl (At.cast (At.vidx (IntKind.u8.wrap ((lget p0 x6).tdiv (64 : Int))) hg11.1 hg11.2 At.here) (by omega)) ag60 sz60) ?_
    refine AO.mv rfl rfl ?_
    refine AO.c (x := eU8 ((lget p0 x6).tmod (64 : Int))) (Calm.rem rfl rfl rfl (by decide)) ?_
    obtain ⟨hg12, h⟩ := of_guard h
    refine AO.c (x := eU64 (IntKind.u64.wrap ((1 : Int) * 2 ^ (min ((lget p0 x6).tmod (64 : Int)).toNat IntKind.u64.bits)))) (Calm.shl rfl rfl rfl hg12) ?_
    refine AO.c (x := eU64 (bits .or .u64 (vget x5 (IntKind.u8.wrap ((lget p0 x6).tdiv (64 : Int)))) (IntKind.u64.wrap ((1 : Int) * 2 ^ (min ((lget p0 x6).tmod (64 : Int)).toNat IntKind.u64.bits))))) (Calm.int rfl rfl rfl rfl) ?_
    obtain ⟨hg13, h⟩ := of_guard h
    refine AO.c (Calm.idxP rfl rfl rfl hg13 Try.underlying62 sz60) ?_
    refine AO.store (X' := (.ar 1 ((vset x5 (IntKind.u8.wrap ((lget p0 x6).tdiv (64 : Int))) (bits .or .u64 (vget x5 (IntKind.u8.wrap ((lget p0 x6).tdiv (64 : Int)))) (IntKind.u64.wrap ((1 : Int) * 2 ^ (min ((lget p0 x6).tmod (64 : Int)).toNat IntKind.u64.bits))))).toList.map eU64))) 1 rfl rfl rfl rfl rfl rfl (Put.cast (Put.vidx (IntKind.u8.wrap ((lget p0 x6).tdiv (64 : Int))) (bits .or .u64 (vget x5 (IntKind.u8.wrap ((lget p0 x6).tdiv (64 : Int)))) (IntKind.u64.wrap ((1 : Int) * 2 ^ (min ((lget p0 x6).tmod (64 : Int)).toNat IntKind.u64.bits)))) hg13.1 hg13.2 Put.here) (by omega)) rfl rfl sz60 rfl ?_
    refine AO.nK [2, 3, 6, 7, 8] ?_
    refine AW.reg ?_
    refine AO.c (x := eI64 (w64 (x6 + (1 : Int)))) (Calm.int rfl rfl rfl rfl) ?_
    refine AO.mv rfl rfl ?_
    refine AO.nK [2, 3, 6, 7, 8] ?_
    exact ⟨kq8, Nat.lt_succ_self _, (vset x5 (IntKind.u8.wrap ((lget p0 x6).tdiv (64 : Int))) (bits .or .u64 (vget x5 (IntKind.u8.wrap ((lget p0 x6).tdiv (64 : Int)))) (IntKind.u64.wrap ((1 : Int) * 2 ^ (min ((lget p0 x6).tmod (64 : Int)).toNat IntKind.u64.bits))))), (w64 (x6 + (1 : Int))), rfl, rfl, by rw [hrec7]; exact h⟩
   ·refine AW.condN _ rfl hc9 ?_
    refine AW.eK [2, 3] ?_
    exact ⟨x5, rfl, rfl, h⟩
  ·rintro _ _ ⟨x4, rfl, rfl, h⟩
   rw [F61_c0.eq_1] at h
   refine AW.sr ?_
   refine AO.c (Calm.load 1 rfl rfl rfl (At.cast At.here rfl) ag62 (by rw [sz62]; simp [AV.size])) ?_
   refine AO.store (X' := (.ar 1 (x4.toList.map eU64))) 0 rfl rfl rfl rfl rfl rfl (Put.cast Put.here rfl) rfl (by simp [AV.size]) (by rw [sz62]; simp [AV.size]) rfl ?_
   refine AO.nH [2] (H' := [(n2, (.mem (.ar 1 (x4.toList.map eU64))))]) (Sub.cons 0 rfl (Sub.nil _)) ?_
   refine AW.rK [2] ?_
   have hr := Option.some.inj h
   subst hr
   exact ⟨[(.ar 1 (x4.toList.map eU64))], ⟨⟨_, 0, rfl, rfl, ag62, (by rw [sz62]; simp [AV.size])⟩, trivial⟩, rfl⟩
end Go.Avl.T7
