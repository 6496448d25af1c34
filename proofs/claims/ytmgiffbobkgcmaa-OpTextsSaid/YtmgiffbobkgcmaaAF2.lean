/- Parts: T2f87, T2f68, T2f99, T2f89, T2f70, T2f13, T2f78, T2f101, T2f91, T2f75, T2f55, T2f76, T2f56, T2f14, T2f18, T2f40, T2f41, T2f43, T2f42. -/
import Derived.Test.YtmgiffbobkgcmaaAF1
/- bosket/escape.Read; printed by avmain.py. -/
namespace Go.Avl.T2
open Go Go.RowKit Go.Proofs Go.Avl
set_option linter.unusedVariables false
set_option maxRecDepth 100000
set_option maxHeartbeats 4000000
attribute [local irreducible] AW AO AQ Spec SpecH Calm

def escape_Read_c0 (k : Nat) (p0 : ByteArray) : Option (Int × Int × Bool) :=
  Option.bind (α := Bool) (if (48 : Int) ≤ (byteAt p0 (1 : Int)) then if (byteAt p0 (1 : Int)) ≤ (57 : Int) then some (true)
  else if (97 : Int) ≤ (byteAt p0 (1 : Int)) then if (byteAt p0 (1 : Int)) ≤ (122 : Int) then some (true)
  else if (65 : Int) ≤ (byteAt p0 (1 : Int)) then if (byteAt p0 (1 : Int)) ≤ (90 : Int) then some (true)
  else if (byteAt p0 (1 : Int)) < (32 : Int) then some (true)
  else some (decide ((126 : Int) < (byteAt p0 (1 : Int))))
  else if (byteAt p0 (1 : Int)) < (32 : Int) then some (true)
  else some (decide ((126 : Int) < (byteAt p0 (1 : Int))))
  else if (65 : Int) ≤ (byteAt p0 (1 : Int)) then if (byteAt p0 (1 : Int)) ≤ (90 : Int) then some (true)
  else if (byteAt p0 (1 : Int)) < (32 : Int) then some (true)
  else some (decide ((126 : Int) < (byteAt p0 (1 : Int))))
  else if (byteAt p0 (1 : Int)) < (32 : Int) then some (true)
  else some (decide ((126 : Int) < (byteAt p0 (1 : Int))))
  else if (97 : Int) ≤ (byteAt p0 (1 : Int)) then if (byteAt p0 (1 : Int)) ≤ (122 : Int) then some (true)
  else if (65 : Int) ≤ (byteAt p0 (1 : Int)) then if (byteAt p0 (1 : Int)) ≤ (90 : Int) then some (true)
  else if (byteAt p0 (1 : Int)) < (32 : Int) then some (true)
  else some (decide ((126 : Int) < (byteAt p0 (1 : Int))))
  else if (byteAt p0 (1 : Int)) < (32 : Int) then some (true)
  else some (decide ((126 : Int) < (byteAt p0 (1 : Int))))
  else if (65 : Int) ≤ (byteAt p0 (1 : Int)) then if (byteAt p0 (1 : Int)) ≤ (90 : Int) then some (true)
  else if (byteAt p0 (1 : Int)) < (32 : Int) then some (true)
  else some (decide ((126 : Int) < (byteAt p0 (1 : Int))))
  else if (byteAt p0 (1 : Int)) < (32 : Int) then some (true)
  else some (decide ((126 : Int) < (byteAt p0 (1 : Int))))) fun b8 =>
  if b8 = true then some ((0 : Int), (0 : Int), false)
  else some ((byteAt p0 (1 : Int)), (2 : Int), true)
def escape_Read_c1 (k : Nat) : Option (Int × Int × Bool) :=
  some ((0 : Int), (0 : Int), false)
def escape_Read_c2 (k : Nat) (p0 : ByteArray) : Option (Int × Int × Bool) :=
  Option.bind (α := Bool) (if (4 : Int) ≤ (p0.size : Int) then if 0 ≤ (2 : Int) ∧ (2 : Int) < (p0.size : Int) then (escape_value k (byteAt p0 (2 : Int))).bind fun t37 =>
  if (0 : Int) ≤ t37 then if 0 ≤ (3 : Int) ∧ (3 : Int) < (p0.size : Int) then (escape_value k (byteAt p0 (3 : Int))).bind fun t40 =>
  some (decide ((0 : Int) ≤ t40))
  else none
  else some (false)
  else none
  else some (false)) fun b33 =>
  if b33 = true then if 0 ≤ (2 : Int) ∧ (2 : Int) < (p0.size : Int) then (escape_value k (byteAt p0 (2 : Int))).bind fun t43 =>
  if 0 ≤ (3 : Int) ∧ (3 : Int) < (p0.size : Int) then (escape_value k (byteAt p0 (3 : Int))).bind fun t45 =>
  some ((w8 (bits .or .i64 (IntKind.i64.wrap (t43 * 2 ^ (min (4 : Int).toNat IntKind.i64.bits))) t45)), (4 : Int), true)
  else none
  else none
  else escape_Read_c1 k
def escape_Read_c3 (k : Nat) : Option (Int × Int × Bool) :=
  some ((13 : Int), (2 : Int), true)
def escape_Read_c4 (k : Nat) : Option (Int × Int × Bool) :=
  some ((9 : Int), (2 : Int), true)
def escape_Read_c5 (k : Nat) : Option (Int × Int × Bool) :=
  some ((10 : Int), (2 : Int), true)
def escape_Read (k : Nat) (p0 : ByteArray) : Option (Int × Int × Bool) :=
  if p0 = (ByteArray.mk #[]) then some ((0 : Int), (0 : Int), false)
  else if 0 ≤ (0 : Int) ∧ (0 : Int) < (p0.size : Int) then if (byteAt p0 (0 : Int)) ≠ (92 : Int) then if 0 ≤ (0 : Int) ∧ (0 : Int) < (p0.size : Int) then some ((byteAt p0 (0 : Int)), (1 : Int), true)
  else none
  else if (p0.size : Int) < (2 : Int) then some ((0 : Int), (0 : Int), false)
  else if 0 ≤ (1 : Int) ∧ (1 : Int) < (p0.size : Int) then if (byteAt p0 (1 : Int)) = (110 : Int) then escape_Read_c5 k
  else if (byteAt p0 (1 : Int)) = (116 : Int) then escape_Read_c4 k
  else if (byteAt p0 (1 : Int)) = (114 : Int) then escape_Read_c3 k
  else if (byteAt p0 (1 : Int)) = (120 : Int) then escape_Read_c2 k p0
  else if (byteAt p0 (1 : Int)) = (0 : Int) then escape_Read_c1 k
  else escape_Read_c0 k p0
  else none
  else none
theorem escape_Read_spec {k : Nat} {p0 : ByteArray} {r : (Int × Int × Bool)} (h : escape_Read k p0 = some r) : Spec Try.prog 87 [(eStr p0)] (.tup [(eU8 r.1), (eI64 r.2.1), (eBool r.2.2)]) := by
  rw [escape_Read.eq_1] at h
  refine Spec.intro (res := [.tmp 2, .tmp 3, .tmp 4]) Try.func87 rfl rfl rfl (Nat.le_of_ble_eq_true rfl) ?_
  refine AW.sr ?_
  refine AO.c (Calm.assign rfl rfl) ?_
  refine AO.c (Calm.assign rfl rfl) ?_
  refine AO.c (Calm.assign rfl rfl) ?_
  refine AO.nK [0] ?_
  refine AW.seq ?_
  refine AW.block ?_
  refine AW.sr ?_
  refine AO.c (Calm.move rfl rfl) ?_
  refine AO.c (x := eBool (decide (p0 = (ByteArray.mk #[])))) (Calm.str rfl rfl rfl rfl) ?_
  refine AO.c (Calm.assign rfl rfl) ?_
  refine AO.nK [0, 6] ?_
  rcases of_ite h with ⟨hc2, h⟩ | ⟨hc2, h⟩
  ·refine AW.condP _ rfl hc2 ?_
   refine AW.sr ?_
   refine AO.c (Calm.assign rfl rfl) ?_
   refine AO.c (Calm.assign rfl rfl) ?_
   refine AO.c (Calm.assign rfl rfl) ?_
   refine AO.nK [2, 3, 4] ?_
   refine AW.rK [2, 3, 4] ?_
   have hr := Option.some.inj h
   subst hr
   exact ⟨[(eU8 (0 : Int)), (eI64 (0 : Int)), (eBool false)], ⟨rfl, rfl, rfl, rfl, rfl, rfl, trivial⟩, rfl⟩
  ·refine AW.condN _ rfl hc2 ?_
   refine AW.sr ?_
   refine AO.c (Calm.move rfl rfl) ?_
   obtain ⟨hg3, h⟩ := of_guard h
   refine AO.c (x := eU8 (byteAt p0 (0 : Int))) (Calm.idxS rfl rfl rfl hg3 Try.underlying9) ?_
   refine AO.c (x := eBool (decide ((byteAt p0 (0 : Int)) ≠ (92 : Int)))) (Calm.int rfl rfl rfl rfl) ?_
   refine AO.c (Calm.assign rfl rfl) ?_
   refine AO.nK [0, 9] ?_
   rcases of_ite h with ⟨hc4, h⟩ | ⟨hc4, h⟩
   ·refine AW.condP _ rfl hc4 ?_
    refine AW.sr ?_
    refine AO.c (Calm.move rfl rfl) ?_
    obtain ⟨hg5, h⟩ := of_guard h
    refine AO.c (x := eU8 (byteAt p0 (0 : Int))) (Calm.idxS rfl rfl rfl hg5 Try.underlying9) ?_
    refine AO.c (Calm.assign rfl rfl) ?_
    refine AO.c (Calm.assign rfl rfl) ?_
    refine AO.c (Calm.assign rfl rfl) ?_
    refine AO.nK [2, 3, 4] ?_
    refine AW.rK [2, 3, 4] ?_
    have hr := Option.some.inj h
    subst hr
    exact ⟨[(eU8 (byteAt p0 (0 : Int))), (eI64 (1 : Int)), (eBool true)], ⟨rfl, rfl, rfl, rfl, rfl, rfl, trivial⟩, rfl⟩
   ·refine AW.condN _ rfl hc4 ?_
    refine AW.sr ?_
    refine AO.c (Calm.move rfl rfl) ?_
    refine AO.c (Calm.lenStr rfl rfl Try.underlying9) ?_
    refine AO.c (x := eBool (decide ((p0.size : Int) < (2 : Int)))) (Calm.int rfl rfl rfl rfl) ?_
    refine AO.c (Calm.assign rfl rfl) ?_
    refine AO.nK [0, 15] ?_
    rcases of_ite h with ⟨hc6, h⟩ | ⟨hc6, h⟩
    ·refine AW.condP _ rfl hc6 ?_
     refine AW.sr ?_
     refine AO.c (Calm.assign rfl rfl) ?_
     refine AO.c (Calm.assign rfl rfl) ?_
     refine AO.c (Calm.assign rfl rfl) ?_
     refine AO.nK [2, 3, 4] ?_
     refine AW.rK [2, 3, 4] ?_
     have hr := Option.some.inj h
     subst hr
     exact ⟨[(eU8 (0 : Int)), (eI64 (0 : Int)), (eBool false)], ⟨rfl, rfl, rfl, rfl, rfl, rfl, trivial⟩, rfl⟩
    ·refine AW.condN _ rfl hc6 ?_
     refine AW.sK [0] ?_
     refine AW.sr ?_
     refine AO.c (Calm.move rfl rfl) ?_
     obtain ⟨hg7, h⟩ := of_guard h
     refine AO.c (x := eU8 (byteAt p0 (1 : Int))) (Calm.idxS rfl rfl rfl hg7 Try.underlying9) ?_
     refine AO.c (Calm.assign rfl rfl) ?_
     refine AO.nK [0, 5] ?_
     refine AW.seq_mid (fun ρ H => ρ = [(5, (eU8 (byteAt p0 (1 : Int))))] ∧ H = [] ∧ escape_Read_c0 k p0 = some r) ?_ ?_
     ·refine AW.sr ?_
      refine AO.c (Calm.move rfl rfl) ?_
      refine AO.nK [0, 5, 21] ?_
      refine AW.block ?_
      refine AW.seq_mid (fun ρ H => ρ = [] ∧ H = [] ∧ escape_Read_c1 k = some r) ?_ ?_
      ·refine AW.block ?_
       refine AW.seq_mid (fun ρ H => ρ = [(0, (eStr p0))] ∧ H = [] ∧ escape_Read_c2 k p0 = some r) ?_ ?_
       ·refine AW.block ?_
        refine AW.seq_mid (fun ρ H => ρ = [] ∧ H = [] ∧ escape_Read_c3 k = some r) ?_ ?_
        ·refine AW.block ?_
         refine AW.seq_mid (fun ρ H => ρ = [] ∧ H = [] ∧ escape_Read_c4 k = some r) ?_ ?_
         ·refine AW.block ?_
          refine AW.seq_mid (fun ρ H => ρ = [] ∧ H = [] ∧ escape_Read_c5 k = some r) ?_ ?_
          ·refine AW.block ?_
           refine AW.seq ?_
           refine AW.seq ?_
           refine AW.sr ?_
           refine AO.c (x := eBool (decide ((byteAt p0 (1 : Int)) = (110 : Int)))) (Calm.int rfl rfl rfl rfl) ?_
           refine AO.c (Calm.assign rfl rfl) ?_
           refine AO.nK [0, 5, 21, 22] ?_
           rcases of_ite h with ⟨hc46, h⟩ | ⟨hc46, h⟩
           ·refine AW.condP _ rfl hc46 ?_
            refine AW.eK [] ?_
            exact ⟨rfl, rfl, h⟩
           ·refine AW.condN _ rfl hc46 ?_
            refine AW.sK [0, 5, 21] ?_
            refine AW.seq ?_
            refine AW.sr ?_
            refine AO.c (x := eBool (decide ((byteAt p0 (1 : Int)) = (116 : Int)))) (Calm.int rfl rfl rfl rfl) ?_
            refine AO.c (Calm.assign rfl rfl) ?_
            refine AO.nK [0, 5, 21, 24] ?_
            rcases of_ite h with ⟨hc47, h⟩ | ⟨hc47, h⟩
            ·refine AW.condP _ rfl hc47 ?_
             refine AW.eK [] ?_
             exact ⟨rfl, rfl, h⟩
            ·refine AW.condN _ rfl hc47 ?_
             refine AW.sK [0, 5, 21] ?_
             refine AW.seq ?_
             refine AW.sr ?_
             refine AO.c (x := eBool (decide ((byteAt p0 (1 : Int)) = (114 : Int)))) (Calm.int rfl rfl rfl rfl) ?_
             refine AO.c (Calm.assign rfl rfl) ?_
             refine AO.nK [0, 5, 21, 26] ?_
             rcases of_ite h with ⟨hc48, h⟩ | ⟨hc48, h⟩
             ·refine AW.condP _ rfl hc48 ?_
              refine AW.eK [] ?_
              exact ⟨rfl, rfl, h⟩
             ·refine AW.condN _ rfl hc48 ?_
              refine AW.sK [0, 5, 21] ?_
              refine AW.seq ?_
              refine AW.sr ?_
              refine AO.c (x := eBool (decide ((byteAt p0 (1 : Int)) = (120 : Int)))) (Calm.int rfl rfl rfl rfl) ?_
              refine AO.c (Calm.assign rfl rfl) ?_
              refine AO.nK [0, 5, 21, 28] ?_
              rcases of_ite h with ⟨hc49, h⟩ | ⟨hc49, h⟩
              ·refine AW.condP _ rfl hc49 ?_
               refine AW.eK [0] ?_
               exact ⟨rfl, rfl, h⟩
              ·refine AW.condN _ rfl hc49 ?_
               refine AW.sK [5, 21] ?_
               refine AW.sr ?_
               refine AO.c (x := eBool (decide ((byteAt p0 (1 : Int)) = (0 : Int)))) (Calm.int rfl rfl rfl rfl) ?_
               refine AO.c (Calm.assign rfl rfl) ?_
               refine AO.nK [5, 30] ?_
               rcases of_ite h with ⟨hc50, h⟩ | ⟨hc50, h⟩
               ·refine AW.condP _ rfl hc50 ?_
                refine AW.eK [] ?_
                exact ⟨rfl, rfl, h⟩
               ·refine AW.condN _ rfl hc50 ?_
                refine AW.sK [5] ?_
                refine AW.eK [5] ?_
                exact ⟨rfl, rfl, h⟩
          ·rintro _ _ ⟨rfl, rfl, h⟩
           rw [escape_Read_c5.eq_1] at h
           refine AW.seq ?_
           refine AW.sr ?_
           refine AO.c (Calm.assign rfl rfl) ?_
           refine AO.c (Calm.assign rfl rfl) ?_
           refine AO.c (Calm.assign rfl rfl) ?_
           refine AO.nK [2, 3, 4] ?_
           refine AW.rK [2, 3, 4] ?_
           have hr := Option.some.inj h
           subst hr
           exact ⟨[(eU8 (10 : Int)), (eI64 (2 : Int)), (eBool true)], ⟨rfl, rfl, rfl, rfl, rfl, rfl, trivial⟩, rfl⟩
         ·rintro _ _ ⟨rfl, rfl, h⟩
          rw [escape_Read_c4.eq_1] at h
          refine AW.seq ?_
          refine AW.sr ?_
          refine AO.c (Calm.assign rfl rfl) ?_
          refine AO.c (Calm.assign rfl rfl) ?_
          refine AO.c (Calm.assign rfl rfl) ?_
          refine AO.nK [2, 3, 4] ?_
          refine AW.rK [2, 3, 4] ?_
          have hr := Option.some.inj h
          subst hr
          exact ⟨[(eU8 (9 : Int)), (eI64 (2 : Int)), (eBool true)], ⟨rfl, rfl, rfl, rfl, rfl, rfl, trivial⟩, rfl⟩
        ·rintro _ _ ⟨rfl, rfl, h⟩
         rw [escape_Read_c3.eq_1] at h
         refine AW.seq ?_
         refine AW.sr ?_
         refine AO.c (Calm.assign rfl rfl) ?_
         refine AO.c (Calm.assign rfl rfl) ?_
         refine AO.c (Calm.assign rfl rfl) ?_
         refine AO.nK [2, 3, 4] ?_
         refine AW.rK [2, 3, 4] ?_
         have hr := Option.some.inj h
         subst hr
         exact ⟨[(eU8 (13 : Int)), (eI64 (2 : Int)), (eBool true)], ⟨rfl, rfl, rfl, rfl, rfl, rfl, trivial⟩, rfl⟩
       ·rintro _ _ ⟨rfl, rfl, h⟩
        rw [escape_Read_c2.eq_1] at h
        refine AW.seq ?_
        obtain ⟨b33, hq34, h⟩ := of_bind h
        refine AW.regM [(0, (eStr p0)), (46, (eBool b33))] [] ?_ ?_
        ·refine AO.c (Calm.move rfl rfl) ?_
         refine AO.c (Calm.lenStr rfl rfl Try.underlying9) ?_
         refine AO.c (x := eBool (decide ((4 : Int) ≤ (p0.size : Int)))) (Calm.int rfl rfl rfl rfl) ?_
         refine AO.c (Calm.move rfl rfl) ?_
         rcases of_ite hq34 with ⟨hc35, hq34⟩ | ⟨hc35, hq34⟩
         ·refine AO.cG rfl rfl (bD (decide_eq_true hc35)) (Calm.move rfl rfl) ?_
          obtain ⟨hg36, hq34⟩ := of_guard hq34
          refine AO.cG (x := eU8 (byteAt p0 (2 : Int))) rfl rfl (bD (decide_eq_true hc35)) (Calm.idxS rfl rfl rfl hg36 Try.underlying9) ?_
          obtain ⟨t37, et37, hq34⟩ := of_bind hq34
          refine AO.callG 3 true 35 [(eU8 (byteAt p0 (2 : Int)))] (eI64 t37) 38 rfl (by decide) ok98 rfl rfl (bD (decide_eq_true hc35)) rfl rfl ⟨rfl, rfl, trivial⟩ (escape_value_spec et37) ?_
          refine AO.cG (x := eBool (decide ((0 : Int) ≤ t37))) rfl rfl (bD (decide_eq_true hc35)) (Calm.int rfl rfl rfl rfl) ?_
          refine AO.c (Calm.pickT rfl (bD (decide_eq_true hc35)) rfl) ?_
          refine AO.c (Calm.move rfl rfl) ?_
          rcases of_ite hq34 with ⟨hc38, hq34⟩ | ⟨hc38, hq34⟩
          ·refine AO.cG rfl rfl (bD (decide_eq_true hc38)) (Calm.move rfl rfl) ?_
           obtain ⟨hg39, hq34⟩ := of_guard hq34
           refine AO.cG (x := eU8 (byteAt p0 (3 : Int))) rfl rfl (bD (decide_eq_true hc38)) (Calm.idxS rfl rfl rfl hg39 Try.underlying9) ?_
           obtain ⟨t40, et40, hq34⟩ := of_bind hq34
           refine AO.callG 9 true 41 [(eU8 (byteAt p0 (3 : Int)))] (eI64 t40) 44 rfl (by decide) ok98 rfl rfl (bD (decide_eq_true hc38)) rfl rfl ⟨rfl, rfl, trivial⟩ (escape_value_spec et40) ?_
           refine AO.cG (x := eBool (decide ((0 : Int) ≤ t40))) rfl rfl (bD (decide_eq_true hc38)) (Calm.int rfl rfl rfl rfl) ?_
           refine AO.c (Calm.pickT rfl (bD (decide_eq_true hc38)) rfl) ?_
           cases hq34
           refine AO.nilE ⟨rfl, rfl⟩ ?_ ?_
           · exact ⟨rfl, rfl, trivial⟩
           · exact (Sub.refl _)
          ·refine AO.sT rfl rfl (bD (decide_eq_false hc38)) ?_
           refine AO.sT rfl rfl (bD (decide_eq_false hc38)) ?_
           refine AO.sT rfl rfl (bD (decide_eq_false hc38)) ?_
           refine AO.sT rfl rfl (bD (decide_eq_false hc38)) ?_
           refine AO.c (Calm.pickF rfl (bD (decide_eq_false hc38)) rfl) ?_
           cases hq34
           refine AO.nilE ⟨rfl, rfl⟩ ?_ ?_
           · exact ⟨rfl, rfl, trivial⟩
           · exact (Sub.refl _)
         ·refine AO.sT rfl rfl (bD (decide_eq_false hc35)) ?_
          refine AO.sT rfl rfl (bD (decide_eq_false hc35)) ?_
          refine AO.sT rfl rfl (bD (decide_eq_false hc35)) ?_
          refine AO.sT rfl rfl (bD (decide_eq_false hc35)) ?_
          refine AO.c (Calm.pickF rfl (bD (decide_eq_false hc35)) rfl) ?_
          refine AO.c (Calm.move rfl rfl) ?_
          refine AO.sT rfl rfl rfl ?_
          refine AO.sT rfl rfl rfl ?_
          refine AO.sT rfl rfl rfl ?_
          refine AO.sT rfl rfl rfl ?_
          refine AO.c (Calm.pickF rfl rfl rfl) ?_
          cases hq34
          refine AO.nilE ⟨rfl, rfl⟩ ?_ ?_
          · exact ⟨rfl, rfl, trivial⟩
          · exact (Sub.refl _)
        ·rcases of_ite h with ⟨hc41, h⟩ | ⟨hc41, h⟩
         ·refine AW.condT' _ rfl hc41 ?_
          refine AW.seq ?_
          refine AW.regQ (by rfl) (by decide +kernel) ?_
          refine AQ.c (Calm.move rfl rfl) ?_
          obtain ⟨hg42, h⟩ := of_guard h
          refine AQ.c (x := eU8 (byteAt p0 (2 : Int))) (Calm.idxS rfl rfl rfl hg42 Try.underlying9) ?_
          obtain ⟨t43, et43, h⟩ := of_bind h
          refine AQ.c (Calm.call (args := [(eU8 (byteAt p0 (2 : Int)))]) rfl rfl ok98 ⟨rfl, rfl, trivial⟩ rfl (escape_value_spec et43)) ?_
          refine AQ.c (x := eI64 (IntKind.i64.wrap (t43 * 2 ^ (min (4 : Int).toNat IntKind.i64.bits)))) (Calm.shl rfl rfl rfl (by decide)) ?_
          refine AQ.c (Calm.move rfl rfl) ?_
          obtain ⟨hg44, h⟩ := of_guard h
          refine AQ.c (x := eU8 (byteAt p0 (3 : Int))) (Calm.idxS rfl rfl rfl hg44 Try.underlying9) ?_
          obtain ⟨t45, et45, h⟩ := of_bind h
          refine AQ.c (Calm.call (args := [(eU8 (byteAt p0 (3 : Int)))]) rfl rfl ok98 ⟨rfl, rfl, trivial⟩ rfl (escape_value_spec et45)) ?_
          refine AQ.c (x := eI64 (bits .or .i64 (IntKind.i64.wrap (t43 * 2 ^ (min (4 : Int).toNat IntKind.i64.bits))) t45)) (Calm.int rfl rfl rfl rfl) ?_
          refine AQ.c (x := eU8 (w8 (bits .or .i64 (IntKind.i64.wrap (t43 * 2 ^ (min (4 : Int).toNat IntKind.i64.bits))) t45))) (Calm.conv rfl rfl Try.underlying3 Try.underlying5) ?_
          refine AQ.c (Calm.assign rfl rfl) ?_
          refine AQ.c (Calm.assign rfl rfl) ?_
          refine AQ.c (Calm.assign rfl rfl) ?_
          refine AQ.nK [2, 3, 4] ?_
          refine AW.rK [2, 3, 4] ?_
          have hr := Option.some.inj h
          subst hr
          exact ⟨[(eU8 (w8 (bits .or .i64 (IntKind.i64.wrap (t43 * 2 ^ (min (4 : Int).toNat IntKind.i64.bits))) t45))), (eI64 (4 : Int)), (eBool true)], ⟨rfl, rfl, rfl, rfl, rfl, rfl, trivial⟩, rfl⟩
         ·refine AW.condF' _ rfl hc41 ?_
          refine AW.sK [] ?_
          exact ⟨rfl, rfl, h⟩
      ·rintro _ _ ⟨rfl, rfl, h⟩
       rw [escape_Read_c1.eq_1] at h
       refine AW.seq ?_
       refine AW.sr ?_
       refine AO.c (Calm.assign rfl rfl) ?_
       refine AO.c (Calm.assign rfl rfl) ?_
       refine AO.c (Calm.assign rfl rfl) ?_
       refine AO.nK [2, 3, 4] ?_
       refine AW.rK [2, 3, 4] ?_
       have hr := Option.some.inj h
       subst hr
       exact ⟨[(eU8 (0 : Int)), (eI64 (0 : Int)), (eBool false)], ⟨rfl, rfl, rfl, rfl, rfl, rfl, trivial⟩, rfl⟩
     ·rintro _ _ ⟨rfl, rfl, h⟩
      rw [escape_Read_c0.eq_1] at h
      refine AW.seq ?_
      refine AW.seq ?_
      obtain ⟨b8, hq9, h⟩ := of_bind h
      refine AW.regM [(5, (eU8 (byteAt p0 (1 : Int)))), (85, (eBool b8))] [] ?_ ?_
      ·refine AO.c (Calm.move rfl rfl) ?_
       refine AO.c (x := eBool (decide ((48 : Int) ≤ (byteAt p0 (1 : Int))))) (Calm.int rfl rfl rfl rfl) ?_
       refine AO.c (Calm.move rfl rfl) ?_
       rcases of_ite hq9 with ⟨hc10, hq9⟩ | ⟨hc10, hq9⟩
       ·refine AO.cG rfl rfl (bD (decide_eq_true hc10)) (Calm.move rfl rfl) ?_
        refine AO.cG (x := eBool (decide ((byteAt p0 (1 : Int)) ≤ (57 : Int)))) rfl rfl (bD (decide_eq_true hc10)) (Calm.int rfl rfl rfl rfl) ?_
        refine AO.c (Calm.pickT rfl (bD (decide_eq_true hc10)) rfl) ?_
        refine AO.c (Calm.move rfl rfl) ?_
        rcases of_ite hq9 with ⟨hc11, hq9⟩ | ⟨hc11, hq9⟩
        ·refine AO.sF rfl rfl (bD (decide_eq_true hc11)) ?_
         refine AO.sF rfl rfl (bD (decide_eq_true hc11)) ?_
         refine AO.sF rfl rfl (bD (decide_eq_true hc11)) ?_
         refine AO.sU rfl rfl rfl ?_
         refine AO.sU rfl rfl rfl ?_
         refine AO.sF rfl rfl (bD (decide_eq_true hc11)) ?_
         refine AO.c (Calm.pickT rfl (bD (decide_eq_true hc11)) rfl) ?_
         refine AO.c (Calm.move rfl rfl) ?_
         refine AO.sF rfl rfl rfl ?_
         refine AO.sF rfl rfl rfl ?_
         refine AO.sF rfl rfl rfl ?_
         refine AO.sU rfl rfl rfl ?_
         refine AO.sU rfl rfl rfl ?_
         refine AO.sF rfl rfl rfl ?_
         refine AO.c (Calm.pickT rfl rfl rfl) ?_
         refine AO.c (Calm.move rfl rfl) ?_
         refine AO.sF rfl rfl rfl ?_
         refine AO.sF rfl rfl rfl ?_
         refine AO.c (Calm.pickT rfl rfl rfl) ?_
         refine AO.c (Calm.move rfl rfl) ?_
         refine AO.sF rfl rfl rfl ?_
         refine AO.sF rfl rfl rfl ?_
         refine AO.c (Calm.pickT rfl rfl rfl) ?_
         cases hq9
         refine AO.nilE ⟨rfl, rfl⟩ ?_ ?_
         · exact ⟨rfl, rfl, trivial⟩
         · exact (Sub.refl _)
        ·refine AO.cG rfl rfl (bD (decide_eq_false hc11)) (Calm.move rfl rfl) ?_
         refine AO.cG (x := eBool (decide ((97 : Int) ≤ (byteAt p0 (1 : Int))))) rfl rfl (bD (decide_eq_false hc11)) (Calm.int rfl rfl rfl rfl) ?_
         refine AO.cG rfl rfl (bD (decide_eq_false hc11)) (Calm.move rfl rfl) ?_
         rcases of_ite hq9 with ⟨hc12, hq9⟩ | ⟨hc12, hq9⟩
         ·refine AO.cG rfl rfl (bD (decide_eq_true hc12)) (Calm.move rfl rfl) ?_
          refine AO.cG (x := eBool (decide ((byteAt p0 (1 : Int)) ≤ (122 : Int)))) rfl rfl (bD (decide_eq_true hc12)) (Calm.int rfl rfl rfl rfl) ?_
          refine AO.cG rfl rfl (bD (decide_eq_false hc11)) (Calm.pickT rfl (bD (decide_eq_true hc12)) rfl) ?_
          refine AO.c (Calm.pickF rfl (bD (decide_eq_false hc11)) rfl) ?_
          refine AO.c (Calm.move rfl rfl) ?_
          rcases of_ite hq9 with ⟨hc13, hq9⟩ | ⟨hc13, hq9⟩
          ·refine AO.sF rfl rfl (bD (decide_eq_true hc13)) ?_
           refine AO.sF rfl rfl (bD (decide_eq_true hc13)) ?_
           refine AO.sF rfl rfl (bD (decide_eq_true hc13)) ?_
           refine AO.sU rfl rfl rfl ?_
           refine AO.sU rfl rfl rfl ?_
           refine AO.sF rfl rfl (bD (decide_eq_true hc13)) ?_
           refine AO.c (Calm.pickT rfl (bD (decide_eq_true hc13)) rfl) ?_
           refine AO.c (Calm.move rfl rfl) ?_
           refine AO.sF rfl rfl rfl ?_
           refine AO.sF rfl rfl rfl ?_
           refine AO.c (Calm.pickT rfl rfl rfl) ?_
           refine AO.c (Calm.move rfl rfl) ?_
           refine AO.sF rfl rfl rfl ?_
           refine AO.sF rfl rfl rfl ?_
           refine AO.c (Calm.pickT rfl rfl rfl) ?_
           cases hq9
           refine AO.nilE ⟨rfl, rfl⟩ ?_ ?_
           · exact ⟨rfl, rfl, trivial⟩
           · exact (Sub.refl _)
          ·refine AO.cG rfl rfl (bD (decide_eq_false hc13)) (Calm.move rfl rfl) ?_
           refine AO.cG (x := eBool (decide ((65 : Int) ≤ (byteAt p0 (1 : Int))))) rfl rfl (bD (decide_eq_false hc13)) (Calm.int rfl rfl rfl rfl) ?_
           refine AO.cG rfl rfl (bD (decide_eq_false hc13)) (Calm.move rfl rfl) ?_
           rcases of_ite hq9 with ⟨hc14, hq9⟩ | ⟨hc14, hq9⟩
           ·refine AO.cG rfl rfl (bD (decide_eq_true hc14)) (Calm.move rfl rfl) ?_
            refine AO.cG (x := eBool (decide ((byteAt p0 (1 : Int)) ≤ (90 : Int)))) rfl rfl (bD (decide_eq_true hc14)) (Calm.int rfl rfl rfl rfl) ?_
            refine AO.cG rfl rfl (bD (decide_eq_false hc13)) (Calm.pickT rfl (bD (decide_eq_true hc14)) rfl) ?_
            refine AO.c (Calm.pickF rfl (bD (decide_eq_false hc13)) rfl) ?_
            refine AO.c (Calm.move rfl rfl) ?_
            rcases of_ite hq9 with ⟨hc15, hq9⟩ | ⟨hc15, hq9⟩
            ·refine AO.sF rfl rfl (bD (decide_eq_true hc15)) ?_
             refine AO.sF rfl rfl (bD (decide_eq_true hc15)) ?_
             refine AO.c (Calm.pickT rfl (bD (decide_eq_true hc15)) rfl) ?_
             refine AO.c (Calm.move rfl rfl) ?_
             refine AO.sF rfl rfl rfl ?_
             refine AO.sF rfl rfl rfl ?_
             refine AO.c (Calm.pickT rfl rfl rfl) ?_
             cases hq9
             refine AO.nilE ⟨rfl, rfl⟩ ?_ ?_
             · exact ⟨rfl, rfl, trivial⟩
             · exact (Sub.refl _)
            ·refine AO.cG rfl rfl (bD (decide_eq_false hc15)) (Calm.move rfl rfl) ?_
             refine AO.cG (x := eBool (decide ((byteAt p0 (1 : Int)) < (32 : Int)))) rfl rfl (bD (decide_eq_false hc15)) (Calm.int rfl rfl rfl rfl) ?_
             refine AO.c (Calm.pickF rfl (bD (decide_eq_false hc15)) rfl) ?_
             refine AO.c (Calm.move rfl rfl) ?_
             rcases of_ite hq9 with ⟨hc16, hq9⟩ | ⟨hc16, hq9⟩
             ·refine AO.sF rfl rfl (bD (decide_eq_true hc16)) ?_
              refine AO.sF rfl rfl (bD (decide_eq_true hc16)) ?_
              refine AO.c (Calm.pickT rfl (bD (decide_eq_true hc16)) rfl) ?_
              cases hq9
              refine AO.nilE ⟨rfl, rfl⟩ ?_ ?_
              · exact ⟨rfl, rfl, trivial⟩
              · exact (Sub.refl _)
             ·refine AO.cG rfl rfl (bD (decide_eq_false hc16)) (Calm.move rfl rfl) ?_
              refine AO.cG (x := eBool (decide ((126 : Int) < (byteAt p0 (1 : Int))))) rfl rfl (bD (decide_eq_false hc16)) (Calm.int rfl rfl rfl rfl) ?_
              refine AO.c (Calm.pickF rfl (bD (decide_eq_false hc16)) rfl) ?_
              cases hq9
              refine AO.nilE ⟨rfl, rfl⟩ ?_ ?_
              · exact ⟨rfl, rfl, trivial⟩
              · exact (Sub.refl _)
           ·refine AO.sT rfl rfl (bD (decide_eq_false hc14)) ?_
            refine AO.sT rfl rfl (bD (decide_eq_false hc14)) ?_
            refine AO.cG rfl rfl (bD (decide_eq_false hc13)) (Calm.pickF rfl (bD (decide_eq_false hc14)) rfl) ?_
            refine AO.c (Calm.pickF rfl (bD (decide_eq_false hc13)) rfl) ?_
            refine AO.c (Calm.move rfl rfl) ?_
            refine AO.cG rfl rfl rfl (Calm.move rfl rfl) ?_
            refine AO.cG (x := eBool (decide ((byteAt p0 (1 : Int)) < (32 : Int)))) rfl rfl rfl (Calm.int rfl rfl rfl rfl) ?_
            refine AO.c (Calm.pickF rfl rfl rfl) ?_
            refine AO.c (Calm.move rfl rfl) ?_
            rcases of_ite hq9 with ⟨hc17, hq9⟩ | ⟨hc17, hq9⟩
            ·refine AO.sF rfl rfl (bD (decide_eq_true hc17)) ?_
             refine AO.sF rfl rfl (bD (decide_eq_true hc17)) ?_
             refine AO.c (Calm.pickT rfl (bD (decide_eq_true hc17)) rfl) ?_
             cases hq9
             refine AO.nilE ⟨rfl, rfl⟩ ?_ ?_
             · exact ⟨rfl, rfl, trivial⟩
             · exact (Sub.refl _)
            ·refine AO.cG rfl rfl (bD (decide_eq_false hc17)) (Calm.move rfl rfl) ?_
             refine AO.cG (x := eBool (decide ((126 : Int) < (byteAt p0 (1 : Int))))) rfl rfl (bD (decide_eq_false hc17)) (Calm.int rfl rfl rfl rfl) ?_
             refine AO.c (Calm.pickF rfl (bD (decide_eq_false hc17)) rfl) ?_
             cases hq9
             refine AO.nilE ⟨rfl, rfl⟩ ?_ ?_
             · exact ⟨rfl, rfl, trivial⟩
             · exact (Sub.refl _)
         ·refine AO.sT rfl rfl (bD (decide_eq_false hc12)) ?_
          refine AO.sT rfl rfl (bD (decide_eq_false hc12)) ?_
          refine AO.cG rfl rfl (bD (decide_eq_false hc11)) (Calm.pickF rfl (bD (decide_eq_false hc12)) rfl) ?_
          refine AO.c (Calm.pickF rfl (bD (decide_eq_false hc11)) rfl) ?_
          refine AO.c (Calm.move rfl rfl) ?_
          refine AO.cG rfl rfl rfl (Calm.move rfl rfl) ?_
          refine AO.cG (x := eBool (decide ((65 : Int) ≤ (byteAt p0 (1 : Int))))) rfl rfl rfl (Calm.int rfl rfl rfl rfl) ?_
          refine AO.cG rfl rfl rfl (Calm.move rfl rfl) ?_
          rcases of_ite hq9 with ⟨hc18, hq9⟩ | ⟨hc18, hq9⟩
          ·refine AO.cG rfl rfl (bD (decide_eq_true hc18)) (Calm.move rfl rfl) ?_
           refine AO.cG (x := eBool (decide ((byteAt p0 (1 : Int)) ≤ (90 : Int)))) rfl rfl (bD (decide_eq_true hc18)) (Calm.int rfl rfl rfl rfl) ?_
           refine AO.cG rfl rfl rfl (Calm.pickT rfl (bD (decide_eq_true hc18)) rfl) ?_
           refine AO.c (Calm.pickF rfl rfl rfl) ?_
           refine AO.c (Calm.move rfl rfl) ?_
           rcases of_ite hq9 with ⟨hc19, hq9⟩ | ⟨hc19, hq9⟩
           ·refine AO.sF rfl rfl (bD (decide_eq_true hc19)) ?_
            refine AO.sF rfl rfl (bD (decide_eq_true hc19)) ?_
            refine AO.c (Calm.pickT rfl (bD (decide_eq_true hc19)) rfl) ?_
            refine AO.c (Calm.move rfl rfl) ?_
            refine AO.sF rfl rfl rfl ?_
            refine AO.sF rfl rfl rfl ?_
            refine AO.c (Calm.pickT rfl rfl rfl) ?_
            cases hq9
            refine AO.nilE ⟨rfl, rfl⟩ ?_ ?_
            · exact ⟨rfl, rfl, trivial⟩
            · exact (Sub.refl _)
           ·refine AO.cG rfl rfl (bD (decide_eq_false hc19)) (Calm.move rfl rfl) ?_
            refine AO.cG (x := eBool (decide ((byteAt p0 (1 : Int)) < (32 : Int)))) rfl rfl (bD (decide_eq_false hc19)) (Calm.int rfl rfl rfl rfl) ?_
            refine AO.c (Calm.pickF rfl (bD (decide_eq_false hc19)) rfl) ?_
            refine AO.c (Calm.move rfl rfl) ?_
            rcases of_ite hq9 with ⟨hc20, hq9⟩ | ⟨hc20, hq9⟩
            ·refine AO.sF rfl rfl (bD (decide_eq_true hc20)) ?_
             refine AO.sF rfl rfl (bD (decide_eq_true hc20)) ?_
             refine AO.c (Calm.pickT rfl (bD (decide_eq_true hc20)) rfl) ?_
             cases hq9
             refine AO.nilE ⟨rfl, rfl⟩ ?_ ?_
             · exact ⟨rfl, rfl, trivial⟩
             · exact (Sub.refl _)
            ·refine AO.cG rfl rfl (bD (decide_eq_false hc20)) (Calm.move rfl rfl) ?_
             refine AO.cG (x := eBool (decide ((126 : Int) < (byteAt p0 (1 : Int))))) rfl rfl (bD (decide_eq_false hc20)) (Calm.int rfl rfl rfl rfl) ?_
             refine AO.c (Calm.pickF rfl (bD (decide_eq_false hc20)) rfl) ?_
             cases hq9
             refine AO.nilE ⟨rfl, rfl⟩ ?_ ?_
             · exact ⟨rfl, rfl, trivial⟩
             · exact (Sub.refl _)
          ·refine AO.sT rfl rfl (bD (decide_eq_false hc18)) ?_
           refine AO.sT rfl rfl (bD (decide_eq_false hc18)) ?_
           refine AO.cG rfl rfl rfl (Calm.pickF rfl (bD (decide_eq_false hc18)) rfl) ?_
           refine AO.c (Calm.pickF rfl rfl rfl) ?_
           refine AO.c (Calm.move rfl rfl) ?_
           refine AO.cG rfl rfl rfl (Calm.move rfl rfl) ?_
           refine AO.cG (x := eBool (decide ((byteAt p0 (1 : Int)) < (32 : Int)))) rfl rfl rfl (Calm.int rfl rfl rfl rfl) ?_
           refine AO.c (Calm.pickF rfl rfl rfl) ?_
           refine AO.c (Calm.move rfl rfl) ?_
           rcases of_ite hq9 with ⟨hc21, hq9⟩ | ⟨hc21, hq9⟩
           ·refine AO.sF rfl rfl (bD (decide_eq_true hc21)) ?_
            refine AO.sF rfl rfl (bD (decide_eq_true hc21)) ?_
            refine AO.c (Calm.pickT rfl (bD (decide_eq_true hc21)) rfl) ?_
            cases hq9
            refine AO.nilE ⟨rfl, rfl⟩ ?_ ?_
            · exact ⟨rfl, rfl, trivial⟩
            · exact (Sub.refl _)
           ·refine AO.cG rfl rfl (bD (decide_eq_false hc21)) (Calm.move rfl rfl) ?_
            refine AO.cG (x := eBool (decide ((126 : Int) < (byteAt p0 (1 : Int))))) rfl rfl (bD (decide_eq_false hc21)) (Calm.int rfl rfl rfl rfl) ?_
            refine AO.c (Calm.pickF rfl (bD (decide_eq_false hc21)) rfl) ?_
            cases hq9
            refine AO.nilE ⟨rfl, rfl⟩ ?_ ?_
            · exact ⟨rfl, rfl, trivial⟩
            · exact (Sub.refl _)
       ·refine AO.sT rfl rfl (bD (decide_eq_false hc10)) ?_
        refine AO.sT rfl rfl (bD (decide_eq_false hc10)) ?_
        refine AO.c (Calm.pickF rfl (bD (decide_eq_false hc10)) rfl) ?_
        refine AO.c (Calm.move rfl rfl) ?_
        refine AO.cG rfl rfl rfl (Calm.move rfl rfl) ?_
        refine AO.cG (x := eBool (decide ((97 : Int) ≤ (byteAt p0 (1 : Int))))) rfl rfl rfl (Calm.int rfl rfl rfl rfl) ?_
        refine AO.cG rfl rfl rfl (Calm.move rfl rfl) ?_
        rcases of_ite hq9 with ⟨hc22, hq9⟩ | ⟨hc22, hq9⟩
        ·refine AO.cG rfl rfl (bD (decide_eq_true hc22)) (Calm.move rfl rfl) ?_
         refine AO.cG (x := eBool (decide ((byteAt p0 (1 : Int)) ≤ (122 : Int)))) rfl rfl (bD (decide_eq_true hc22)) (Calm.int rfl rfl rfl rfl) ?_
         refine AO.cG rfl rfl rfl (Calm.pickT rfl (bD (decide_eq_true hc22)) rfl) ?_
         refine AO.c (Calm.pickF rfl rfl rfl) ?_
         refine AO.c (Calm.move rfl rfl) ?_
         rcases of_ite hq9 with ⟨hc23, hq9⟩ | ⟨hc23, hq9⟩
         ·refine AO.sF rfl rfl (bD (decide_eq_true hc23)) ?_
          refine AO.sF rfl rfl (bD (decide_eq_true hc23)) ?_
          refine AO.sF rfl rfl (bD (decide_eq_true hc23)) ?_
          refine AO.sU rfl rfl rfl ?_
          refine AO.sU rfl rfl rfl ?_
          refine AO.sF rfl rfl (bD (decide_eq_true hc23)) ?_
          refine AO.c (Calm.pickT rfl (bD (decide_eq_true hc23)) rfl) ?_
          refine AO.c (Calm.move rfl rfl) ?_
          refine AO.sF rfl rfl rfl ?_
          refine AO.sF rfl rfl rfl ?_
          refine AO.c (Calm.pickT rfl rfl rfl) ?_
          refine AO.c (Calm.move rfl rfl) ?_
          refine AO.sF rfl rfl rfl ?_
          refine AO.sF rfl rfl rfl ?_
          refine AO.c (Calm.pickT rfl rfl rfl) ?_
          cases hq9
          refine AO.nilE ⟨rfl, rfl⟩ ?_ ?_
          · exact ⟨rfl, rfl, trivial⟩
          · exact (Sub.refl _)
         ·refine AO.cG rfl rfl (bD (decide_eq_false hc23)) (Calm.move rfl rfl) ?_
          refine AO.cG (x := eBool (decide ((65 : Int) ≤ (byteAt p0 (1 : Int))))) rfl rfl (bD (decide_eq_false hc23)) (Calm.int rfl rfl rfl rfl) ?_
          refine AO.cG rfl rfl (bD (decide_eq_false hc23)) (Calm.move rfl rfl) ?_
          rcases of_ite hq9 with ⟨hc24, hq9⟩ | ⟨hc24, hq9⟩
          ·refine AO.cG rfl rfl (bD (decide_eq_true hc24)) (Calm.move rfl rfl) ?_
           refine AO.cG (x := eBool (decide ((byteAt p0 (1 : Int)) ≤ (90 : Int)))) rfl rfl (bD (decide_eq_true hc24)) (Calm.int rfl rfl rfl rfl) ?_
           refine AO.cG rfl rfl (bD (decide_eq_false hc23)) (Calm.pickT rfl (bD (decide_eq_true hc24)) rfl) ?_
           refine AO.c (Calm.pickF rfl (bD (decide_eq_false hc23)) rfl) ?_
           refine AO.c (Calm.move rfl rfl) ?_
           rcases of_ite hq9 with ⟨hc25, hq9⟩ | ⟨hc25, hq9⟩
           ·refine AO.sF rfl rfl (bD (decide_eq_true hc25)) ?_
            refine AO.sF rfl rfl (bD (decide_eq_true hc25)) ?_
            refine AO.c (Calm.pickT rfl (bD (decide_eq_true hc25)) rfl) ?_
            refine AO.c (Calm.move rfl rfl) ?_
            refine AO.sF rfl rfl rfl ?_
            refine AO.sF rfl rfl rfl ?_
            refine AO.c (Calm.pickT rfl rfl rfl) ?_
            cases hq9
            refine AO.nilE ⟨rfl, rfl⟩ ?_ ?_
            · exact ⟨rfl, rfl, trivial⟩
            · exact (Sub.refl _)
           ·refine AO.cG rfl rfl (bD (decide_eq_false hc25)) (Calm.move rfl rfl) ?_
            refine AO.cG (x := eBool (decide ((byteAt p0 (1 : Int)) < (32 : Int)))) rfl rfl (bD (decide_eq_false hc25)) (Calm.int rfl rfl rfl rfl) ?_
            refine AO.c (Calm.pickF rfl (bD (decide_eq_false hc25)) rfl) ?_
            refine AO.c (Calm.move rfl rfl) ?_
            rcases of_ite hq9 with ⟨hc26, hq9⟩ | ⟨hc26, hq9⟩
            ·refine AO.sF rfl rfl (bD (decide_eq_true hc26)) ?_
             refine AO.sF rfl rfl (bD (decide_eq_true hc26)) ?_
             refine AO.c (Calm.pickT rfl (bD (decide_eq_true hc26)) rfl) ?_
             cases hq9
             refine AO.nilE ⟨rfl, rfl⟩ ?_ ?_
             · exact ⟨rfl, rfl, trivial⟩
             · exact (Sub.refl _)
            ·refine AO.cG rfl rfl (bD (decide_eq_false hc26)) (Calm.move rfl rfl) ?_
             refine AO.cG (x := eBool (decide ((126 : Int) < (byteAt p0 (1 : Int))))) rfl rfl (bD (decide_eq_false hc26)) (Calm.int rfl rfl rfl rfl) ?_
             refine AO.c (Calm.pickF rfl (bD (decide_eq_false hc26)) rfl) ?_
             cases hq9
             refine AO.nilE ⟨rfl, rfl⟩ ?_ ?_
             · exact ⟨rfl, rfl, trivial⟩
             · exact (Sub.refl _)
          ·refine AO.sT rfl rfl (bD (decide_eq_false hc24)) ?_
           refine AO.sT rfl rfl (bD (decide_eq_false hc24)) ?_
           refine AO.cG rfl rfl (bD (decide_eq_false hc23)) (Calm.pickF rfl (bD (decide_eq_false hc24)) rfl) ?_
           refine AO.c (Calm.pickF rfl (bD (decide_eq_false hc23)) rfl) ?_
           refine AO.c (Calm.move rfl rfl) ?_
           refine AO.cG rfl rfl rfl (Calm.move rfl rfl) ?_
           refine AO.cG (x := eBool (decide ((byteAt p0 (1 : Int)) < (32 : Int)))) rfl rfl rfl (Calm.int rfl rfl rfl rfl) ?_
           refine AO.c (Calm.pickF rfl rfl rfl) ?_
           refine AO.c (Calm.move rfl rfl) ?_
           rcases of_ite hq9 with ⟨hc27, hq9⟩ | ⟨hc27, hq9⟩
           ·refine AO.sF rfl rfl (bD (decide_eq_true hc27)) ?_
            refine AO.sF rfl rfl (bD (decide_eq_true hc27)) ?_
            refine AO.c (Calm.pickT rfl (bD (decide_eq_true hc27)) rfl) ?_
            cases hq9
            refine AO.nilE ⟨rfl, rfl⟩ ?_ ?_
            · exact ⟨rfl, rfl, trivial⟩
            · exact (Sub.refl _)
           ·refine AO.cG rfl rfl (bD (decide_eq_false hc27)) (Calm.move rfl rfl) ?_
            refine AO.cG (x := eBool (decide ((126 : Int) < (byteAt p0 (1 : Int))))) rfl rfl (bD (decide_eq_false hc27)) (Calm.int rfl rfl rfl rfl) ?_
            refine AO.c (Calm.pickF rfl (bD (decide_eq_false hc27)) rfl) ?_
            cases hq9
            refine AO.nilE ⟨rfl, rfl⟩ ?_ ?_
            · exact ⟨rfl, rfl, trivial⟩
            · exact (Sub.refl _)
        ·refine AO.sT rfl rfl (bD (decide_eq_false hc22)) ?_
         refine AO.sT rfl rfl (bD (decide_eq_false hc22)) ?_
         refine AO.cG rfl rfl rfl (Calm.pickF rfl (bD (decide_eq_false hc22)) rfl) ?_
         refine AO.c (Calm.pickF rfl rfl rfl) ?_
         refine AO.c (Calm.move rfl rfl) ?_
         refine AO.cG rfl rfl rfl (Calm.move rfl rfl) ?_
         refine AO.cG (x := eBool (decide ((65 : Int) ≤ (byteAt p0 (1 : Int))))) rfl rfl rfl (Calm.int rfl rfl rfl rfl) ?_
         refine AO.cG rfl rfl rfl (Calm.move rfl rfl) ?_
         rcases of_ite hq9 with ⟨hc28, hq9⟩ | ⟨hc28, hq9⟩
         ·refine AO.cG rfl rfl (bD (decide_eq_true hc28)) (Calm.move rfl rfl) ?_
          refine AO.cG (x := eBool (decide ((byteAt p0 (1 : Int)) ≤ (90 : Int)))) rfl rfl (bD (decide_eq_true hc28)) (Calm.int rfl rfl rfl rfl) ?_
          refine AO.cG rfl rfl rfl (Calm.pickT rfl (bD (decide_eq_true hc28)) rfl) ?_
          refine AO.c (Calm.pickF rfl rfl rfl) ?_
          refine AO.c (Calm.move rfl rfl) ?_
          rcases of_ite hq9 with ⟨hc29, hq9⟩ | ⟨hc29, hq9⟩
          ·refine AO.sF rfl rfl (bD (decide_eq_true hc29)) ?_
           refine AO.sF rfl rfl (bD (decide_eq_true hc29)) ?_
           refine AO.c (Calm.pickT rfl (bD (decide_eq_true hc29)) rfl) ?_
           refine AO.c (Calm.move rfl rfl) ?_
           refine AO.sF rfl rfl rfl ?_
           refine AO.sF rfl rfl rfl ?_
           refine AO.c (Calm.pickT rfl rfl rfl) ?_
           cases hq9
           refine AO.nilE ⟨rfl, rfl⟩ ?_ ?_
           · exact ⟨rfl, rfl, trivial⟩
           · exact (Sub.refl _)
          ·refine AO.cG rfl rfl (bD (decide_eq_false hc29)) (Calm.move rfl rfl) ?_
           refine AO.cG (x := eBool (decide ((byteAt p0 (1 : Int)) < (32 : Int)))) rfl rfl (bD (decide_eq_false hc29)) (Calm.int rfl rfl rfl rfl) ?_
           refine AO.c (Calm.pickF rfl (bD (decide_eq_false hc29)) rfl) ?_
           refine AO.c (Calm.move rfl rfl) ?_
           rcases of_ite hq9 with ⟨hc30, hq9⟩ | ⟨hc30, hq9⟩
           ·refine AO.sF rfl rfl (bD (decide_eq_true hc30)) ?_
            refine AO.sF rfl rfl (bD (decide_eq_true hc30)) ?_
            refine AO.c (Calm.pickT rfl (bD (decide_eq_true hc30)) rfl) ?_
            cases hq9
            refine AO.nilE ⟨rfl, rfl⟩ ?_ ?_
            · exact ⟨rfl, rfl, trivial⟩
            · exact (Sub.refl _)
           ·refine AO.cG rfl rfl (bD (decide_eq_false hc30)) (Calm.move rfl rfl) ?_
            refine AO.cG (x := eBool (decide ((126 : Int) < (byteAt p0 (1 : Int))))) rfl rfl (bD (decide_eq_false hc30)) (Calm.int rfl rfl rfl rfl) ?_
            refine AO.c (Calm.pickF rfl (bD (decide_eq_false hc30)) rfl) ?_
            cases hq9
            refine AO.nilE ⟨rfl, rfl⟩ ?_ ?_
            · exact ⟨rfl, rfl, trivial⟩
            · exact (Sub.refl _)
         ·refine AO.sT rfl rfl (bD (decide_eq_false hc28)) ?_
          refine AO.sT rfl rfl (bD (decide_eq_false hc28)) ?_
          refine AO.cG rfl rfl rfl (Calm.pickF rfl (bD (decide_eq_false hc28)) rfl) ?_
          refine AO.c (Calm.pickF rfl rfl rfl) ?_
          refine AO.c (Calm.move rfl rfl) ?_
          refine AO.cG rfl rfl rfl (Calm.move rfl rfl) ?_
          refine AO.cG (x := eBool (decide ((byteAt p0 (1 : Int)) < (32 : Int)))) rfl rfl rfl (Calm.int rfl rfl rfl rfl) ?_
          refine AO.c (Calm.pickF rfl rfl rfl) ?_
          refine AO.c (Calm.move rfl rfl) ?_
          rcases of_ite hq9 with ⟨hc31, hq9⟩ | ⟨hc31, hq9⟩
          ·refine AO.sF rfl rfl (bD (decide_eq_true hc31)) ?_
           refine AO.sF rfl rfl (bD (decide_eq_true hc31)) ?_
           refine AO.c (Calm.pickT rfl (bD (decide_eq_true hc31)) rfl) ?_
           cases hq9
           refine AO.nilE ⟨rfl, rfl⟩ ?_ ?_
           · exact ⟨rfl, rfl, trivial⟩
           · exact (Sub.refl _)
          ·refine AO.cG rfl rfl (bD (decide_eq_false hc31)) (Calm.move rfl rfl) ?_
           refine AO.cG (x := eBool (decide ((126 : Int) < (byteAt p0 (1 : Int))))) rfl rfl (bD (decide_eq_false hc31)) (Calm.int rfl rfl rfl rfl) ?_
           refine AO.c (Calm.pickF rfl (bD (decide_eq_false hc31)) rfl) ?_
           cases hq9
           refine AO.nilE ⟨rfl, rfl⟩ ?_ ?_
           · exact ⟨rfl, rfl, trivial⟩
           · exact (Sub.refl _)
      ·rcases of_ite h with ⟨hc32, h⟩ | ⟨hc32, h⟩
       ·refine AW.condT' _ rfl hc32 ?_
        refine AW.sr ?_
        refine AO.c (Calm.assign rfl rfl) ?_
        refine AO.c (Calm.assign rfl rfl) ?_
        refine AO.c (Calm.assign rfl rfl) ?_
        refine AO.nK [2, 3, 4] ?_
        refine AW.rK [2, 3, 4] ?_
        have hr := Option.some.inj h
        subst hr
        exact ⟨[(eU8 (0 : Int)), (eI64 (0 : Int)), (eBool false)], ⟨rfl, rfl, rfl, rfl, rfl, rfl, trivial⟩, rfl⟩
       ·refine AW.condF' _ rfl hc32 ?_
        refine AW.sK [5] ?_
        refine AW.sr ?_
        refine AO.c (Calm.move rfl rfl) ?_
        refine AO.c (Calm.assign rfl rfl) ?_
        refine AO.c (Calm.assign rfl rfl) ?_
        refine AO.c (Calm.assign rfl rfl) ?_
        refine AO.nK [2, 3, 4] ?_
        refine AW.rK [2, 3, 4] ?_
        have hr := Option.some.inj h
        subst hr
        exact ⟨[(eU8 (byteAt p0 (1 : Int))), (eI64 (2 : Int)), (eBool true)], ⟨rfl, rfl, rfl, rfl, rfl, rfl, trivial⟩, rfl⟩
end Go.Avl.T2
/- bosket/escape.Unquote; printed by avmain.py. -/
namespace Go.Avl.T2
open Go Go.RowKit Go.Proofs Go.Avl
set_option linter.unusedVariables false
set_option maxRecDepth 100000
set_option maxHeartbeats 4000000
attribute [local irreducible] AW AO AQ Spec SpecH Calm

def escape_Unquote_c0 (k : Nat) : Option (ByteArray × Int × Bool) :=
  some ((ByteArray.mk #[]), (0 : Int), false)
def escape_Unquote_l1 (k : Nat) (p0 : ByteArray) (p1 : Int) : Nat → (List Int) → Int → Option (ByteArray × Int × Bool)
  | 0, _, _ => none
  | j + 1, x9, x10 =>
    if x10 < (p0.size : Int) then if 0 ≤ x10 ∧ x10 < (p0.size : Int) then if (byteAt p0 x10) = p1 then some ((strOfNums x9), (w64 (x10 + (1 : Int))), true)
    else if 0 ≤ x10 ∧ x10 ≤ (p0.size : Int) ∧ (p0.size : Int) ≤ (p0.size : Int) then (escape_Read k (p0.extract x10.toNat (p0.size : Int).toNat)).bind fun t17 =>
    Option.bind (α := Bool) (if (!t17.2.2) = true then some (true)
    else if 0 ≤ x10 ∧ x10 < (p0.size : Int) then some (decide ((byteAt p0 x10) = (10 : Int)))
    else none) fun b18 =>
    if b18 = true then some ((ByteArray.mk #[]), (0 : Int), false)
    else if (x9 ++ ([t17.1] : List Int)).length * 1 ≤ 140737488355328 then (escape_Unquote_l1 k p0 p1 j) (x9 ++ ([t17.1] : List Int)) (w64 (x10 + t17.2.1))
    else none
    else none
    else none
    else escape_Unquote_c0 k
def escape_Unquote (k : Nat) (p0 : ByteArray) (p1 : Int) : Option (ByteArray × Int × Bool) :=
  Option.bind (α := Bool) (if p0 = (ByteArray.mk #[]) then some (true)
  else if 0 ≤ (0 : Int) ∧ (0 : Int) < (p0.size : Int) then some (decide ((byteAt p0 (0 : Int)) ≠ p1))
  else none) fun b3 =>
  if b3 = true then some ((ByteArray.mk #[]), (0 : Int), false)
  else escape_Unquote_l1 k p0 p1 k ([] : List Int) (1 : Int)
theorem escape_Unquote_spec {k : Nat} {p0 : ByteArray} {p1 : Int} {r : (ByteArray × Int × Bool)} (h : escape_Unquote k p0 p1 = some r) : Spec Try.prog 68 [(eStr p0), (eU8 p1)] (.tup [(eStr r.1), (eI64 r.2.1), (eBool r.2.2)]) := by
  rw [escape_Unquote.eq_1] at h
  refine Spec.intro (res := [.tmp 4, .tmp 5, .tmp 6]) Try.func68 rfl rfl rfl (Nat.le_of_ble_eq_true rfl) ?_
  refine AW.sr ?_
  refine AO.c (Calm.assign rfl rfl) ?_
  refine AO.c (Calm.assign rfl rfl) ?_
  refine AO.c (Calm.assign rfl rfl) ?_
  refine AO.nK [0, 1] ?_
  refine AW.seq ?_
  refine AW.seq ?_
  obtain ⟨b3, hq4, h⟩ := of_bind h
  refine AW.regM [(0, (eStr p0)), (1, (eU8 p1)), (19, (eBool b3))] [] ?_ ?_
  ·refine AO.c (Calm.move rfl rfl) ?_
   refine AO.c (x := eBool (decide (p0 = (ByteArray.mk #[])))) (Calm.str rfl rfl rfl rfl) ?_
   refine AO.c (Calm.move rfl rfl) ?_
   rcases of_ite hq4 with ⟨hc5, hq4⟩ | ⟨hc5, hq4⟩
   ·refine AO.sF rfl rfl (bD (decide_eq_true hc5)) ?_
    refine AO.sF rfl rfl (bD (decide_eq_true hc5)) ?_
    refine AO.sF rfl rfl (bD (decide_eq_true hc5)) ?_
    refine AO.sF rfl rfl (bD (decide_eq_true hc5)) ?_
    refine AO.c (Calm.pickT rfl (bD (decide_eq_true hc5)) rfl) ?_
    cases hq4
    refine AO.nilE ⟨rfl, rfl⟩ ?_ ?_
    · exact ⟨rfl, rfl, rfl, trivial⟩
    · exact (Sub.refl _)
   ·refine AO.cG rfl rfl (bD (decide_eq_false hc5)) (Calm.move rfl rfl) ?_
    obtain ⟨hg6, hq4⟩ := of_guard hq4
    refine AO.cG (x := eU8 (byteAt p0 (0 : Int))) rfl rfl (bD (decide_eq_false hc5)) (Calm.idxS rfl rfl rfl hg6 Try.underlying9) ?_
    refine AO.cG rfl rfl (bD (decide_eq_false hc5)) (Calm.move rfl rfl) ?_
    refine AO.cG (x := eBool (decide ((byteAt p0 (0 : Int)) ≠ p1))) rfl rfl (bD (decide_eq_false hc5)) (Calm.int rfl rfl rfl rfl) ?_
    refine AO.c (Calm.pickF rfl (bD (decide_eq_false hc5)) rfl) ?_
    cases hq4
    refine AO.nilE ⟨rfl, rfl⟩ ?_ ?_
    · exact ⟨rfl, rfl, rfl, trivial⟩
    · exact (Sub.refl _)
  ·rcases of_ite h with ⟨hc7, h⟩ | ⟨hc7, h⟩
   ·refine AW.condT' _ rfl hc7 ?_
    refine AW.sr ?_
    refine AO.c (Calm.assign rfl rfl) ?_
    refine AO.c (Calm.assign rfl rfl) ?_
    refine AO.c (Calm.assign rfl rfl) ?_
    refine AO.nK [4, 5, 6] ?_
    refine AW.rK [4, 5, 6] ?_
    have hr := Option.some.inj h
    subst hr
    exact ⟨[(eStr (ByteArray.mk #[])), (eI64 (0 : Int)), (eBool false)], ⟨rfl, rfl, rfl, rfl, rfl, rfl, trivial⟩, rfl⟩
   ·refine AW.condF' _ rfl hc7 ?_
    refine AW.sK [0, 1] ?_
    refine AW.sr ?_
    refine AO.c (Calm.assign rfl rfl) ?_
    refine AO.nK [0, 1, 7] ?_
    refine AW.seq_mid (fun ρ H => ρ = [] ∧ H = [] ∧ escape_Unquote_c0 k = some r) ?_ ?_
    ·refine AW.sr ?_
     refine AO.c (Calm.assign rfl rfl) ?_
     refine AO.nK [0, 1, 7, 8] ?_
     refine AW.block ?_
     refine AW.nilOwn 7 1 rfl fun n26 => ?_
     refine AW.wK [0, 1, 7, 8] ?_
     refine AW.loop (fun kq ρ H => ∃ (n8 : Nat) (x9 : (List Int)) (x10 : Int), ρ = [(0, (eStr p0)), (1, (eU8 p1)), (7, (.own n8 0 x9.length)), (8, (eI64 x10))] ∧ H = [(n8, (.mem (.ar 1 (x9.map eU8))))] ∧ escape_Unquote_l1 k p0 p1 kq x9 x10 = some r) k ⟨n26, ([] : List Int), (1 : Int), rfl, rfl, h⟩ ?_
     rintro kq12 _ _ ⟨n8, x9, x10, rfl, rfl, h⟩
     cases kq12 with
     | zero => rw [escape_Unquote_l1.eq_1] at h; cases h
     | succ kq12 =>
     rw [escape_Unquote_l1.eq_2] at h
     generalize hrec11 : escape_Unquote_l1 k p0 p1 kq12 = rec11 at h
     refine AW.seq ?_
     refine AW.sr ?_
     refine AO.c (Calm.move rfl rfl) ?_
     refine AO.c (Calm.move rfl rfl) ?_
     refine AO.c (Calm.lenStr rfl rfl Try.underlying9) ?_
     refine AO.c (x := eBool (decide (x10 < (p0.size : Int)))) (Calm.int rfl rfl rfl rfl) ?_
     refine AO.nK [0, 1, 7, 8, 23] ?_
     rcases of_ite h with ⟨hc13, h⟩ | ⟨hc13, h⟩
     ·refine AW.condP _ rfl hc13 ?_
      refine AW.sK [0, 1, 7, 8] ?_
      refine AW.block ?_
      refine AW.seq ?_
      refine AW.sr ?_
      refine AO.c (Calm.move rfl rfl) ?_
      refine AO.c (Calm.move rfl rfl) ?_
      obtain ⟨hg14, h⟩ := of_guard h
      refine AO.c (x := eU8 (byteAt p0 x10)) (Calm.idxS rfl rfl rfl hg14 Try.underlying9) ?_
      refine AO.c (Calm.move rfl rfl) ?_
      refine AO.c (x := eBool (decide ((byteAt p0 x10) = p1))) (Calm.int rfl rfl rfl rfl) ?_
      refine AO.nK [0, 1, 7, 8, 28] ?_
      rcases of_ite h with ⟨hc15, h⟩ | ⟨hc15, h⟩
      ·refine AW.condP _ rfl hc15 ?_
       refine AW.sr ?_
       refine AO.c (Calm.move rfl rfl) ?_
       refine AO.c (x := eStr (strOfNums x9)) (Calm.strO 0 rfl rfl rfl Try.underlying84 Try.underlying9 Try.underlying5) ?_
       refine AO.c (Calm.move rfl rfl) ?_
       refine AO.c (x := eI64 (w64 (x10 + (1 : Int)))) (Calm.int rfl rfl rfl rfl) ?_
       refine AO.c (Calm.assign rfl rfl) ?_
       refine AO.c (Calm.assign rfl rfl) ?_
       refine AO.c (Calm.assign rfl rfl) ?_
       refine AO.nH [4, 5, 6] (H' := []) (Sub.nil _) ?_
       refine AW.rK [4, 5, 6] ?_
       have hr := Option.some.inj h
       subst hr
       exact ⟨[(eStr (strOfNums x9)), (eI64 (w64 (x10 + (1 : Int)))), (eBool true)], ⟨rfl, rfl, rfl, rfl, rfl, rfl, trivial⟩, rfl⟩
      ·refine AW.condN _ rfl hc15 ?_
       refine AW.sK [0, 1, 7, 8] ?_
       refine AW.sr ?_
       refine AO.c (Calm.move rfl rfl) ?_
       refine AO.c (Calm.move rfl rfl) ?_
       obtain ⟨hg16, h⟩ := of_guard h
       refine AO.c (x := eStr (p0.extract x10.toNat (p0.size : Int).toNat)) (Calm.sliceS rfl rfl rfl rfl hg16 Try.underlying9) ?_
       obtain ⟨t17, et17, h⟩ := of_bind h
       refine AO.callS [(eStr (p0.extract x10.toNat (p0.size : Int).toNat))] (.tup [(eU8 t17.1), (eI64 t17.2.1), (eBool t17.2.2)]) 37 rfl (by decide) ok87 rfl rfl rfl ⟨rfl, rfl, trivial⟩ (escape_Read_spec et17) ?_
       refine AO.c (Calm.move rfl rfl) ?_
       refine AO.c (Calm.extract rfl rfl rfl) ?_
       refine AO.c (Calm.extract rfl rfl rfl) ?_
       refine AO.c (Calm.extract rfl rfl rfl) ?_
       refine AO.c (Calm.assign rfl rfl) ?_
       refine AO.c (Calm.assign rfl rfl) ?_
       refine AO.c (Calm.assign rfl rfl) ?_
       refine AO.nK [0, 1, 7, 8, 9, 10, 11] ?_
       refine AW.seq ?_
       refine AW.seq ?_
       obtain ⟨b18, hq19, h⟩ := of_bind h
       refine AW.regM [(0, (eStr p0)), (1, (eU8 p1)), (7, (.own n8 0 x9.length)), (8, (eI64 x10)), (9, (eU8 t17.1)), (10, (eI64 t17.2.1)), (48, (eBool b18))] [(n8, (.mem (.ar 1 (x9.map eU8))))] ?_ ?_
       ·refine AO.c (Calm.move rfl rfl) ?_
        refine AO.c (Calm.not rfl rfl) ?_
        refine AO.c (Calm.move rfl rfl) ?_
        rcases of_ite hq19 with ⟨hc20, hq19⟩ | ⟨hc20, hq19⟩
        ·refine AO.sF rfl rfl (bD hc20) ?_
         refine AO.sF rfl rfl (bD hc20) ?_
         refine AO.sF rfl rfl (bD hc20) ?_
         refine AO.sF rfl rfl (bD hc20) ?_
         refine AO.c (Calm.pickT rfl (bD hc20) rfl) ?_
         cases hq19
         refine AO.nilE ⟨rfl, rfl⟩ ?_ ?_
         · exact ⟨rfl, rfl, rfl, rfl, rfl, rfl, rfl, trivial⟩
         · exact (Sub.refl _)
        ·refine AO.cG rfl rfl (bD (eq_false_of_ne_true hc20)) (Calm.move rfl rfl) ?_
         refine AO.cG rfl rfl (bD (eq_false_of_ne_true hc20)) (Calm.move rfl rfl) ?_
         obtain ⟨hg21, hq19⟩ := of_guard hq19
         refine AO.cG (x := eU8 (byteAt p0 x10)) rfl rfl (bD (eq_false_of_ne_true hc20)) (Calm.idxS rfl rfl rfl hg21 Try.underlying9) ?_
         refine AO.cG (x := eBool (decide ((byteAt p0 x10) = (10 : Int)))) rfl rfl (bD (eq_false_of_ne_true hc20)) (Calm.int rfl rfl rfl rfl) ?_
         refine AO.c (Calm.pickF rfl (bD (eq_false_of_ne_true hc20)) rfl) ?_
         cases hq19
         refine AO.nilE ⟨rfl, rfl⟩ ?_ ?_
         · exact ⟨rfl, rfl, rfl, rfl, rfl, rfl, rfl, trivial⟩
         · exact (Sub.refl _)
       ·rcases of_ite h with ⟨hc22, h⟩ | ⟨hc22, h⟩
        ·refine AW.condT' _ rfl hc22 ?_
         refine AW.sr ?_
         refine AO.c (Calm.assign rfl rfl) ?_
         refine AO.c (Calm.assign rfl rfl) ?_
         refine AO.c (Calm.assign rfl rfl) ?_
         refine AO.nH [4, 5, 6] (H' := []) (Sub.nil _) ?_
         refine AW.rK [4, 5, 6] ?_
         have hr := Option.some.inj h
         subst hr
         exact ⟨[(eStr (ByteArray.mk #[])), (eI64 (0 : Int)), (eBool false)], ⟨rfl, rfl, rfl, rfl, rfl, rfl, trivial⟩, rfl⟩
        ·refine AW.condF' _ rfl hc22 ?_
         refine AW.sK [0, 1, 7, 8, 9, 10] ?_
         refine AW.sr ?_
         refine AO.c (Calm.move rfl rfl) ?_
         refine AO.c (Calm.move rfl rfl) ?_
         refine AO.lit (Z := (eU8 (0 : Int))) (xs := (([t17.1] : List Int).map eU8)) (qs := [(0, (eU8 t17.1))]) rfl 51 rfl (by decide) rfl ⟨rfl, rfl, rfl, trivial⟩ Try.underlying84 sz5 zr5 lay5 rfl (by decide) (litOK (z := 1) [(eU8 t17.1)] rfl ⟨⟨rfl, rfl⟩, trivial⟩) rfl fun n23 => ?_
         obtain ⟨hg25, h⟩ := of_guard h
         refine AO.appendL (l := x9) (m := ([t17.1] : List Int)) 1 52 rfl (by decide) rfl rfl rfl rfl rfl (Src.ownL (f := eU8) (l := ([t17.1] : List Int)) 0 rfl) Try.underlying84 Try.underlying84 sz5 by5 zr5 rfl hg25 (by decide) fun n24 => ?_
         refine AO.c (Calm.assign rfl rfl) ?_
         refine AO.nH [0, 1, 7, 8, 10] (H' := [(n24, (.mem (.ar 1 ((x9 ++ ([t17.1] : List Int)).map eU8))))]) (Sub.cons 1 rfl (Sub.nil _)) ?_
         refine AW.reg ?_
         refine AO.c (Calm.move rfl rfl) ?_
         refine AO.c (Calm.move rfl rfl) ?_
         refine AO.c (x := eI64 (w64 (x10 + t17.2.1))) (Calm.int rfl rfl rfl rfl) ?_
         refine AO.c (Calm.assign rfl rfl) ?_
         refine AO.nK [0, 1, 7, 8] ?_
         exact ⟨kq12, Nat.lt_succ_self _, n24, (x9 ++ ([t17.1] : List Int)), (w64 (x10 + t17.2.1)), rfl, rfl, by rw [hrec11]; exact h⟩
     ·refine AW.condN _ rfl hc13 ?_
      refine AW.eH [] (H' := []) (Sub.nil _) ?_
      exact ⟨rfl, rfl, h⟩
    ·rintro _ _ ⟨rfl, rfl, h⟩
     rw [escape_Unquote_c0.eq_1] at h
     refine AW.sr ?_
     refine AO.c (Calm.assign rfl rfl) ?_
     refine AO.c (Calm.assign rfl rfl) ?_
     refine AO.c (Calm.assign rfl rfl) ?_
     refine AO.nK [4, 5, 6] ?_
     refine AW.rK [4, 5, 6] ?_
     have hr := Option.some.inj h
     subst hr
     exact ⟨[(eStr (ByteArray.mk #[])), (eI64 (0 : Int)), (eBool false)], ⟨rfl, rfl, rfl, rfl, rfl, rfl, trivial⟩, rfl⟩
end Go.Avl.T2
/- bosket/bosketref03.word; printed by avmain.py. -/
namespace Go.Avl.T2
open Go Go.RowKit Go.Proofs Go.Avl
set_option linter.unusedVariables false
set_option maxRecDepth 100000
set_option maxHeartbeats 4000000
attribute [local irreducible] AW AO AQ Spec SpecH Calm

end Go.Avl.T2
/- bosket/bosketref03.Read; printed by avmain.py. -/
namespace Go.Avl.T2
open Go Go.RowKit Go.Proofs Go.Avl
set_option linter.unusedVariables false
set_option maxRecDepth 100000
set_option maxHeartbeats 4000000
attribute [local irreducible] AW AO AQ Spec SpecH Calm

end Go.Avl.T2
/- bosket/bosketref03.Unquote; printed by avmain.py. -/
namespace Go.Avl.T2
open Go Go.RowKit Go.Proofs Go.Avl
set_option linter.unusedVariables false
set_option maxRecDepth 100000
set_option maxHeartbeats 4000000
attribute [local irreducible] AW AO AQ Spec SpecH Calm

end Go.Avl.T2
/- bosket/bosketref13.Of; printed by avmain.py. -/
namespace Go.Avl.T2
open Go Go.RowKit Go.Proofs Go.Avl
set_option linter.unusedVariables false
set_option maxRecDepth 100000
set_option maxHeartbeats 4000000
attribute [local irreducible] AW AO AQ Spec SpecH Calm

end Go.Avl.T2
/- internal/stringslite.IndexByte; printed by avmain.py. -/
namespace Go.Avl.T2
open Go Go.RowKit Go.Proofs Go.Avl
set_option linter.unusedVariables false
set_option maxRecDepth 100000
set_option maxHeartbeats 4000000
attribute [local irreducible] AW AO AQ Spec SpecH Calm

def internal_stringslite_IndexByte (k : Nat) (p0 : ByteArray) (p1 : Int) : Option Int :=
  some ((idxByte p0 p1))
theorem internal_stringslite_IndexByte_spec {k : Nat} {p0 : ByteArray} {p1 : Int} {r : Int} (h : internal_stringslite_IndexByte k p0 p1 = some r) : Spec Try.prog 78 [(eStr p0), (eU8 p1)] (eI64 r) := by
  rw [internal_stringslite_IndexByte.eq_1] at h
  refine Spec.intro (res := [.tmp 4]) Try.func78 rfl rfl rfl (Nat.le_of_ble_eq_true rfl) ?_
  refine AW.sr ?_
  refine AO.c (Calm.assign rfl rfl) ?_
  refine AO.nK [0, 1] ?_
  refine AW.sr ?_
  refine AO.c (Calm.move rfl rfl) ?_
  refine AO.c (Calm.move rfl rfl) ?_
  refine AO.c (x := eI64 (idxByte p0 p1)) (Calm.ext [(eStr p0), (eU8 p1)] [(.string p0), (.int .u8 p1)] rfl rfl xok93 ⟨rfl, rfl, rfl, rfl, trivial⟩ rfl (fun w => run_idxByte p0 p1 w)) ?_
  refine AO.c (Calm.assign rfl rfl) ?_
  refine AO.nK [4] ?_
  refine AW.rK [4] ?_
  have hr := Option.some.inj h
  subst hr
  exact ⟨[(eI64 (idxByte p0 p1))], ⟨rfl, rfl, trivial⟩, rfl⟩
end Go.Avl.T2
/- internal/bytealg.Cutover; printed by avmain.py. -/
namespace Go.Avl.T2
open Go Go.RowKit Go.Proofs Go.Avl
set_option linter.unusedVariables false
set_option maxRecDepth 100000
set_option maxHeartbeats 4000000
attribute [local irreducible] AW AO AQ Spec SpecH Calm

end Go.Avl.T2
/- internal/stringslite.Index; printed by avmain.py. -/
namespace Go.Avl.T2
open Go Go.RowKit Go.Proofs Go.Avl
set_option linter.unusedVariables false
set_option maxRecDepth 100000
set_option maxHeartbeats 4000000
attribute [local irreducible] AW AO AQ Spec SpecH Calm

def internal_stringslite_Index (k : Nat) (p0 : ByteArray) (p1 : ByteArray) : Option Int :=
  Option.bind (α := Bool) (if (p1.size : Int) = (0 : Int) then some (true)
  else some (decide (p1 = p0))) fun b3 =>
  if b3 = true then some ((0 : Int))
  else if (p1.size : Int) = (1 : Int) then if 0 ≤ (0 : Int) ∧ (0 : Int) < (p1.size : Int) then (internal_stringslite_IndexByte k p0 (byteAt p1 (0 : Int))).bind fun t9 =>
  some (t9)
  else none
  else if (p0.size : Int) ≤ (p1.size : Int) then some ((-1 : Int))
  else none
theorem internal_stringslite_Index_spec {k : Nat} {p0 : ByteArray} {p1 : ByteArray} {r : Int} (h : internal_stringslite_Index k p0 p1 = some r) : Spec Try.prog 91 [(eStr p0), (eStr p1)] (eI64 r) := by
  rw [internal_stringslite_Index.eq_1] at h
  refine Spec.intro (res := [.tmp 4]) Try.func91 rfl rfl rfl (Nat.le_of_ble_eq_true rfl) ?_
  refine AW.sr ?_
  refine AO.c (Calm.assign rfl rfl) ?_
  refine AO.nK [0, 1] ?_
  refine AW.sr ?_
  refine AO.c (Calm.move rfl rfl) ?_
  refine AO.c (Calm.lenStr rfl rfl Try.underlying9) ?_
  refine AO.c (Calm.assign rfl rfl) ?_
  refine AO.nK [0, 1, 5] ?_
  refine AW.seq ?_
  refine AW.block ?_
  refine AW.seq ?_
  obtain ⟨b3, hq4, h⟩ := of_bind h
  refine AW.regM [(0, (eStr p0)), (1, (eStr p1)), (5, (eI64 (p1.size : Int))), (16, (eBool b3))] [] ?_ ?_
  ·refine AO.c (Calm.move rfl rfl) ?_
   refine AO.c (x := eBool (decide ((p1.size : Int) = (0 : Int)))) (Calm.int rfl rfl rfl rfl) ?_
   refine AO.c (Calm.move rfl rfl) ?_
   rcases of_ite hq4 with ⟨hc5, hq4⟩ | ⟨hc5, hq4⟩
   ·refine AO.sF rfl rfl (bD (decide_eq_true hc5)) ?_
    refine AO.sF rfl rfl (bD (decide_eq_true hc5)) ?_
    refine AO.sF rfl rfl (bD (decide_eq_true hc5)) ?_
    refine AO.c (Calm.pickT rfl (bD (decide_eq_true hc5)) rfl) ?_
    refine AO.c (Calm.assign rfl rfl) ?_
    cases hq4
    refine AO.nilE ⟨rfl, rfl⟩ ?_ ?_
    · exact ⟨rfl, rfl, rfl, rfl, trivial⟩
    · exact (Sub.refl _)
   ·refine AO.cG rfl rfl (bD (decide_eq_false hc5)) (Calm.move rfl rfl) ?_
    refine AO.cG rfl rfl (bD (decide_eq_false hc5)) (Calm.move rfl rfl) ?_
    refine AO.cG (x := eBool (decide (p1 = p0))) rfl rfl (bD (decide_eq_false hc5)) (Calm.str rfl rfl rfl rfl) ?_
    refine AO.c (Calm.pickF rfl (bD (decide_eq_false hc5)) rfl) ?_
    refine AO.c (Calm.assign rfl rfl) ?_
    cases hq4
    refine AO.nilE ⟨rfl, rfl⟩ ?_ ?_
    · exact ⟨rfl, rfl, rfl, rfl, trivial⟩
    · exact (Sub.refl _)
  ·rcases of_ite h with ⟨hc6, h⟩ | ⟨hc6, h⟩
   ·refine AW.condT' _ rfl hc6 ?_
    refine AW.sr ?_
    refine AO.c (Calm.assign rfl rfl) ?_
    refine AO.nK [4] ?_
    refine AW.rK [4] ?_
    have hr := Option.some.inj h
    subst hr
    exact ⟨[(eI64 (0 : Int))], ⟨rfl, rfl, trivial⟩, rfl⟩
   ·refine AW.condF' _ rfl hc6 ?_
    refine AW.sr ?_
    refine AO.c (Calm.move rfl rfl) ?_
    refine AO.c (x := eBool (decide ((p1.size : Int) = (1 : Int)))) (Calm.int rfl rfl rfl rfl) ?_
    refine AO.c (Calm.assign rfl rfl) ?_
    refine AO.nK [0, 1, 5, 24] ?_
    rcases of_ite h with ⟨hc7, h⟩ | ⟨hc7, h⟩
    ·refine AW.condP _ rfl hc7 ?_
     refine AW.sr ?_
     refine AO.c (Calm.move rfl rfl) ?_
     refine AO.c (Calm.move rfl rfl) ?_
     obtain ⟨hg8, h⟩ := of_guard h
     refine AO.c (x := eU8 (byteAt p1 (0 : Int))) (Calm.idxS rfl rfl rfl hg8 Try.underlying9) ?_
     obtain ⟨t9, et9, h⟩ := of_bind h
     refine AO.callS [(eStr p0), (eU8 (byteAt p1 (0 : Int)))] (eI64 t9) 30 rfl (by decide) ok78 rfl rfl rfl ⟨rfl, rfl, rfl, rfl, trivial⟩ (internal_stringslite_IndexByte_spec et9) ?_
     refine AO.c (Calm.assign rfl rfl) ?_
     refine AO.nK [4] ?_
     refine AW.rK [4] ?_
     have hr := Option.some.inj h
     subst hr
     exact ⟨[(eI64 t9)], ⟨rfl, rfl, trivial⟩, rfl⟩
    ·refine AW.condN _ rfl hc7 ?_
     refine AW.sr ?_
     refine AO.c (Calm.move rfl rfl) ?_
     refine AO.c (Calm.move rfl rfl) ?_
     refine AO.c (Calm.lenStr rfl rfl Try.underlying9) ?_
     refine AO.c (x := eBool (decide ((p0.size : Int) ≤ (p1.size : Int)))) (Calm.int rfl rfl rfl rfl) ?_
     refine AO.c (Calm.assign rfl rfl) ?_
     refine AO.nK [0, 1, 5, 31] ?_
     rcases of_ite h with ⟨hc10, h⟩ | ⟨hc10, h⟩
     ·refine AW.condP _ rfl hc10 ?_
      refine AW.sr ?_
      refine AO.c (Calm.assign rfl rfl) ?_
      refine AO.nK [4] ?_
      refine AW.rK [4] ?_
      have hr := Option.some.inj h
      subst hr
      exact ⟨[(eI64 (-1 : Int))], ⟨rfl, rfl, trivial⟩, rfl⟩
     ·cases h
end Go.Avl.T2
/- strings.Index; printed by avmain.py. -/
namespace Go.Avl.T2
open Go Go.RowKit Go.Proofs Go.Avl
set_option linter.unusedVariables false
set_option maxRecDepth 100000
set_option maxHeartbeats 4000000
attribute [local irreducible] AW AO AQ Spec SpecH Calm

end Go.Avl.T2
/- strings.Count; printed by avmain.py. -/
namespace Go.Avl.T2
open Go Go.RowKit Go.Proofs Go.Avl
set_option linter.unusedVariables false
set_option maxRecDepth 100000
set_option maxHeartbeats 4000000
attribute [local irreducible] AW AO AQ Spec SpecH Calm

end Go.Avl.T2
/- internal/bytealg.LastIndexByteString; printed by avmain.py. -/
namespace Go.Avl.T2
open Go Go.RowKit Go.Proofs Go.Avl
set_option linter.unusedVariables false
set_option maxRecDepth 100000
set_option maxHeartbeats 4000000
attribute [local irreducible] AW AO AQ Spec SpecH Calm

end Go.Avl.T2
/- strings.LastIndex; printed by avmain.py. -/
namespace Go.Avl.T2
open Go Go.RowKit Go.Proofs Go.Avl
set_option linter.unusedVariables false
set_option maxRecDepth 100000
set_option maxHeartbeats 4000000
attribute [local irreducible] AW AO AQ Spec SpecH Calm

end Go.Avl.T2
/- bosket/spot.Of; printed by avmain.py. -/
namespace Go.Avl.T2
open Go Go.RowKit Go.Proofs Go.Avl
set_option linter.unusedVariables false
set_option maxRecDepth 100000
set_option maxHeartbeats 4000000
attribute [local irreducible] AW AO AQ Spec SpecH Calm

end Go.Avl.T2
/- bosket/spot.Digits; printed by avmain.py. -/
namespace Go.Avl.T2
open Go Go.RowKit Go.Proofs Go.Avl
set_option linter.unusedVariables false
set_option maxRecDepth 100000
set_option maxHeartbeats 4000000
attribute [local irreducible] AW AO AQ Spec SpecH Calm

def spot_Digits (k : Nat) (p0 : Int) : Option ByteArray :=
  (spot_digits k p0).bind fun t2 =>
  some (t2)
theorem spot_Digits_spec {k : Nat} {p0 : Int} {r : ByteArray} (h : spot_Digits k p0 = some r) : Spec Try.prog 18 [(eI64 p0)] (eStr r) := by
  rw [spot_Digits.eq_1] at h
  refine Spec.intro (res := [.tmp 2]) Try.func18 rfl rfl rfl (Nat.le_of_ble_eq_true rfl) ?_
  refine AW.sr ?_
  refine AO.c (Calm.assign rfl rfl) ?_
  refine AO.nK [0] ?_
  refine AW.sr ?_
  refine AO.c (Calm.move rfl rfl) ?_
  obtain ⟨t2, et2, h⟩ := of_bind h
  refine AO.callS [(eI64 p0)] (eStr t2) 4 rfl (by decide) ok59 rfl rfl rfl ⟨rfl, rfl, trivial⟩ (spot_digits_spec et2) ?_
  refine AO.c (Calm.assign rfl rfl) ?_
  refine AO.nK [2] ?_
  refine AW.rK [2] ?_
  have hr := Option.some.inj h
  subst hr
  exact ⟨[(eStr t2)], ⟨rfl, rfl, trivial⟩, rfl⟩
end Go.Avl.T2
/- bosket/op.Form; printed by avmain.py. -/
namespace Go.Avl.T2
open Go Go.RowKit Go.Proofs Go.Avl
set_option linter.unusedVariables false
set_option maxRecDepth 100000
set_option maxHeartbeats 4000000
attribute [local irreducible] AW AO AQ Spec SpecH Calm

def op_Form_c0 (k : Nat) (p0 : Int) (b7 : Bool) (b8 : Bool) : Option (ByteArray × Bool × Bool) :=
  if 0 ≤ p0 ∧ p0 < (12 : Int) then (some (vget (vset (vset (vset (vset (vset (vset (vset (vset (vset (vset (vset (Vector.replicate 12 ByteArray.empty) (1 : Int) (ByteArray.mk #[117, 115, 101])) (2 : Int) (ByteArray.mk #[103, 114, 97, 109, 109, 97, 114])) (3 : Int) (ByteArray.mk #[108, 101, 120])) (4 : Int) (ByteArray.mk #[112, 97, 114, 115, 101])) (5 : Int) (ByteArray.mk #[112, 114, 105, 110, 116])) (6 : Int) (ByteArray.mk #[116, 105, 103, 104, 116])) (7 : Int) (ByteArray.mk #[102, 111, 114, 109, 97, 116])) (8 : Int) (ByteArray.mk #[110, 101, 120, 116])) (9 : Int) (ByteArray.mk #[116, 114, 101, 101, 115])) (10 : Int) (ByteArray.mk #[102, 101, 101, 100])) (11 : Int) (ByteArray.mk #[116, 97, 107, 101])) p0)).bind fun x10 =>
  some (x10, b7, b8)
  else none
def op_Form_c1 (k : Nat) (p0 : Int) : Option (ByteArray × Bool × Bool) :=
  op_Form_c0 k p0 false true
def op_Form_c2 (k : Nat) (p0 : Int) (b11 : Bool) : Option (ByteArray × Bool × Bool) :=
  op_Form_c0 k p0 true b11
def op_Form_c3 (k : Nat) (p0 : Int) : Option (ByteArray × Bool × Bool) :=
  op_Form_c2 k p0 true
def op_Form_c4 (k : Nat) (p0 : Int) (b16 : Bool) : Option (ByteArray × Bool × Bool) :=
  if b16 = true then op_Form_c1 k p0
  else op_Form_c0 k p0 false false
def op_Form_c5 (k : Nat) (p0 : Int) (b14 : Bool) : Option (ByteArray × Bool × Bool) :=
  if b14 = true then op_Form_c2 k p0 false
  else if p0 = (1 : Int) then op_Form_c4 k p0 (decide (p0 = (1 : Int)))
  else op_Form_c4 k p0 (decide (p0 = (10 : Int)))
def op_Form_c6 (k : Nat) (p0 : Int) (b12 : Bool) : Option (ByteArray × Bool × Bool) :=
  if b12 = true then op_Form_c3 k p0
  else if p0 = (2 : Int) then op_Form_c5 k p0 (decide (p0 = (2 : Int)))
  else if p0 = (3 : Int) then op_Form_c5 k p0 (decide (p0 = (3 : Int)))
  else if p0 = (4 : Int) then op_Form_c5 k p0 (decide (p0 = (4 : Int)))
  else if p0 = (6 : Int) then op_Form_c5 k p0 (decide (p0 = (6 : Int)))
  else if p0 = (8 : Int) then op_Form_c5 k p0 (decide (p0 = (8 : Int)))
  else op_Form_c5 k p0 (decide (p0 = (9 : Int)))
def op_Form (k : Nat) (p0 : Int) : Option (ByteArray × Bool × Bool) :=
  Option.bind (α := Bool) (if p0 < (1 : Int) then some (true)
  else some (decide ((12 : Int) ≤ p0))) fun b3 =>
  if b3 = true then some ((ByteArray.mk #[]), false, false)
  else if p0 = (5 : Int) then op_Form_c6 k p0 (decide (p0 = (5 : Int)))
  else op_Form_c6 k p0 (decide (p0 = (7 : Int)))
theorem op_Form_spec {k : Nat} {p0 : Int} {r : (ByteArray × Bool × Bool)} (h : op_Form k p0 = some r) : Spec Try.prog 40 [(eI64 p0)] (.tup [(eStr r.1), (eBool r.2.1), (eBool r.2.2)]) := by
  rw [op_Form.eq_1] at h
  refine Spec.intro (res := [.tmp 2, .tmp 3, .tmp 4]) Try.func40 rfl rfl rfl (Nat.le_of_ble_eq_true rfl) ?_
  refine AW.sr ?_
  refine AO.c (Calm.assign rfl rfl) ?_
  refine AO.c (Calm.assign rfl rfl) ?_
  refine AO.c (Calm.assign rfl rfl) ?_
  refine AO.nK [0] ?_
  refine AW.sr ?_
  refine AO.c (x := .ar 1 ((vset (vset (vset (vset (vset (vset (vset (vset (vset (vset (vset (Vector.replicate 12 ByteArray.empty) (1 : Int) (ByteArray.mk #[117, 115, 101])) (2 : Int) (ByteArray.mk #[103, 114, 97, 109, 109, 97, 114])) (3 : Int) (ByteArray.mk #[108, 101, 120])) (4 : Int) (ByteArray.mk #[112, 97, 114, 115, 101])) (5 : Int) (ByteArray.mk #[112, 114, 105, 110, 116])) (6 : Int) (ByteArray.mk #[116, 105, 103, 104, 116])) (7 : Int) (ByteArray.mk #[102, 111, 114, 109, 97, 116])) (8 : Int) (ByteArray.mk #[110, 101, 120, 116])) (9 : Int) (ByteArray.mk #[116, 114, 101, 101, 115])) (10 : Int) (ByteArray.mk #[102, 101, 101, 100])) (11 : Int) (ByteArray.mk #[116, 97, 107, 101])).toList.map eStr)) (Calm.buildAr (qs := [(1, (eStr (ByteArray.mk #[117, 115, 101]))), (2, (eStr (ByteArray.mk #[103, 114, 97, 109, 109, 97, 114]))), (3, (eStr (ByteArray.mk #[108, 101, 120]))), (4, (eStr (ByteArray.mk #[112, 97, 114, 115, 101]))), (5, (eStr (ByteArray.mk #[112, 114, 105, 110, 116]))), (6, (eStr (ByteArray.mk #[116, 105, 103, 104, 116]))), (7, (eStr (ByteArray.mk #[102, 111, 114, 109, 97, 116]))), (8, (eStr (ByteArray.mk #[110, 101, 120, 116]))), (9, (eStr (ByteArray.mk #[116, 114, 101, 101, 115]))), (10, (eStr (ByteArray.mk #[102, 101, 101, 100]))), (11, (eStr (ByteArray.mk #[116, 97, 107, 101])))]) rfl ⟨rfl, rfl, rfl, rfl, rfl, rfl, rfl, rfl, rfl, rfl, rfl, rfl, rfl, rfl, rfl, rfl, rfl, rfl, rfl, rfl, rfl, rfl, rfl, rfl, rfl, rfl, rfl, rfl, rfl, rfl, rfl, rfl, rfl, trivial⟩ Try.underlying94 sz9 zr94 lay94 (.cons rfl rfl rfl rfl (Put.cast (Put.vidx (1 : Int) (ByteArray.mk #[117, 115, 101]) (by decide) (by decide) Put.here) rfl) (.cons rfl rfl rfl rfl (Put.cast (Put.vidx (2 : Int) (ByteArray.mk #[103, 114, 97, 109, 109, 97, 114]) (by decide) (by decide) Put.here) rfl) (.cons rfl rfl rfl rfl (Put.cast (Put.vidx (3 : Int) (ByteArray.mk #[108, 101, 120]) (by decide) (by decide) Put.here) rfl) (.cons rfl rfl rfl rfl (Put.cast (Put.vidx (4 : Int) (ByteArray.mk #[112, 97, 114, 115, 101]) (by decide) (by decide) Put.here) rfl) (.cons rfl rfl rfl rfl (Put.cast (Put.vidx (5 : Int) (ByteArray.mk #[112, 114, 105, 110, 116]) (by decide) (by decide) Put.here) rfl) (.cons rfl rfl rfl rfl (Put.cast (Put.vidx (6 : Int) (ByteArray.mk #[116, 105, 103, 104, 116]) (by decide) (by decide) Put.here) rfl) (.cons rfl rfl rfl rfl (Put.cast (Put.vidx (7 : Int) (ByteArray.mk #[102, 111, 114, 109, 97, 116]) (by decide) (by decide) Put.here) rfl) (.cons rfl rfl rfl rfl (Put.cast (Put.vidx (8 : Int) (ByteArray.mk #[110, 101, 120, 116]) (by decide) (by decide) Put.here) rfl) (.cons rfl rfl rfl rfl (Put.cast (Put.vidx (9 : Int) (ByteArray.mk #[116, 114, 101, 101, 115]) (by decide) (by decide) Put.here) rfl) (.cons rfl rfl rfl rfl (Put.cast (Put.vidx (10 : Int) (ByteArray.mk #[102, 101, 101, 100]) (by decide) (by decide) Put.here) rfl) (.cons rfl rfl rfl rfl (Put.cast (Put.vidx (11 : Int) (ByteArray.mk #[116, 97, 107, 101]) (by decide) (by decide) Put.here) rfl) .nil))))))))))) rfl) ?_
  refine AO.alloc rfl 5 rfl (by decide) rfl zr94 lay94 fun n2 => ?_
  refine AO.store (X' := (.ar 1 ((vset (vset (vset (vset (vset (vset (vset (vset (vset (vset (vset (Vector.replicate 12 ByteArray.empty) (1 : Int) (ByteArray.mk #[117, 115, 101])) (2 : Int) (ByteArray.mk #[103, 114, 97, 109, 109, 97, 114])) (3 : Int) (ByteArray.mk #[108, 101, 120])) (4 : Int) (ByteArray.mk #[112, 97, 114, 115, 101])) (5 : Int) (ByteArray.mk #[112, 114, 105, 110, 116])) (6 : Int) (ByteArray.mk #[116, 105, 103, 104, 116])) (7 : Int) (ByteArray.mk #[102, 111, 114, 109, 97, 116])) (8 : Int) (ByteArray.mk #[110, 101, 120, 116])) (9 : Int) (ByteArray.mk #[116, 114, 101, 101, 115])) (10 : Int) (ByteArray.mk #[102, 101, 101, 100])) (11 : Int) (ByteArray.mk #[116, 97, 107, 101])).toList.map eStr))) 0 rfl rfl rfl rfl rfl rfl (Put.cast Put.here rfl) rfl (by simp [AV.size]) (by rw [sz94]; simp [AV.size]) rfl ?_
  refine AO.nK [0, 5] ?_
  refine AW.seq ?_
  refine AW.seq ?_
  obtain ⟨b3, hq4, h⟩ := of_bind h
  refine AW.regM [(0, (eI64 p0)), (5, (.ptr n2 0)), (14, (eBool b3))] [(n2, (.mem (.ar 1 ((vset (vset (vset (vset (vset (vset (vset (vset (vset (vset (vset (Vector.replicate 12 ByteArray.empty) (1 : Int) (ByteArray.mk #[117, 115, 101])) (2 : Int) (ByteArray.mk #[103, 114, 97, 109, 109, 97, 114])) (3 : Int) (ByteArray.mk #[108, 101, 120])) (4 : Int) (ByteArray.mk #[112, 97, 114, 115, 101])) (5 : Int) (ByteArray.mk #[112, 114, 105, 110, 116])) (6 : Int) (ByteArray.mk #[116, 105, 103, 104, 116])) (7 : Int) (ByteArray.mk #[102, 111, 114, 109, 97, 116])) (8 : Int) (ByteArray.mk #[110, 101, 120, 116])) (9 : Int) (ByteArray.mk #[116, 114, 101, 101, 115])) (10 : Int) (ByteArray.mk #[102, 101, 101, 100])) (11 : Int) (ByteArray.mk #[116, 97, 107, 101])).toList.map eStr))))] ?_ ?_
  ·refine AO.c (Calm.move rfl rfl) ?_
   refine AO.c (x := eBool (decide (p0 < (1 : Int)))) (Calm.int rfl rfl rfl rfl) ?_
   refine AO.c (Calm.move rfl rfl) ?_
   rcases of_ite hq4 with ⟨hc5, hq4⟩ | ⟨hc5, hq4⟩
   ·refine AO.sF rfl rfl (bD (decide_eq_true hc5)) ?_
    refine AO.sF rfl rfl (bD (decide_eq_true hc5)) ?_
    refine AO.c (Calm.pickT rfl (bD (decide_eq_true hc5)) rfl) ?_
    cases hq4
    refine AO.nilE ⟨rfl, rfl⟩ ?_ ?_
    · exact ⟨rfl, rfl, rfl, trivial⟩
    · exact (Sub.refl _)
   ·refine AO.cG rfl rfl (bD (decide_eq_false hc5)) (Calm.move rfl rfl) ?_
    refine AO.cG (x := eBool (decide ((12 : Int) ≤ p0))) rfl rfl (bD (decide_eq_false hc5)) (Calm.int rfl rfl rfl rfl) ?_
    refine AO.c (Calm.pickF rfl (bD (decide_eq_false hc5)) rfl) ?_
    cases hq4
    refine AO.nilE ⟨rfl, rfl⟩ ?_ ?_
    · exact ⟨rfl, rfl, rfl, trivial⟩
    · exact (Sub.refl _)
  ·rcases of_ite h with ⟨hc6, h⟩ | ⟨hc6, h⟩
   ·refine AW.condT' _ rfl hc6 ?_
    refine AW.sr ?_
    refine AO.c (Calm.assign rfl rfl) ?_
    refine AO.c (Calm.assign rfl rfl) ?_
    refine AO.c (Calm.assign rfl rfl) ?_
    refine AO.nH [2, 3, 4] (H' := []) (Sub.nil _) ?_
    refine AW.rK [2, 3, 4] ?_
    have hr := Option.some.inj h
    subst hr
    exact ⟨[(eStr (ByteArray.mk #[])), (eBool false), (eBool false)], ⟨rfl, rfl, rfl, rfl, rfl, rfl, trivial⟩, rfl⟩
   ·refine AW.condF' _ rfl hc6 ?_
    refine AW.sK [0, 5] ?_
    refine AW.sr ?_
    refine AO.c (Calm.assign rfl rfl) ?_
    refine AO.c (Calm.assign rfl rfl) ?_
    refine AO.nK [0, 5, 6, 7] ?_
    refine AW.seq_mid (fun ρ H => ∃ (b7 : Bool) (b8 : Bool), ρ = [(0, (eI64 p0)), (5, (.ptr n2 0)), (6, (eBool b7)), (7, (eBool b8))] ∧ H = [(n2, (.mem (.ar 1 ((vset (vset (vset (vset (vset (vset (vset (vset (vset (vset (vset (Vector.replicate 12 ByteArray.empty) (1 : Int) (ByteArray.mk #[117, 115, 101])) (2 : Int) (ByteArray.mk #[103, 114, 97, 109, 109, 97, 114])) (3 : Int) (ByteArray.mk #[108, 101, 120])) (4 : Int) (ByteArray.mk #[112, 97, 114, 115, 101])) (5 : Int) (ByteArray.mk #[112, 114, 105, 110, 116])) (6 : Int) (ByteArray.mk #[116, 105, 103, 104, 116])) (7 : Int) (ByteArray.mk #[102, 111, 114, 109, 97, 116])) (8 : Int) (ByteArray.mk #[110, 101, 120, 116])) (9 : Int) (ByteArray.mk #[116, 114, 101, 101, 115])) (10 : Int) (ByteArray.mk #[102, 101, 101, 100])) (11 : Int) (ByteArray.mk #[116, 97, 107, 101])).toList.map eStr))))] ∧ op_Form_c0 k p0 b7 b8 = some r) ?_ ?_
    ·refine AW.sr ?_
     refine AO.c (Calm.move rfl rfl) ?_
     refine AO.nK [0, 5, 6, 7, 15] ?_
     refine AW.block ?_
     refine AW.seq_mid (fun ρ H => ρ = [(0, (eI64 p0)), (5, (.ptr n2 0)), (6, (eBool false))] ∧ H = [(n2, (.mem (.ar 1 ((vset (vset (vset (vset (vset (vset (vset (vset (vset (vset (vset (Vector.replicate 12 ByteArray.empty) (1 : Int) (ByteArray.mk #[117, 115, 101])) (2 : Int) (ByteArray.mk #[103, 114, 97, 109, 109, 97, 114])) (3 : Int) (ByteArray.mk #[108, 101, 120])) (4 : Int) (ByteArray.mk #[112, 97, 114, 115, 101])) (5 : Int) (ByteArray.mk #[112, 114, 105, 110, 116])) (6 : Int) (ByteArray.mk #[116, 105, 103, 104, 116])) (7 : Int) (ByteArray.mk #[102, 111, 114, 109, 97, 116])) (8 : Int) (ByteArray.mk #[110, 101, 120, 116])) (9 : Int) (ByteArray.mk #[116, 114, 101, 101, 115])) (10 : Int) (ByteArray.mk #[102, 101, 101, 100])) (11 : Int) (ByteArray.mk #[116, 97, 107, 101])).toList.map eStr))))] ∧ op_Form_c1 k p0 = some r) ?_ ?_
     ·refine AW.block ?_
      refine AW.seq_mid (fun ρ H => ∃ (b11 : Bool), ρ = [(0, (eI64 p0)), (5, (.ptr n2 0)), (7, (eBool b11))] ∧ H = [(n2, (.mem (.ar 1 ((vset (vset (vset (vset (vset (vset (vset (vset (vset (vset (vset (Vector.replicate 12 ByteArray.empty) (1 : Int) (ByteArray.mk #[117, 115, 101])) (2 : Int) (ByteArray.mk #[103, 114, 97, 109, 109, 97, 114])) (3 : Int) (ByteArray.mk #[108, 101, 120])) (4 : Int) (ByteArray.mk #[112, 97, 114, 115, 101])) (5 : Int) (ByteArray.mk #[112, 114, 105, 110, 116])) (6 : Int) (ByteArray.mk #[116, 105, 103, 104, 116])) (7 : Int) (ByteArray.mk #[102, 111, 114, 109, 97, 116])) (8 : Int) (ByteArray.mk #[110, 101, 120, 116])) (9 : Int) (ByteArray.mk #[116, 114, 101, 101, 115])) (10 : Int) (ByteArray.mk #[102, 101, 101, 100])) (11 : Int) (ByteArray.mk #[116, 97, 107, 101])).toList.map eStr))))] ∧ op_Form_c2 k p0 b11 = some r) ?_ ?_
      ·refine AW.block ?_
       refine AW.seq_mid (fun ρ H => ρ = [(0, (eI64 p0)), (5, (.ptr n2 0))] ∧ H = [(n2, (.mem (.ar 1 ((vset (vset (vset (vset (vset (vset (vset (vset (vset (vset (vset (Vector.replicate 12 ByteArray.empty) (1 : Int) (ByteArray.mk #[117, 115, 101])) (2 : Int) (ByteArray.mk #[103, 114, 97, 109, 109, 97, 114])) (3 : Int) (ByteArray.mk #[108, 101, 120])) (4 : Int) (ByteArray.mk #[112, 97, 114, 115, 101])) (5 : Int) (ByteArray.mk #[112, 114, 105, 110, 116])) (6 : Int) (ByteArray.mk #[116, 105, 103, 104, 116])) (7 : Int) (ByteArray.mk #[102, 111, 114, 109, 97, 116])) (8 : Int) (ByteArray.mk #[110, 101, 120, 116])) (9 : Int) (ByteArray.mk #[116, 114, 101, 101, 115])) (10 : Int) (ByteArray.mk #[102, 101, 101, 100])) (11 : Int) (ByteArray.mk #[116, 97, 107, 101])).toList.map eStr))))] ∧ op_Form_c3 k p0 = some r) ?_ ?_
       ·refine AW.block ?_
        refine AW.seq ?_
        refine AW.seq ?_
        refine AW.seq_mid (fun ρ H => ∃ (b12 : Bool), ρ = [(0, (eI64 p0)), (5, (.ptr n2 0)), (6, (eBool false)), (7, (eBool false)), (15, (eI64 p0)), (16, (eBool b12))] ∧ H = [(n2, (.mem (.ar 1 ((vset (vset (vset (vset (vset (vset (vset (vset (vset (vset (vset (Vector.replicate 12 ByteArray.empty) (1 : Int) (ByteArray.mk #[117, 115, 101])) (2 : Int) (ByteArray.mk #[103, 114, 97, 109, 109, 97, 114])) (3 : Int) (ByteArray.mk #[108, 101, 120])) (4 : Int) (ByteArray.mk #[112, 97, 114, 115, 101])) (5 : Int) (ByteArray.mk #[112, 114, 105, 110, 116])) (6 : Int) (ByteArray.mk #[116, 105, 103, 104, 116])) (7 : Int) (ByteArray.mk #[102, 111, 114, 109, 97, 116])) (8 : Int) (ByteArray.mk #[110, 101, 120, 116])) (9 : Int) (ByteArray.mk #[116, 114, 101, 101, 115])) (10 : Int) (ByteArray.mk #[102, 101, 101, 100])) (11 : Int) (ByteArray.mk #[116, 97, 107, 101])).toList.map eStr))))] ∧ op_Form_c6 k p0 b12 = some r) ?_ ?_
        ·refine AW.sr ?_
         refine AO.c (x := eBool (decide (p0 = (5 : Int)))) (Calm.int rfl rfl rfl rfl) ?_
         refine AO.c (Calm.assign rfl rfl) ?_
         refine AO.nK [0, 5, 6, 7, 15, 16] ?_
         rcases of_ite h with ⟨hc24, h⟩ | ⟨hc24, h⟩
         ·refine AW.condP _ rfl hc24 ?_
          refine AW.sK [0, 5, 6, 7, 15, 16] ?_
          exact ⟨decide (p0 = (5 : Int)), rfl, rfl, h⟩
         ·refine AW.condN _ rfl hc24 ?_
          refine AW.reg ?_
          refine AO.c (x := eBool (decide (p0 = (7 : Int)))) (Calm.int rfl rfl rfl rfl) ?_
          refine AO.c (Calm.assign rfl rfl) ?_
          refine AO.nK [0, 5, 6, 7, 15, 16] ?_
          exact ⟨decide (p0 = (7 : Int)), rfl, rfl, h⟩
        ·rintro _ _ ⟨b12, rfl, rfl, h⟩
         rw [op_Form_c6.eq_1] at h
         rcases of_ite h with ⟨hc13, h⟩ | ⟨hc13, h⟩
         ·refine AW.condT' _ rfl hc13 ?_
          refine AW.eK [0, 5] ?_
          exact ⟨rfl, rfl, h⟩
         ·refine AW.condF' _ rfl hc13 ?_
          refine AW.sK [0, 5, 6, 7, 15] ?_
          refine AW.seq ?_
          refine AW.seq_mid (fun ρ H => ∃ (b14 : Bool), ρ = [(0, (eI64 p0)), (5, (.ptr n2 0)), (6, (eBool false)), (7, (eBool false)), (15, (eI64 p0)), (19, (eBool b14))] ∧ H = [(n2, (.mem (.ar 1 ((vset (vset (vset (vset (vset (vset (vset (vset (vset (vset (vset (Vector.replicate 12 ByteArray.empty) (1 : Int) (ByteArray.mk #[117, 115, 101])) (2 : Int) (ByteArray.mk #[103, 114, 97, 109, 109, 97, 114])) (3 : Int) (ByteArray.mk #[108, 101, 120])) (4 : Int) (ByteArray.mk #[112, 97, 114, 115, 101])) (5 : Int) (ByteArray.mk #[112, 114, 105, 110, 116])) (6 : Int) (ByteArray.mk #[116, 105, 103, 104, 116])) (7 : Int) (ByteArray.mk #[102, 111, 114, 109, 97, 116])) (8 : Int) (ByteArray.mk #[110, 101, 120, 116])) (9 : Int) (ByteArray.mk #[116, 114, 101, 101, 115])) (10 : Int) (ByteArray.mk #[102, 101, 101, 100])) (11 : Int) (ByteArray.mk #[116, 97, 107, 101])).toList.map eStr))))] ∧ op_Form_c5 k p0 b14 = some r) ?_ ?_
          ·refine AW.sr ?_
           refine AO.c (x := eBool (decide (p0 = (2 : Int)))) (Calm.int rfl rfl rfl rfl) ?_
           refine AO.c (Calm.assign rfl rfl) ?_
           refine AO.nK [0, 5, 6, 7, 15, 19] ?_
           rcases of_ite h with ⟨hc19, h⟩ | ⟨hc19, h⟩
           ·refine AW.condP _ rfl hc19 ?_
            refine AW.sK [0, 5, 6, 7, 15, 19] ?_
            exact ⟨decide (p0 = (2 : Int)), rfl, rfl, h⟩
           ·refine AW.condN _ rfl hc19 ?_
            refine AW.sr ?_
            refine AO.c (x := eBool (decide (p0 = (3 : Int)))) (Calm.int rfl rfl rfl rfl) ?_
            refine AO.c (Calm.assign rfl rfl) ?_
            refine AO.nK [0, 5, 6, 7, 15, 19] ?_
            rcases of_ite h with ⟨hc20, h⟩ | ⟨hc20, h⟩
            ·refine AW.condP _ rfl hc20 ?_
             refine AW.sK [0, 5, 6, 7, 15, 19] ?_
             exact ⟨decide (p0 = (3 : Int)), rfl, rfl, h⟩
            ·refine AW.condN _ rfl hc20 ?_
             refine AW.sr ?_
             refine AO.c (x := eBool (decide (p0 = (4 : Int)))) (Calm.int rfl rfl rfl rfl) ?_
             refine AO.c (Calm.assign rfl rfl) ?_
             refine AO.nK [0, 5, 6, 7, 15, 19] ?_
             rcases of_ite h with ⟨hc21, h⟩ | ⟨hc21, h⟩
             ·refine AW.condP _ rfl hc21 ?_
              refine AW.sK [0, 5, 6, 7, 15, 19] ?_
              exact ⟨decide (p0 = (4 : Int)), rfl, rfl, h⟩
             ·refine AW.condN _ rfl hc21 ?_
              refine AW.sr ?_
              refine AO.c (x := eBool (decide (p0 = (6 : Int)))) (Calm.int rfl rfl rfl rfl) ?_
              refine AO.c (Calm.assign rfl rfl) ?_
              refine AO.nK [0, 5, 6, 7, 15, 19] ?_
              rcases of_ite h with ⟨hc22, h⟩ | ⟨hc22, h⟩
              ·refine AW.condP _ rfl hc22 ?_
               refine AW.sK [0, 5, 6, 7, 15, 19] ?_
               exact ⟨decide (p0 = (6 : Int)), rfl, rfl, h⟩
              ·refine AW.condN _ rfl hc22 ?_
               refine AW.sr ?_
               refine AO.c (x := eBool (decide (p0 = (8 : Int)))) (Calm.int rfl rfl rfl rfl) ?_
               refine AO.c (Calm.assign rfl rfl) ?_
               refine AO.nK [0, 5, 6, 7, 15, 19] ?_
               rcases of_ite h with ⟨hc23, h⟩ | ⟨hc23, h⟩
               ·refine AW.condP _ rfl hc23 ?_
                refine AW.sK [0, 5, 6, 7, 15, 19] ?_
                exact ⟨decide (p0 = (8 : Int)), rfl, rfl, h⟩
               ·refine AW.condN _ rfl hc23 ?_
                refine AW.reg ?_
                refine AO.c (x := eBool (decide (p0 = (9 : Int)))) (Calm.int rfl rfl rfl rfl) ?_
                refine AO.c (Calm.assign rfl rfl) ?_
                refine AO.nK [0, 5, 6, 7, 15, 19] ?_
                exact ⟨decide (p0 = (9 : Int)), rfl, rfl, h⟩
          ·rintro _ _ ⟨b14, rfl, rfl, h⟩
           rw [op_Form_c5.eq_1] at h
           rcases of_ite h with ⟨hc15, h⟩ | ⟨hc15, h⟩
           ·refine AW.condT' _ rfl hc15 ?_
            refine AW.eK [0, 5, 7] ?_
            exact ⟨false, rfl, rfl, h⟩
           ·refine AW.condF' _ rfl hc15 ?_
            refine AW.sK [0, 5, 6, 7, 15] ?_
            refine AW.seq_mid (fun ρ H => ∃ (b16 : Bool), ρ = [(0, (eI64 p0)), (5, (.ptr n2 0)), (6, (eBool false)), (7, (eBool false)), (26, (eBool b16))] ∧ H = [(n2, (.mem (.ar 1 ((vset (vset (vset (vset (vset (vset (vset (vset (vset (vset (vset (Vector.replicate 12 ByteArray.empty) (1 : Int) (ByteArray.mk #[117, 115, 101])) (2 : Int) (ByteArray.mk #[103, 114, 97, 109, 109, 97, 114])) (3 : Int) (ByteArray.mk #[108, 101, 120])) (4 : Int) (ByteArray.mk #[112, 97, 114, 115, 101])) (5 : Int) (ByteArray.mk #[112, 114, 105, 110, 116])) (6 : Int) (ByteArray.mk #[116, 105, 103, 104, 116])) (7 : Int) (ByteArray.mk #[102, 111, 114, 109, 97, 116])) (8 : Int) (ByteArray.mk #[110, 101, 120, 116])) (9 : Int) (ByteArray.mk #[116, 114, 101, 101, 115])) (10 : Int) (ByteArray.mk #[102, 101, 101, 100])) (11 : Int) (ByteArray.mk #[116, 97, 107, 101])).toList.map eStr))))] ∧ op_Form_c4 k p0 b16 = some r) ?_ ?_
            ·refine AW.sr ?_
             refine AO.c (x := eBool (decide (p0 = (1 : Int)))) (Calm.int rfl rfl rfl rfl) ?_
             refine AO.c (Calm.assign rfl rfl) ?_
             refine AO.nK [0, 5, 6, 7, 15, 26] ?_
             rcases of_ite h with ⟨hc18, h⟩ | ⟨hc18, h⟩
             ·refine AW.condP _ rfl hc18 ?_
              refine AW.sK [0, 5, 6, 7, 26] ?_
              exact ⟨decide (p0 = (1 : Int)), rfl, rfl, h⟩
             ·refine AW.condN _ rfl hc18 ?_
              refine AW.reg ?_
              refine AO.c (x := eBool (decide (p0 = (10 : Int)))) (Calm.int rfl rfl rfl rfl) ?_
              refine AO.c (Calm.assign rfl rfl) ?_
              refine AO.nK [0, 5, 6, 7, 26] ?_
              exact ⟨decide (p0 = (10 : Int)), rfl, rfl, h⟩
            ·rintro _ _ ⟨b16, rfl, rfl, h⟩
             rw [op_Form_c4.eq_1] at h
             rcases of_ite h with ⟨hc17, h⟩ | ⟨hc17, h⟩
             ·refine AW.condT' _ rfl hc17 ?_
              refine AW.eK [0, 5, 6] ?_
              exact ⟨rfl, rfl, h⟩
             ·refine AW.condF' _ rfl hc17 ?_
              refine AW.sK [0, 5, 6, 7] ?_
              refine AW.eK [0, 5, 6, 7] ?_
              exact ⟨false, false, rfl, rfl, h⟩
       ·rintro _ _ ⟨rfl, rfl, h⟩
        rw [op_Form_c3.eq_1] at h
        refine AW.reg ?_
        refine AO.c (Calm.assign rfl rfl) ?_
        refine AO.nK [0, 5, 7] ?_
        exact ⟨true, rfl, rfl, h⟩
      ·rintro _ _ ⟨b11, rfl, rfl, h⟩
       rw [op_Form_c2.eq_1] at h
       refine AW.sr ?_
       refine AO.c (Calm.assign rfl rfl) ?_
       refine AO.nK [0, 5, 6, 7] ?_
       refine AW.eK [0, 5, 6, 7] ?_
       exact ⟨true, b11, rfl, rfl, h⟩
     ·rintro _ _ ⟨rfl, rfl, h⟩
      rw [op_Form_c1.eq_1] at h
      refine AW.sr ?_
      refine AO.c (Calm.assign rfl rfl) ?_
      refine AO.nK [0, 5, 6, 7] ?_
      refine AW.eK [0, 5, 6, 7] ?_
      exact ⟨false, true, rfl, rfl, h⟩
    ·rintro _ _ ⟨b7, b8, rfl, rfl, h⟩
     rw [op_Form_c0.eq_1] at h
     refine AW.sr ?_
     refine AO.c (Calm.move rfl rfl) ?_
     obtain ⟨hg9, h⟩ := of_guard h
     refine AO.c (Calm.idxP rfl rfl rfl hg9 Try.underlying94 sz9) ?_
     refine AO.c (Calm.load 0 rfl rfl rfl (At.cast (At.vidx p0 hg9.1 hg9.2 At.here) (by omega)) ag9 sz9) ?_
     refine AO.c (Calm.move rfl rfl) ?_
     refine AO.c (Calm.move rfl rfl) ?_
     obtain ⟨x10, ex10, h⟩ := of_bind h
     refine AO.c (Calm.assign rfl (congrArg (fun x => some (eStr x)) (Option.some.inj ex10))) ?_
     refine AO.c (Calm.assign rfl rfl) ?_
     refine AO.c (Calm.assign rfl rfl) ?_
     refine AO.nH [2, 3, 4] (H' := []) (Sub.nil _) ?_
     refine AW.rK [2, 3, 4] ?_
     have hr := Option.some.inj h
     subst hr
     exact ⟨[(eStr x10), (eBool b7), (eBool b8)], ⟨rfl, rfl, rfl, rfl, rfl, rfl, trivial⟩, rfl⟩
end Go.Avl.T2
/- bosket/bosketref47.Form; printed by avmain.py. -/
namespace Go.Avl.T2
open Go Go.RowKit Go.Proofs Go.Avl
set_option linter.unusedVariables false
set_option maxRecDepth 100000
set_option maxHeartbeats 4000000
attribute [local irreducible] AW AO AQ Spec SpecH Calm

def bosketref47_Form (k : Nat) (p0 : Int) : Option (ByteArray × Bool × Bool) :=
  Option.bind (α := Bool) (if p0 < (1 : Int) then some (true)
  else some (decide ((11 : Int) < p0))) fun b2 =>
  if b2 = true then some ((ByteArray.mk #[]), false, false)
  else Option.bind (α := Bool) (if (2 : Int) ≤ p0 then some (decide (p0 ≤ (9 : Int)))
  else some (false)) fun b7 =>
  Option.bind (α := Bool) (if p0 = (1 : Int) then some (true)
  else if p0 = (5 : Int) then some (true)
  else if p0 = (7 : Int) then some (true)
  else some (decide (p0 = (10 : Int)))) fun b10 =>
  if 0 ≤ p0 ∧ p0 < (([(ByteArray.mk #[]), (ByteArray.mk #[117, 115, 101]), (ByteArray.mk #[103, 114, 97, 109, 109, 97, 114]), (ByteArray.mk #[108, 101, 120]), (ByteArray.mk #[112, 97, 114, 115, 101]), (ByteArray.mk #[112, 114, 105, 110, 116]), (ByteArray.mk #[116, 105, 103, 104, 116]), (ByteArray.mk #[102, 111, 114, 109, 97, 116]), (ByteArray.mk #[110, 101, 120, 116]), (ByteArray.mk #[116, 114, 101, 101, 115]), (ByteArray.mk #[102, 101, 101, 100]), (ByteArray.mk #[116, 97, 107, 101])] : List ByteArray).length : Int) then (some (lget ([(ByteArray.mk #[]), (ByteArray.mk #[117, 115, 101]), (ByteArray.mk #[103, 114, 97, 109, 109, 97, 114]), (ByteArray.mk #[108, 101, 120]), (ByteArray.mk #[112, 97, 114, 115, 101]), (ByteArray.mk #[112, 114, 105, 110, 116]), (ByteArray.mk #[116, 105, 103, 104, 116]), (ByteArray.mk #[102, 111, 114, 109, 97, 116]), (ByteArray.mk #[110, 101, 120, 116]), (ByteArray.mk #[116, 114, 101, 101, 115]), (ByteArray.mk #[102, 101, 101, 100]), (ByteArray.mk #[116, 97, 107, 101])] : List ByteArray) p0)).bind fun x16 =>
  some (x16, b7, b10)
  else none
theorem bosketref47_Form_spec {k : Nat} {p0 : Int} {r : (ByteArray × Bool × Bool)} (h : bosketref47_Form k p0 = some r) : Spec Try.prog 41 [(eI64 p0)] (.tup [(eStr r.1), (eBool r.2.1), (eBool r.2.2)]) := by
  rw [bosketref47_Form.eq_1] at h
  refine Spec.intro (res := [.tmp 2, .tmp 3, .tmp 4]) Try.func41 rfl rfl rfl (Nat.le_of_ble_eq_true rfl) ?_
  refine AW.sr ?_
  refine AO.c (Calm.assign rfl rfl) ?_
  refine AO.c (Calm.assign rfl rfl) ?_
  refine AO.c (Calm.assign rfl rfl) ?_
  refine AO.nK [0] ?_
  refine AW.seq ?_
  refine AW.seq ?_
  obtain ⟨b2, hq3, h⟩ := of_bind h
  refine AW.regM [(0, (eI64 p0)), (13, (eBool b2))] [] ?_ ?_
  ·refine AO.c (Calm.move rfl rfl) ?_
   refine AO.c (x := eBool (decide (p0 < (1 : Int)))) (Calm.int rfl rfl rfl rfl) ?_
   refine AO.c (Calm.move rfl rfl) ?_
   rcases of_ite hq3 with ⟨hc4, hq3⟩ | ⟨hc4, hq3⟩
   ·refine AO.sF rfl rfl (bD (decide_eq_true hc4)) ?_
    refine AO.sF rfl rfl (bD (decide_eq_true hc4)) ?_
    refine AO.c (Calm.pickT rfl (bD (decide_eq_true hc4)) rfl) ?_
    cases hq3
    refine AO.nilE ⟨rfl, rfl⟩ ?_ ?_
    · exact ⟨rfl, rfl, trivial⟩
    · exact (Sub.refl _)
   ·refine AO.cG rfl rfl (bD (decide_eq_false hc4)) (Calm.move rfl rfl) ?_
    refine AO.cG (x := eBool (decide ((11 : Int) < p0))) rfl rfl (bD (decide_eq_false hc4)) (Calm.int rfl rfl rfl rfl) ?_
    refine AO.c (Calm.pickF rfl (bD (decide_eq_false hc4)) rfl) ?_
    cases hq3
    refine AO.nilE ⟨rfl, rfl⟩ ?_ ?_
    · exact ⟨rfl, rfl, trivial⟩
    · exact (Sub.refl _)
  ·rcases of_ite h with ⟨hc5, h⟩ | ⟨hc5, h⟩
   ·refine AW.condT' _ rfl hc5 ?_
    refine AW.sr ?_
    refine AO.c (Calm.assign rfl rfl) ?_
    refine AO.c (Calm.assign rfl rfl) ?_
    refine AO.c (Calm.assign rfl rfl) ?_
    refine AO.nK [2, 3, 4] ?_
    refine AW.rK [2, 3, 4] ?_
    have hr := Option.some.inj h
    subst hr
    exact ⟨[(eStr (ByteArray.mk #[])), (eBool false), (eBool false)], ⟨rfl, rfl, rfl, rfl, rfl, rfl, trivial⟩, rfl⟩
   ·refine AW.condF' _ rfl hc5 ?_
    refine AW.sK [0] ?_
    refine AW.sr ?_
    refine AO.lit (Z := (eStr ByteArray.empty)) (xs := (([(ByteArray.mk #[]), (ByteArray.mk #[117, 115, 101]), (ByteArray.mk #[103, 114, 97, 109, 109, 97, 114]), (ByteArray.mk #[108, 101, 120]), (ByteArray.mk #[112, 97, 114, 115, 101]), (ByteArray.mk #[112, 114, 105, 110, 116]), (ByteArray.mk #[116, 105, 103, 104, 116]), (ByteArray.mk #[102, 111, 114, 109, 97, 116]), (ByteArray.mk #[110, 101, 120, 116]), (ByteArray.mk #[116, 114, 101, 101, 115]), (ByteArray.mk #[102, 101, 101, 100]), (ByteArray.mk #[116, 97, 107, 101])] : List ByteArray).map eStr)) (qs := [(0, (eStr (ByteArray.mk #[]))), (1, (eStr (ByteArray.mk #[117, 115, 101]))), (2, (eStr (ByteArray.mk #[103, 114, 97, 109, 109, 97, 114]))), (3, (eStr (ByteArray.mk #[108, 101, 120]))), (4, (eStr (ByteArray.mk #[112, 97, 114, 115, 101]))), (5, (eStr (ByteArray.mk #[112, 114, 105, 110, 116]))), (6, (eStr (ByteArray.mk #[116, 105, 103, 104, 116]))), (7, (eStr (ByteArray.mk #[102, 111, 114, 109, 97, 116]))), (8, (eStr (ByteArray.mk #[110, 101, 120, 116]))), (9, (eStr (ByteArray.mk #[116, 114, 101, 101, 115]))), (10, (eStr (ByteArray.mk #[102, 101, 101, 100]))), (11, (eStr (ByteArray.mk #[116, 97, 107, 101])))]) rfl 14 rfl (by decide) rfl ⟨rfl, rfl, rfl, rfl, rfl, rfl, rfl, rfl, rfl, rfl, rfl, rfl, rfl, rfl, rfl, rfl, rfl, rfl, rfl, rfl, rfl, rfl, rfl, rfl, rfl, rfl, rfl, rfl, rfl, rfl, rfl, rfl, rfl, rfl, rfl, rfl, trivial⟩ Try.underlying45 sz9 zr9 lay9 rfl (by decide) (litOK (z := 1) [(eStr (ByteArray.mk #[])), (eStr (ByteArray.mk #[117, 115, 101])), (eStr (ByteArray.mk #[103, 114, 97, 109, 109, 97, 114])), (eStr (ByteArray.mk #[108, 101, 120])), (eStr (ByteArray.mk #[112, 97, 114, 115, 101])), (eStr (ByteArray.mk #[112, 114, 105, 110, 116])), (eStr (ByteArray.mk #[116, 105, 103, 104, 116])), (eStr (ByteArray.mk #[102, 111, 114, 109, 97, 116])), (eStr (ByteArray.mk #[110, 101, 120, 116])), (eStr (ByteArray.mk #[116, 114, 101, 101, 115])), (eStr (ByteArray.mk #[102, 101, 101, 100])), (eStr (ByteArray.mk #[116, 97, 107, 101]))] rfl ⟨⟨rfl, rfl⟩, ⟨rfl, rfl⟩, ⟨rfl, rfl⟩, ⟨rfl, rfl⟩, ⟨rfl, rfl⟩, ⟨rfl, rfl⟩, ⟨rfl, rfl⟩, ⟨rfl, rfl⟩, ⟨rfl, rfl⟩, ⟨rfl, rfl⟩, ⟨rfl, rfl⟩, ⟨rfl, rfl⟩, trivial⟩) rfl fun n6 => ?_
    refine AO.c (Calm.assign rfl rfl) ?_
    refine AO.nK [0, 5] ?_
    refine AW.seq ?_
    obtain ⟨b7, hq8, h⟩ := of_bind h
    refine AW.regM [(0, (eI64 p0)), (5, (.own n6 0 ([(ByteArray.mk #[]), (ByteArray.mk #[117, 115, 101]), (ByteArray.mk #[103, 114, 97, 109, 109, 97, 114]), (ByteArray.mk #[108, 101, 120]), (ByteArray.mk #[112, 97, 114, 115, 101]), (ByteArray.mk #[112, 114, 105, 110, 116]), (ByteArray.mk #[116, 105, 103, 104, 116]), (ByteArray.mk #[102, 111, 114, 109, 97, 116]), (ByteArray.mk #[110, 101, 120, 116]), (ByteArray.mk #[116, 114, 101, 101, 115]), (ByteArray.mk #[102, 101, 101, 100]), (ByteArray.mk #[116, 97, 107, 101])] : List ByteArray).length)), (6, (eBool b7))] [(n6, (.mem (.ar 1 (([(ByteArray.mk #[]), (ByteArray.mk #[117, 115, 101]), (ByteArray.mk #[103, 114, 97, 109, 109, 97, 114]), (ByteArray.mk #[108, 101, 120]), (ByteArray.mk #[112, 97, 114, 115, 101]), (ByteArray.mk #[112, 114, 105, 110, 116]), (ByteArray.mk #[116, 105, 103, 104, 116]), (ByteArray.mk #[102, 111, 114, 109, 97, 116]), (ByteArray.mk #[110, 101, 120, 116]), (ByteArray.mk #[116, 114, 101, 101, 115]), (ByteArray.mk #[102, 101, 101, 100]), (ByteArray.mk #[116, 97, 107, 101])] : List ByteArray).map eStr))))] ?_ ?_
    ·refine AO.c (Calm.move rfl rfl) ?_
     refine AO.c (x := eBool (decide ((2 : Int) ≤ p0))) (Calm.int rfl rfl rfl rfl) ?_
     refine AO.c (Calm.move rfl rfl) ?_
     rcases of_ite hq8 with ⟨hc9, hq8⟩ | ⟨hc9, hq8⟩
     ·refine AO.cG rfl rfl (bD (decide_eq_true hc9)) (Calm.move rfl rfl) ?_
      refine AO.cG (x := eBool (decide (p0 ≤ (9 : Int)))) rfl rfl (bD (decide_eq_true hc9)) (Calm.int rfl rfl rfl rfl) ?_
      refine AO.c (Calm.pickT rfl (bD (decide_eq_true hc9)) rfl) ?_
      refine AO.c (Calm.assign rfl rfl) ?_
      cases hq8
      refine AO.nilE ⟨rfl, rfl⟩ ?_ ?_
      · exact ⟨rfl, rfl, rfl, trivial⟩
      · exact (Sub.refl _)
     ·refine AO.sT rfl rfl (bD (decide_eq_false hc9)) ?_
      refine AO.sT rfl rfl (bD (decide_eq_false hc9)) ?_
      refine AO.c (Calm.pickF rfl (bD (decide_eq_false hc9)) rfl) ?_
      refine AO.c (Calm.assign rfl rfl) ?_
      cases hq8
      refine AO.nilE ⟨rfl, rfl⟩ ?_ ?_
      · exact ⟨rfl, rfl, rfl, trivial⟩
      · exact (Sub.refl _)
    ·refine AW.seq ?_
     obtain ⟨b10, hq11, h⟩ := of_bind h
     refine AW.regM [(0, (eI64 p0)), (5, (.own n6 0 ([(ByteArray.mk #[]), (ByteArray.mk #[117, 115, 101]), (ByteArray.mk #[103, 114, 97, 109, 109, 97, 114]), (ByteArray.mk #[108, 101, 120]), (ByteArray.mk #[112, 97, 114, 115, 101]), (ByteArray.mk #[112, 114, 105, 110, 116]), (ByteArray.mk #[116, 105, 103, 104, 116]), (ByteArray.mk #[102, 111, 114, 109, 97, 116]), (ByteArray.mk #[110, 101, 120, 116]), (ByteArray.mk #[116, 114, 101, 101, 115]), (ByteArray.mk #[102, 101, 101, 100]), (ByteArray.mk #[116, 97, 107, 101])] : List ByteArray).length)), (6, (eBool b7)), (7, (eBool b10))] [(n6, (.mem (.ar 1 (([(ByteArray.mk #[]), (ByteArray.mk #[117, 115, 101]), (ByteArray.mk #[103, 114, 97, 109, 109, 97, 114]), (ByteArray.mk #[108, 101, 120]), (ByteArray.mk #[112, 97, 114, 115, 101]), (ByteArray.mk #[112, 114, 105, 110, 116]), (ByteArray.mk #[116, 105, 103, 104, 116]), (ByteArray.mk #[102, 111, 114, 109, 97, 116]), (ByteArray.mk #[110, 101, 120, 116]), (ByteArray.mk #[116, 114, 101, 101, 115]), (ByteArray.mk #[102, 101, 101, 100]), (ByteArray.mk #[116, 97, 107, 101])] : List ByteArray).map eStr))))] ?_ ?_
     ·refine AO.c (Calm.move rfl rfl) ?_
      refine AO.c (x := eBool (decide (p0 = (1 : Int)))) (Calm.int rfl rfl rfl rfl) ?_
      refine AO.c (Calm.move rfl rfl) ?_
      rcases of_ite hq11 with ⟨hc12, hq11⟩ | ⟨hc12, hq11⟩
      ·refine AO.sF rfl rfl (bD (decide_eq_true hc12)) ?_
       refine AO.sF rfl rfl (bD (decide_eq_true hc12)) ?_
       refine AO.c (Calm.pickT rfl (bD (decide_eq_true hc12)) rfl) ?_
       refine AO.c (Calm.move rfl rfl) ?_
       refine AO.sF rfl rfl rfl ?_
       refine AO.sF rfl rfl rfl ?_
       refine AO.c (Calm.pickT rfl rfl rfl) ?_
       refine AO.c (Calm.move rfl rfl) ?_
       refine AO.sF rfl rfl rfl ?_
       refine AO.sF rfl rfl rfl ?_
       refine AO.c (Calm.pickT rfl rfl rfl) ?_
       refine AO.c (Calm.assign rfl rfl) ?_
       cases hq11
       refine AO.nilE ⟨rfl, rfl⟩ ?_ ?_
       · exact ⟨rfl, rfl, rfl, rfl, trivial⟩
       · exact (Sub.refl _)
      ·refine AO.cG rfl rfl (bD (decide_eq_false hc12)) (Calm.move rfl rfl) ?_
       refine AO.cG (x := eBool (decide (p0 = (5 : Int)))) rfl rfl (bD (decide_eq_false hc12)) (Calm.int rfl rfl rfl rfl) ?_
       refine AO.c (Calm.pickF rfl (bD (decide_eq_false hc12)) rfl) ?_
       refine AO.c (Calm.move rfl rfl) ?_
       rcases of_ite hq11 with ⟨hc13, hq11⟩ | ⟨hc13, hq11⟩
       ·refine AO.sF rfl rfl (bD (decide_eq_true hc13)) ?_
        refine AO.sF rfl rfl (bD (decide_eq_true hc13)) ?_
        refine AO.c (Calm.pickT rfl (bD (decide_eq_true hc13)) rfl) ?_
        refine AO.c (Calm.move rfl rfl) ?_
        refine AO.sF rfl rfl rfl ?_
        refine AO.sF rfl rfl rfl ?_
        refine AO.c (Calm.pickT rfl rfl rfl) ?_
        refine AO.c (Calm.assign rfl rfl) ?_
        cases hq11
        refine AO.nilE ⟨rfl, rfl⟩ ?_ ?_
        · exact ⟨rfl, rfl, rfl, rfl, trivial⟩
        · exact (Sub.refl _)
       ·refine AO.cG rfl rfl (bD (decide_eq_false hc13)) (Calm.move rfl rfl) ?_
        refine AO.cG (x := eBool (decide (p0 = (7 : Int)))) rfl rfl (bD (decide_eq_false hc13)) (Calm.int rfl rfl rfl rfl) ?_
        refine AO.c (Calm.pickF rfl (bD (decide_eq_false hc13)) rfl) ?_
        refine AO.c (Calm.move rfl rfl) ?_
        rcases of_ite hq11 with ⟨hc14, hq11⟩ | ⟨hc14, hq11⟩
        ·refine AO.sF rfl rfl (bD (decide_eq_true hc14)) ?_
         refine AO.sF rfl rfl (bD (decide_eq_true hc14)) ?_
         refine AO.c (Calm.pickT rfl (bD (decide_eq_true hc14)) rfl) ?_
         refine AO.c (Calm.assign rfl rfl) ?_
         cases hq11
         refine AO.nilE ⟨rfl, rfl⟩ ?_ ?_
         · exact ⟨rfl, rfl, rfl, rfl, trivial⟩
         · exact (Sub.refl _)
        ·refine AO.cG rfl rfl (bD (decide_eq_false hc14)) (Calm.move rfl rfl) ?_
         refine AO.cG (x := eBool (decide (p0 = (10 : Int)))) rfl rfl (bD (decide_eq_false hc14)) (Calm.int rfl rfl rfl rfl) ?_
         refine AO.c (Calm.pickF rfl (bD (decide_eq_false hc14)) rfl) ?_
         refine AO.c (Calm.assign rfl rfl) ?_
         cases hq11
         refine AO.nilE ⟨rfl, rfl⟩ ?_ ?_
         · exact ⟨rfl, rfl, rfl, rfl, trivial⟩
         · exact (Sub.refl _)
     ·refine AW.sr ?_
      refine AO.c (Calm.move rfl rfl) ?_
      refine AO.c (Calm.move rfl rfl) ?_
      obtain ⟨hg15, h⟩ := of_guard h
      refine AO.c (Calm.idxO 0 rfl rfl rfl rfl hg15 Try.underlying45 sz9) ?_
      refine AO.c (Calm.load 0 rfl rfl rfl (At.cast (At.lidx p0 hg15.1 hg15.2 At.here) (by omega)) ag9 sz9) ?_
      refine AO.c (Calm.move rfl rfl) ?_
      refine AO.c (Calm.move rfl rfl) ?_
      obtain ⟨x16, ex16, h⟩ := of_bind h
      refine AO.c (Calm.assign rfl (congrArg (fun x => some (eStr x)) (Option.some.inj ex16))) ?_
      refine AO.c (Calm.assign rfl rfl) ?_
      refine AO.c (Calm.assign rfl rfl) ?_
      refine AO.nH [2, 3, 4] (H' := []) (Sub.nil _) ?_
      refine AW.rK [2, 3, 4] ?_
      have hr := Option.some.inj h
      subst hr
      exact ⟨[(eStr x16), (eBool b7), (eBool b10)], ⟨rfl, rfl, rfl, rfl, rfl, rfl, trivial⟩, rfl⟩
end Go.Avl.T2
/- (bosket/op.Op).Right; printed by avmain.py. -/
namespace Go.Avl.T2
open Go Go.RowKit Go.Proofs Go.Avl
set_option linter.unusedVariables false
set_option maxRecDepth 100000
set_option maxHeartbeats 4000000
attribute [local irreducible] AW AO AQ Spec SpecH Calm

def _op_Op_Right (k : Nat) (p0 : S55) : Option Bool :=
  (op_Form k p0.f0).bind fun t3 =>
  Option.bind (α := Bool) (if t3.1 ≠ (ByteArray.mk #[]) then if t3.2.1 = true then if t3.2.2 = true then some (decide ((p0.f2.size : Int) ≤ (65536 : Int)))
  else if p0.f1 = (0 : Int) then some (decide ((p0.f2.size : Int) ≤ (65536 : Int)))
  else some (false)
  else if p0.f2 = (ByteArray.mk #[]) then if t3.2.2 = true then some (decide ((p0.f2.size : Int) ≤ (65536 : Int)))
  else if p0.f1 = (0 : Int) then some (decide ((p0.f2.size : Int) ≤ (65536 : Int)))
  else some (false)
  else some (false)
  else some (false)) fun b4 =>
  some (b4)
theorem _op_Op_Right_spec {k : Nat} {p0 : S55} {r : Bool} (h : _op_Op_Right k p0 = some r) : Spec Try.prog 43 [(e55 p0)] (eBool r) := by
  rw [_op_Op_Right.eq_1] at h
  refine Spec.intro (res := [.tmp 2]) Try.func43 rfl rfl rfl (Nat.le_of_ble_eq_true rfl) ?_
  refine AW.sr ?_
  refine AO.box rfl 1 rfl (by decide) rfl rfl rfl fun n2 => ?_
  refine AO.c (Calm.assign rfl rfl) ?_
  refine AO.nK [1] ?_
  refine AW.sr ?_
  refine AO.c (x := .ptr n2 0) (Calm.fldPtr rfl rfl Try.underlying55 rfl sz3 _ rfl) ?_
  refine AO.c (Calm.load 0 rfl rfl rfl (At.cast (At.fld0 At.here) rfl) ag3 sz3) ?_
  obtain ⟨t3, et3, h⟩ := of_bind h
  refine AO.callS [(eI64 p0.f0)] (.tup [(eStr t3.1), (eBool t3.2.1), (eBool t3.2.2)]) 9 rfl (by decide) ok40 rfl rfl rfl ⟨rfl, rfl, trivial⟩ (op_Form_spec et3) ?_
  refine AO.c (Calm.move rfl rfl) ?_
  refine AO.c (Calm.extract rfl rfl rfl) ?_
  refine AO.c (Calm.extract rfl rfl rfl) ?_
  refine AO.c (Calm.extract rfl rfl rfl) ?_
  refine AO.c (Calm.assign rfl rfl) ?_
  refine AO.c (Calm.assign rfl rfl) ?_
  refine AO.c (Calm.assign rfl rfl) ?_
  refine AO.nK [1, 3, 4, 5] ?_
  refine AW.seq ?_
  obtain ⟨b4, hq5, h⟩ := of_bind h
  refine AW.regM [(2, (eBool b4))] [] ?_ ?_
  ·refine AO.c (Calm.move rfl rfl) ?_
   refine AO.c (x := eBool (decide (t3.1 ≠ (ByteArray.mk #[])))) (Calm.str rfl rfl rfl rfl) ?_
   refine AO.c (Calm.move rfl rfl) ?_
   rcases of_ite hq5 with ⟨hc6, hq5⟩ | ⟨hc6, hq5⟩
   ·refine AO.cG rfl rfl (bD (decide_eq_true hc6)) (Calm.move rfl rfl) ?_
    refine AO.cG rfl rfl (bD (decide_eq_true hc6)) (Calm.move rfl rfl) ?_
    rcases of_ite hq5 with ⟨hc7, hq5⟩ | ⟨hc7, hq5⟩
    ·refine AO.sF rfl rfl (bD hc7) ?_
     refine AO.sF rfl rfl (bD hc7) ?_
     refine AO.sF rfl rfl (bD hc7) ?_
     refine AO.cG rfl rfl (bD (decide_eq_true hc6)) (Calm.pickT rfl (bD hc7) rfl) ?_
     refine AO.c (Calm.pickT rfl (bD (decide_eq_true hc6)) rfl) ?_
     refine AO.c (Calm.move rfl rfl) ?_
     refine AO.cG rfl rfl rfl (Calm.move rfl rfl) ?_
     refine AO.cG rfl rfl rfl (Calm.move rfl rfl) ?_
     rcases of_ite hq5 with ⟨hc8, hq5⟩ | ⟨hc8, hq5⟩
     ·refine AO.sF rfl rfl (bD hc8) ?_
      refine AO.sF rfl rfl (bD hc8) ?_
      refine AO.sF rfl rfl (bD hc8) ?_
      refine AO.cG rfl rfl rfl (Calm.pickT rfl (bD hc8) rfl) ?_
      refine AO.c (Calm.pickT rfl rfl rfl) ?_
      refine AO.c (Calm.move rfl rfl) ?_
      refine AO.cG (x := .ptr n2 2) rfl rfl rfl (Calm.fldPtr rfl rfl Try.underlying55 rfl sz9 _ rfl) ?_
      refine AO.cG rfl rfl rfl (Calm.load 0 rfl rfl rfl (At.cast (At.fldS (At.fldS (At.fld0 At.here))) rfl) ag9 sz9) ?_
      refine AO.cG rfl rfl rfl (Calm.lenStr rfl rfl Try.underlying9) ?_
      refine AO.cG (x := eBool (decide ((p0.f2.size : Int) ≤ (65536 : Int)))) rfl rfl rfl (Calm.int rfl rfl rfl rfl) ?_
      refine AO.c (Calm.pickT rfl rfl rfl) ?_
      refine AO.c (Calm.assign rfl rfl) ?_
      cases hq5
      refine AO.nilE ⟨rfl, rfl⟩ ?_ ?_
      · exact ⟨rfl, trivial⟩
      · exact (Sub.nil _)
     ·refine AO.cG (x := .ptr n2 1) rfl rfl (bD (eq_false_of_ne_true hc8)) (Calm.fldPtr rfl rfl Try.underlying55 rfl sz3 _ rfl) ?_
      refine AO.cG rfl rfl (bD (eq_false_of_ne_true hc8)) (Calm.load 0 rfl rfl rfl (At.cast (At.fldS (At.fld0 At.here)) rfl) ag3 sz3) ?_
      refine AO.cG (x := eBool (decide (p0.f1 = (0 : Int)))) rfl rfl (bD (eq_false_of_ne_true hc8)) (Calm.int rfl rfl rfl rfl) ?_
      refine AO.cG rfl rfl rfl (Calm.pickF rfl (bD (eq_false_of_ne_true hc8)) rfl) ?_
      refine AO.c (Calm.pickT rfl rfl rfl) ?_
      refine AO.c (Calm.move rfl rfl) ?_
      rcases of_ite hq5 with ⟨hc9, hq5⟩ | ⟨hc9, hq5⟩
      ·refine AO.cG (x := .ptr n2 2) rfl rfl (bD (decide_eq_true hc9)) (Calm.fldPtr rfl rfl Try.underlying55 rfl sz9 _ rfl) ?_
       refine AO.cG rfl rfl (bD (decide_eq_true hc9)) (Calm.load 0 rfl rfl rfl (At.cast (At.fldS (At.fldS (At.fld0 At.here))) rfl) ag9 sz9) ?_
       refine AO.cG rfl rfl (bD (decide_eq_true hc9)) (Calm.lenStr rfl rfl Try.underlying9) ?_
       refine AO.cG (x := eBool (decide ((p0.f2.size : Int) ≤ (65536 : Int)))) rfl rfl (bD (decide_eq_true hc9)) (Calm.int rfl rfl rfl rfl) ?_
       refine AO.c (Calm.pickT rfl (bD (decide_eq_true hc9)) rfl) ?_
       refine AO.c (Calm.assign rfl rfl) ?_
       cases hq5
       refine AO.nilE ⟨rfl, rfl⟩ ?_ ?_
       · exact ⟨rfl, trivial⟩
       · exact (Sub.nil _)
      ·refine AO.sT rfl rfl (bD (decide_eq_false hc9)) ?_
       refine AO.sT rfl rfl (bD (decide_eq_false hc9)) ?_
       refine AO.sT rfl rfl (bD (decide_eq_false hc9)) ?_
       refine AO.sT rfl rfl (bD (decide_eq_false hc9)) ?_
       refine AO.c (Calm.pickF rfl (bD (decide_eq_false hc9)) rfl) ?_
       refine AO.c (Calm.assign rfl rfl) ?_
       cases hq5
       refine AO.nilE ⟨rfl, rfl⟩ ?_ ?_
       · exact ⟨rfl, trivial⟩
       · exact (Sub.nil _)
    ·refine AO.cG (x := .ptr n2 2) rfl rfl (bD (eq_false_of_ne_true hc7)) (Calm.fldPtr rfl rfl Try.underlying55 rfl sz9 _ rfl) ?_
     refine AO.cG rfl rfl (bD (eq_false_of_ne_true hc7)) (Calm.load 0 rfl rfl rfl (At.cast (At.fldS (At.fldS (At.fld0 At.here))) rfl) ag9 sz9) ?_
     refine AO.cG (x := eBool (decide (p0.f2 = (ByteArray.mk #[])))) rfl rfl (bD (eq_false_of_ne_true hc7)) (Calm.str rfl rfl rfl rfl) ?_
     refine AO.cG rfl rfl (bD (decide_eq_true hc6)) (Calm.pickF rfl (bD (eq_false_of_ne_true hc7)) rfl) ?_
     refine AO.c (Calm.pickT rfl (bD (decide_eq_true hc6)) rfl) ?_
     refine AO.c (Calm.move rfl rfl) ?_
     rcases of_ite hq5 with ⟨hc10, hq5⟩ | ⟨hc10, hq5⟩
     ·refine AO.cG rfl rfl (bD (decide_eq_true hc10)) (Calm.move rfl rfl) ?_
      refine AO.cG rfl rfl (bD (decide_eq_true hc10)) (Calm.move rfl rfl) ?_
      rcases of_ite hq5 with ⟨hc11, hq5⟩ | ⟨hc11, hq5⟩
      ·refine AO.sF rfl rfl (bD hc11) ?_
       refine AO.sF rfl rfl (bD hc11) ?_
       refine AO.sF rfl rfl (bD hc11) ?_
       refine AO.cG rfl rfl (bD (decide_eq_true hc10)) (Calm.pickT rfl (bD hc11) rfl) ?_
       refine AO.c (Calm.pickT rfl (bD (decide_eq_true hc10)) rfl) ?_
       refine AO.c (Calm.move rfl rfl) ?_
       refine AO.cG (x := .ptr n2 2) rfl rfl rfl (Calm.fldPtr rfl rfl Try.underlying55 rfl sz9 _ rfl) ?_
       refine AO.cG rfl rfl rfl (Calm.load 0 rfl rfl rfl (At.cast (At.fldS (At.fldS (At.fld0 At.here))) rfl) ag9 sz9) ?_
       refine AO.cG rfl rfl rfl (Calm.lenStr rfl rfl Try.underlying9) ?_
       refine AO.cG (x := eBool (decide ((p0.f2.size : Int) ≤ (65536 : Int)))) rfl rfl rfl (Calm.int rfl rfl rfl rfl) ?_
       refine AO.c (Calm.pickT rfl rfl rfl) ?_
       refine AO.c (Calm.assign rfl rfl) ?_
       cases hq5
       refine AO.nilE ⟨rfl, rfl⟩ ?_ ?_
       · exact ⟨rfl, trivial⟩
       · exact (Sub.nil _)
      ·refine AO.cG (x := .ptr n2 1) rfl rfl (bD (eq_false_of_ne_true hc11)) (Calm.fldPtr rfl rfl Try.underlying55 rfl sz3 _ rfl) ?_
       refine AO.cG rfl rfl (bD (eq_false_of_ne_true hc11)) (Calm.load 0 rfl rfl rfl (At.cast (At.fldS (At.fld0 At.here)) rfl) ag3 sz3) ?_
       refine AO.cG (x := eBool (decide (p0.f1 = (0 : Int)))) rfl rfl (bD (eq_false_of_ne_true hc11)) (Calm.int rfl rfl rfl rfl) ?_
       refine AO.cG rfl rfl (bD (decide_eq_true hc10)) (Calm.pickF rfl (bD (eq_false_of_ne_true hc11)) rfl) ?_
       refine AO.c (Calm.pickT rfl (bD (decide_eq_true hc10)) rfl) ?_
       refine AO.c (Calm.move rfl rfl) ?_
       rcases of_ite hq5 with ⟨hc12, hq5⟩ | ⟨hc12, hq5⟩
       ·refine AO.cG (x := .ptr n2 2) rfl rfl (bD (decide_eq_true hc12)) (Calm.fldPtr rfl rfl Try.underlying55 rfl sz9 _ rfl) ?_
        refine AO.cG rfl rfl (bD (decide_eq_true hc12)) (Calm.load 0 rfl rfl rfl (At.cast (At.fldS (At.fldS (At.fld0 At.here))) rfl) ag9 sz9) ?_
        refine AO.cG rfl rfl (bD (decide_eq_true hc12)) (Calm.lenStr rfl rfl Try.underlying9) ?_
        refine AO.cG (x := eBool (decide ((p0.f2.size : Int) ≤ (65536 : Int)))) rfl rfl (bD (decide_eq_true hc12)) (Calm.int rfl rfl rfl rfl) ?_
        refine AO.c (Calm.pickT rfl (bD (decide_eq_true hc12)) rfl) ?_
        refine AO.c (Calm.assign rfl rfl) ?_
        cases hq5
        refine AO.nilE ⟨rfl, rfl⟩ ?_ ?_
        · exact ⟨rfl, trivial⟩
        · exact (Sub.nil _)
       ·refine AO.sT rfl rfl (bD (decide_eq_false hc12)) ?_
        refine AO.sT rfl rfl (bD (decide_eq_false hc12)) ?_
        refine AO.sT rfl rfl (bD (decide_eq_false hc12)) ?_
        refine AO.sT rfl rfl (bD (decide_eq_false hc12)) ?_
        refine AO.c (Calm.pickF rfl (bD (decide_eq_false hc12)) rfl) ?_
        refine AO.c (Calm.assign rfl rfl) ?_
        cases hq5
        refine AO.nilE ⟨rfl, rfl⟩ ?_ ?_
        · exact ⟨rfl, trivial⟩
        · exact (Sub.nil _)
     ·refine AO.sT rfl rfl (bD (decide_eq_false hc10)) ?_
      refine AO.sT rfl rfl (bD (decide_eq_false hc10)) ?_
      refine AO.sU rfl rfl rfl ?_
      refine AO.sU rfl rfl rfl ?_
      refine AO.sU rfl rfl rfl ?_
      refine AO.sT rfl rfl (bD (decide_eq_false hc10)) ?_
      refine AO.c (Calm.pickF rfl (bD (decide_eq_false hc10)) rfl) ?_
      refine AO.c (Calm.move rfl rfl) ?_
      refine AO.sT rfl rfl rfl ?_
      refine AO.sT rfl rfl rfl ?_
      refine AO.sT rfl rfl rfl ?_
      refine AO.sT rfl rfl rfl ?_
      refine AO.c (Calm.pickF rfl rfl rfl) ?_
      refine AO.c (Calm.assign rfl rfl) ?_
      cases hq5
      refine AO.nilE ⟨rfl, rfl⟩ ?_ ?_
      · exact ⟨rfl, trivial⟩
      · exact (Sub.nil _)
   ·refine AO.sT rfl rfl (bD (decide_eq_false hc6)) ?_
    refine AO.sT rfl rfl (bD (decide_eq_false hc6)) ?_
    refine AO.sU rfl rfl rfl ?_
    refine AO.sU rfl rfl rfl ?_
    refine AO.sU rfl rfl rfl ?_
    refine AO.sT rfl rfl (bD (decide_eq_false hc6)) ?_
    refine AO.c (Calm.pickF rfl (bD (decide_eq_false hc6)) rfl) ?_
    refine AO.c (Calm.move rfl rfl) ?_
    refine AO.sT rfl rfl rfl ?_
    refine AO.sT rfl rfl rfl ?_
    refine AO.sU rfl rfl rfl ?_
    refine AO.sU rfl rfl rfl ?_
    refine AO.sU rfl rfl rfl ?_
    refine AO.sT rfl rfl rfl ?_
    refine AO.c (Calm.pickF rfl rfl rfl) ?_
    refine AO.c (Calm.move rfl rfl) ?_
    refine AO.sT rfl rfl rfl ?_
    refine AO.sT rfl rfl rfl ?_
    refine AO.sT rfl rfl rfl ?_
    refine AO.sT rfl rfl rfl ?_
    refine AO.c (Calm.pickF rfl rfl rfl) ?_
    refine AO.c (Calm.assign rfl rfl) ?_
    cases hq5
    refine AO.nilE ⟨rfl, rfl⟩ ?_ ?_
    · exact ⟨rfl, trivial⟩
    · exact (Sub.nil _)
  ·refine AW.rK [2] ?_
   have hr := Option.some.inj h
   subst hr
   exact ⟨[(eBool b4)], ⟨rfl, rfl, trivial⟩, rfl⟩
end Go.Avl.T2
/- (bosket/op.Op).Line; printed by avmain.py. -/
namespace Go.Avl.T2
open Go Go.RowKit Go.Proofs Go.Avl
set_option linter.unusedVariables false
set_option maxRecDepth 100000
set_option maxHeartbeats 4000000
attribute [local irreducible] AW AO AQ Spec SpecH Calm

def _op_Op_Line_c0 (k : Nat) (x7 : ByteArray) : Option ByteArray :=
  some (x7)
def _op_Op_Line_c1 (k : Nat) (p0 : S55) (t5 : (ByteArray × Bool × Bool)) (x6 : ByteArray) : Option ByteArray :=
  if t5.2.2 = true then (spot_Digits k p0.f1).bind fun t9 =>
  if (ByteArray.mk #[32]).size + t9.size ≤ 9223372036854775807 then if x6.size + ((ByteArray.mk #[32]) ++ t9).size ≤ 9223372036854775807 then _op_Op_Line_c0 k (x6 ++ ((ByteArray.mk #[32]) ++ t9))
  else none
  else none
  else _op_Op_Line_c0 k x6
def _op_Op_Line (k : Nat) (p0 : S55) : Option ByteArray :=
  (_op_Op_Right k p0).bind fun t3 =>
  if (!t3) = true then some ((ByteArray.mk #[]))
  else (op_Form k p0.f0).bind fun t5 =>
  if t5.2.1 = true then (escape_Quote k p0.f2 (34 : Int)).bind fun t13 =>
  if (ByteArray.mk #[32]).size + t13.size ≤ 9223372036854775807 then if t5.1.size + ((ByteArray.mk #[32]) ++ t13).size ≤ 9223372036854775807 then _op_Op_Line_c1 k p0 t5 (t5.1 ++ ((ByteArray.mk #[32]) ++ t13))
  else none
  else none
  else _op_Op_Line_c1 k p0 t5 t5.1
theorem _op_Op_Line_spec {k : Nat} {p0 : S55} {r : ByteArray} (h : _op_Op_Line k p0 = some r) : Spec Try.prog 42 [(e55 p0)] (eStr r) := by
  rw [_op_Op_Line.eq_1] at h
  refine Spec.intro (res := [.tmp 2]) Try.func42 rfl rfl rfl (Nat.le_of_ble_eq_true rfl) ?_
  refine AW.sr ?_
  refine AO.box rfl 1 rfl (by decide) rfl rfl rfl fun n2 => ?_
  refine AO.c (Calm.assign rfl rfl) ?_
  refine AO.nK [1] ?_
  refine AW.seq ?_
  refine AW.sr ?_
  refine AO.c (Calm.load 0 rfl rfl rfl (At.cast At.here rfl) ag55 sz55) ?_
  obtain ⟨t3, et3, h⟩ := of_bind h
  refine AO.callS [(e55 p0)] (eBool t3) 7 rfl (by decide) ok43 rfl rfl rfl ⟨rfl, rfl, trivial⟩ (_op_Op_Right_spec et3) ?_
  refine AO.c (Calm.not rfl rfl) ?_
  refine AO.nK [1, 8] ?_
  rcases of_ite h with ⟨hc4, h⟩ | ⟨hc4, h⟩
  ·refine AW.condT' _ rfl hc4 ?_
   refine AW.sr ?_
   refine AO.c (Calm.assign rfl rfl) ?_
   refine AO.nH [2] (H' := []) (Sub.nil _) ?_
   refine AW.rK [2] ?_
   have hr := Option.some.inj h
   subst hr
   exact ⟨[(eStr (ByteArray.mk #[]))], ⟨rfl, rfl, trivial⟩, rfl⟩
  ·refine AW.condF' _ rfl hc4 ?_
   refine AW.sK [1] ?_
   refine AW.sr ?_
   refine AO.c (x := .ptr n2 0) (Calm.fldPtr rfl rfl Try.underlying55 rfl sz3 _ rfl) ?_
   refine AO.c (Calm.load 0 rfl rfl rfl (At.cast (At.fld0 At.here) rfl) ag3 sz3) ?_
   obtain ⟨t5, et5, h⟩ := of_bind h
   refine AO.callS [(eI64 p0.f0)] (.tup [(eStr t5.1), (eBool t5.2.1), (eBool t5.2.2)]) 12 rfl (by decide) ok40 rfl rfl rfl ⟨rfl, rfl, trivial⟩ (op_Form_spec et5) ?_
   refine AO.c (Calm.move rfl rfl) ?_
   refine AO.c (Calm.extract rfl rfl rfl) ?_
   refine AO.c (Calm.extract rfl rfl rfl) ?_
   refine AO.c (Calm.extract rfl rfl rfl) ?_
   refine AO.c (Calm.assign rfl rfl) ?_
   refine AO.c (Calm.assign rfl rfl) ?_
   refine AO.c (Calm.assign rfl rfl) ?_
   refine AO.nK [1, 3, 4, 5] ?_
   refine AW.seq_mid (fun ρ H => ∃ (x6 : ByteArray), ρ = [(1, (.ptr n2 0)), (3, (eStr x6)), (5, (eBool t5.2.2))] ∧ H = [(n2, (.mem (e55 p0)))] ∧ _op_Op_Line_c1 k p0 t5 x6 = some r) ?_ ?_
   ·refine AW.sr ?_
    refine AO.c (Calm.move rfl rfl) ?_
    refine AO.nK [1, 3, 5, 16] ?_
    rcases of_ite h with ⟨hc12, h⟩ | ⟨hc12, h⟩
    ·refine AW.condT' _ rfl hc12 ?_
     refine AW.reg ?_
     refine AO.c (Calm.move rfl rfl) ?_
     refine AO.c (x := .ptr n2 2) (Calm.fldPtr rfl rfl Try.underlying55 rfl sz9 _ rfl) ?_
     refine AO.c (Calm.load 0 rfl rfl rfl (At.cast (At.fldS (At.fldS (At.fld0 At.here))) rfl) ag9 sz9) ?_
     obtain ⟨t13, et13, h⟩ := of_bind h
     refine AO.callS [(eStr p0.f2), (eU8 (34 : Int))] (eStr t13) 20 rfl (by decide) ok60 rfl rfl rfl ⟨rfl, rfl, rfl, rfl, trivial⟩ (escape_Quote_spec et13) ?_
     obtain ⟨hg14, h⟩ := of_guard h
     refine AO.c (x := eStr ((ByteArray.mk #[32]) ++ t13)) (Calm.cat rfl rfl rfl hg14) ?_
     obtain ⟨hg15, h⟩ := of_guard h
     refine AO.c (x := eStr (t5.1 ++ ((ByteArray.mk #[32]) ++ t13))) (Calm.cat rfl rfl rfl hg15) ?_
     refine AO.c (Calm.assign rfl rfl) ?_
     refine AO.nK [1, 3, 5] ?_
     exact ⟨(t5.1 ++ ((ByteArray.mk #[32]) ++ t13)), rfl, rfl, h⟩
    ·refine AW.condF' _ rfl hc12 ?_
     refine AW.sK [1, 3, 5] ?_
     exact ⟨t5.1, rfl, rfl, h⟩
   ·rintro _ _ ⟨x6, rfl, rfl, h⟩
    rw [_op_Op_Line_c1.eq_1] at h
    refine AW.seq_mid (fun ρ H => ∃ (x7 : ByteArray), ρ = [(3, (eStr x7))] ∧ H = [] ∧ _op_Op_Line_c0 k x7 = some r) ?_ ?_
    ·refine AW.sr ?_
     refine AO.c (Calm.move rfl rfl) ?_
     refine AO.nK [1, 3, 23] ?_
     rcases of_ite h with ⟨hc8, h⟩ | ⟨hc8, h⟩
     ·refine AW.condT' _ rfl hc8 ?_
      refine AW.reg ?_
      refine AO.c (Calm.move rfl rfl) ?_
      refine AO.c (x := .ptr n2 1) (Calm.fldPtr rfl rfl Try.underlying55 rfl sz3 _ rfl) ?_
      refine AO.c (Calm.load 0 rfl rfl rfl (At.cast (At.fldS (At.fld0 At.here)) rfl) ag3 sz3) ?_
      obtain ⟨t9, et9, h⟩ := of_bind h
      refine AO.callS [(eI64 p0.f1)] (eStr t9) 27 rfl (by decide) ok18 rfl rfl rfl ⟨rfl, rfl, trivial⟩ (spot_Digits_spec et9) ?_
      obtain ⟨hg10, h⟩ := of_guard h
      refine AO.c (x := eStr ((ByteArray.mk #[32]) ++ t9)) (Calm.cat rfl rfl rfl hg10) ?_
      obtain ⟨hg11, h⟩ := of_guard h
      refine AO.c (x := eStr (x6 ++ ((ByteArray.mk #[32]) ++ t9))) (Calm.cat rfl rfl rfl hg11) ?_
      refine AO.c (Calm.assign rfl rfl) ?_
      refine AO.nH [3] (H' := []) (Sub.nil _) ?_
      exact ⟨(x6 ++ ((ByteArray.mk #[32]) ++ t9)), rfl, rfl, h⟩
     ·refine AW.condF' _ rfl hc8 ?_
      refine AW.sH [3] (H' := []) (Sub.nil _) ?_
      exact ⟨x6, rfl, rfl, h⟩
    ·rintro _ _ ⟨x7, rfl, rfl, h⟩
     rw [_op_Op_Line_c0.eq_1] at h
     refine AW.sr ?_
     refine AO.c (Calm.move rfl rfl) ?_
     refine AO.c (Calm.assign rfl rfl) ?_
     refine AO.nK [2] ?_
     refine AW.rK [2] ?_
     have hr := Option.some.inj h
     subst hr
     exact ⟨[(eStr x7)], ⟨rfl, rfl, trivial⟩, rfl⟩
end Go.Avl.T2
