/- Parts: T2f87, T2f68, T2f99, T2f89, T2f70, T2f13, T2f78, T2f101, T2f91, T2f75, T2f55, T2f76, T2f56, T2f14, T2f18. -/
import Derived.Test.YtmgiffbobkgcmaaAF1
/- bosket/escape.Read; printed by avmain.py. -/
namespace Go.Avl.T2
open Go Go.RowKit Go.Proofs Go.Avl
set_option linter.unusedVariables false
set_option maxRecDepth 100000
set_option maxHeartbeats 4000000
attribute [local irreducible] AW AO AQ Spec SpecH Calm

def escape_Read_c0 (k : Nat) (p0 : ByteArray) : Option (Int × Int × Bool) :=
  Option.bind (α := Bool) (if (48 : Int) ≤ (byteAt p0 (1 : Int)) then if (byteAt p0 (1 : Int)) ≤ (57 : Int) then some (true)
  else if (97 : Int) ≤ (byteAt p0 (1 : Int)) then if (byteAt p0 (1 : Int)) ≤ (122 : Int) then some (true)
  else if (65 : Int) ≤ (byteAt p0 (1 : Int)) then if (byteAt p0 (1 : Int)) ≤ (90 : Int) then some (true)
  else if (byteAt p0 (1 : Int)) < (32 : Int) then some (true)
  else some (decide ((126 : Int) < (byteAt p0 (1 : Int))))
  else if (byteAt p0 (1 : Int)) < (32 : Int) then some (true)
  else some (decide ((126 : Int) < (byteAt p0 (1 : Int))))
  else if (65 : Int) ≤ (byteAt p0 (1 : Int)) then if (byteAt p0 (1 : Int)) ≤ (90 : Int) then some (true)
  else if (byteAt p0 (1 : Int)) < (32 : Int) then some (true)
  else some (decide ((126 : Int) < (byteAt p0 (1 : Int))))
  else if (byteAt p0 (1 : Int)) < (32 : Int) then some (true)
  else some (decide ((126 : Int) < (byteAt p0 (1 : Int))))
  else if (97 : Int) ≤ (byteAt p0 (1 : Int)) then if (byteAt p0 (1 : Int)) ≤ (122 : Int) then some (true)
  else if (65 : Int) ≤ (byteAt p0 (1 : Int)) then if (byteAt p0 (1 : Int)) ≤ (90 : Int) then some (true)
  else if (byteAt p0 (1 : Int)) < (32 : Int) then some (true)
  else some (decide ((126 : Int) < (byteAt p0 (1 : Int))))
  else if (byteAt p0 (1 : Int)) < (32 : Int) then some (true)
  else some (decide ((126 : Int) < (byteAt p0 (1 : Int))))
  else if (65 : Int) ≤ (byteAt p0 (1 : Int)) then if (byteAt p0 (1 : Int)) ≤ (90 : Int) then some (true)
  else if (byteAt p0 (1 : Int)) < (32 : Int) then some (true)
  else some (decide ((126 : Int) < (byteAt p0 (1 : Int))))
  else if (byteAt p0 (1 : Int)) < (32 : Int) then some (true)
  else some (decide ((126 : Int) < (byteAt p0 (1 : Int))))) fun b8 =>
  if b8 = true then some ((0 : Int), (0 : Int), false)
  else some ((byteAt p0 (1 : Int)), (2 : Int), true)
def escape_Read_c1 (k : Nat) : Option (Int × Int × Bool) :=
  some ((0 : Int), (0 : Int), false)
def escape_Read_c2 (k : Nat) (p0 : ByteArray) : Option (Int × Int × Bool) :=
  Option.bind (α := Bool) (if (4 : Int) ≤ (p0.size : Int) then if 0 ≤ (2 : Int) ∧ (2 : Int) < (p0.size : Int) then (escape_value k (byteAt p0 (2 : Int))).bind fun t37 =>
  if (0 : Int) ≤ t37 then if 0 ≤ (3 : Int) ∧ (3 : Int) < (p0.size : Int) then (escape_value k (byteAt p0 (3 : Int))).bind fun t40 =>
  some (decide ((0 : Int) ≤ t40))
  else none
  else some (false)
  else none
  else some (false)) fun b33 =>
  if b33 = true then if 0 ≤ (2 : Int) ∧ (2 : Int) < (p0.size : Int) then (escape_value k (byteAt p0 (2 : Int))).bind fun t43 =>
  if 0 ≤ (3 : Int) ∧ (3 : Int) < (p0.size : Int) then (escape_value k (byteAt p0 (3 : Int))).bind fun t45 =>
  some ((w8 (bits .or .i64 (IntKind.i64.wrap (t43 * 2 ^ (min (4 : Int).toNat IntKind.i64.bits))) t45)), (4 : Int), true)
  else none
  else none
  else escape_Read_c1 k
def escape_Read_c3 (k : Nat) : Option (Int × Int × Bool) :=
  some ((13 : Int), (2 : Int), true)
def escape_Read_c4 (k : Nat) : Option (Int × Int × Bool) :=
  some ((9 : Int), (2 : Int), true)
def escape_Read_c5 (k : Nat) : Option (Int × Int × Bool) :=
  some ((10 : Int), (2 : Int), true)
def escape_Read (k : Nat) (p0 : ByteArray) : Option (Int × Int × Bool) :=
  if p0 = (ByteArray.mk #[]) then some ((0 : Int), (0 : Int), false)
  else if 0 ≤ (0 : Int) ∧ (0 : Int) < (p0.size : Int) then if (byteAt p0 (0 : Int)) ≠ (92 : Int) then if 0 ≤ (0 : Int) ∧ (0 : Int) < (p0.size : Int) then some ((byteAt p0 (0 : Int)), (1 : Int), true)
  else none
  else if (p0.size : Int) < (2 : Int) then some ((0 : Int), (0 : Int), false)
  else if 0 ≤ (1 : Int) ∧ (1 : Int) < (p0.size : Int) then if (byteAt p0 (1 : Int)) = (110 : Int) then escape_Read_c5 k
  else if (byteAt p0 (1 : Int)) = (116 : Int) then escape_Read_c4 k
  else if (byteAt p0 (1 : Int)) = (114 : Int) then escape_Read_c3 k
  else if (byteAt p0 (1 : Int)) = (120 : Int) then escape_Read_c2 k p0
  else if (byteAt p0 (1 : Int)) = (0 : Int) then escape_Read_c1 k
  else escape_Read_c0 k p0
  else none
  else none
theorem escape_Read_spec {k : Nat} {p0 : ByteArray} {r : (Int × Int × Bool)} (h : escape_Read k p0 = some r) : Spec Try.prog 87 [(eStr p0)] (.tup [(eU8 r.1), (eI64 r.2.1), (eBool r.2.2)]) := by
  rw [escape_Read.eq_1] at h
  refine Spec.intro (res := [.tmp 2, .tmp 3, .tmp 4]) Try.func87 rfl rfl rfl (Nat.le_of_ble_eq_true rfl) ?_
  refine AW.sr ?_
  refine AO.c (Calm.assign rfl rfl) ?_
  refine AO.c (Calm.assign rfl rfl) ?_
  refine AO.c (Calm.assign rfl rfl) ?_
  refine AO.nK [0] ?_
  refine AW.seq ?_
  refine AW.block ?_
  refine AW.sr ?_
  refine AO.c (Calm.move rfl rfl) ?_
  refine AO.c (x := eBool (decide (p0 = (ByteArray.mk #[])))) (Calm.str rfl rfl rfl rfl) ?_
  refine AO.c (Calm.assign rfl rfl) ?_
  refine AO.nK [0, 6] ?_
  rcases of_ite h with ⟨hc2, h⟩ | ⟨hc2, h⟩
  ·refine AW.condP _ rfl hc2 ?_
   refine AW.sr ?_
   refine AO.c (Calm.assign rfl rfl) ?_
   refine AO.c (Calm.assign rfl rfl) ?_
   refine AO.c (Calm.assign rfl rfl) ?_
   refine AO.nK [2, 3, 4] ?_
   refine AW.rK [2, 3, 4] ?_
   have hr := Option.some.inj h
   subst hr
   exact ⟨[(eU8 (0 : Int)), (eI64 (0 : Int)), (eBool false)], ⟨rfl, rfl, rfl, rfl, rfl, rfl, trivial⟩, rfl⟩
  ·refine AW.condN _ rfl hc2 ?_
   refine AW.sr ?_
   refine AO.c (Calm.move rfl rfl) ?_
   obtain ⟨hg3, h⟩ := of_guard h
   refine AO.c (x := eU8 (byteAt p0 (0 : Int))) (Calm.idxS rfl rfl rfl hg3 Try.underlying9) ?_
   refine AO.c (x := eBool (decide ((byteAt p0 (0 : Int)) ≠ (92 : Int)))) (Calm.int rfl rfl rfl rfl) ?_
   refine AO.c (Calm.assign rfl rfl) ?_
   refine AO.nK [0, 9] ?_
   rcases of_ite h with ⟨hc4, h⟩ | ⟨hc4, h⟩
   ·refine AW.condP _ rfl hc4 ?_
    refine AW.sr ?_
    refine AO.c (Calm.move rfl rfl) ?_
    obtain ⟨hg5, h⟩ := of_guard h
    refine AO.c (x := eU8 (byteAt p0 (0 : Int))) (Calm.idxS rfl rfl rfl hg5 Try.underlying9) ?_
    refine AO.c (Calm.assign rfl rfl) ?_
    refine AO.c (Calm.assign rfl rfl) ?_
    refine AO.c (Calm.assign rfl rfl) ?_
    refine AO.nK [2, 3, 4] ?_
    refine AW.rK [2, 3, 4] ?_
    have hr := Option.some.inj h
    subst hr
    exact ⟨[(eU8 (byteAt p0 (0 : Int))), (eI64 (1 : Int)), (eBool true)], ⟨rfl, rfl, rfl, rfl, rfl, rfl, trivial⟩, rfl⟩
   ·refine AW.condN _ rfl hc4 ?_
    refine AW.sr ?_
    refine AO.c (Calm.move rfl rfl) ?_
    refine AO.c (Calm.lenStr rfl rfl Try.underlying9) ?_
    refine AO.c (x := eBool (decide ((p0.size : Int) < (2 : Int)))) (Calm.int rfl rfl rfl rfl) ?_
    refine AO.c (Calm.assign rfl rfl) ?_
    refine AO.nK [0, 15] ?_
    rcases of_ite h with ⟨hc6, h⟩ | ⟨hc6, h⟩
    ·refine AW.condP _ rfl hc6 ?_
     refine AW.sr ?_
     refine AO.c (Calm.assign rfl rfl) ?_
     refine AO.c (Calm.assign rfl rfl) ?_
     refine AO.c (Calm.assign rfl rfl) ?_
     refine AO.nK [2, 3, 4] ?_
     refine AW.rK [2, 3, 4] ?_
     have hr := Option.some.inj h
     subst hr
     exact ⟨[(eU8 (0 : Int)), (eI64 (0 : Int)), (eBool false)], ⟨rfl, rfl, rfl, rfl, rfl, rfl, trivial⟩, rfl⟩
    ·refine AW.condN _ rfl hc6 ?_
     refine AW.sK [0] ?_
     refine AW.sr ?_
     refine AO.c (Calm.move rfl rfl) ?_
     obtain ⟨hg7, h⟩ := of_guard h
     refine AO.c (x := eU8 (byteAt p0 (1 : Int))) (Calm.idxS rfl rfl rfl hg7 Try.underlying9) ?_
     refine AO.c (Calm.assign rfl rfl) ?_
     refine AO.nK [0, 5] ?_
     refine AW.seq_mid (fun ρ H => ρ = [(5, (eU8 (byteAt p0 (1 : Int))))] ∧ H = [] ∧ escape_Read_c0 k p0 = some r) ?_ ?_
     ·refine AW.sr ?_
      refine AO.c (Calm.move rfl rfl) ?_
      refine AO.nK [0, 5, 21] ?_
      refine AW.block ?_
      refine AW.seq_mid (fun ρ H => ρ = [] ∧ H = [] ∧ escape_Read_c1 k = some r) ?_ ?_
      ·refine AW.block ?_
       refine AW.seq_mid (fun ρ H => ρ = [(0, (eStr p0))] ∧ H = [] ∧ escape_Read_c2 k p0 = some r) ?_ ?_
       ·refine AW.block ?_
        refine AW.seq_mid (fun ρ H => ρ = [] ∧ H = [] ∧ escape_Read_c3 k = some r) ?_ ?_
        ·refine AW.block ?_
         refine AW.seq_mid (fun ρ H => ρ = [] ∧ H = [] ∧ escape_Read_c4 k = some r) ?_ ?_
         ·refine AW.block ?_
          refine AW.seq_mid (fun ρ H => ρ = [] ∧ H = [] ∧ escape_Read_c5 k = some r) ?_ ?_
          ·refine AW.block ?_
           refine AW.seq ?_
           refine AW.seq ?_
           refine AW.sr ?_
           refine AO.c (x := eBool (decide ((byteAt p0 (1 : Int)) = (110 : Int)))) (Calm.int rfl rfl rfl rfl) ?_
           refine AO.c (Calm.assign rfl rfl) ?_
           refine AO.nK [0, 5, 21, 22] ?_
           rcases of_ite h with ⟨hc46, h⟩ | ⟨hc46, h⟩
           ·refine AW.condP _ rfl hc46 ?_
            refine AW.eK [] ?_
            exact ⟨rfl, rfl, h⟩
           ·refine AW.condN _ rfl hc46 ?_
            refine AW.sK [0, 5, 21] ?_
            refine AW.seq ?_
            refine AW.sr ?_
            refine AO.c (x := eBool (decide ((byteAt p0 (1 : Int)) = (116 : Int)))) (Calm.int rfl rfl rfl rfl) ?_
            refine AO.c (Calm.assign rfl rfl) ?_
            refine AO.nK [0, 5, 21, 24] ?_
            rcases of_ite h with ⟨hc47, h⟩ | ⟨hc47, h⟩
            ·refine AW.condP _ rfl hc47 ?_
             refine AW.eK [] ?_
             exact ⟨rfl, rfl, h⟩
            ·refine AW.condN _ rfl hc47 ?_
             refine AW.sK [0, 5, 21] ?_
             refine AW.seq ?_
             refine AW.sr ?_
             refine AO.c (x := eBool (decide ((byteAt p0 (1 : Int)) = (114 : Int)))) (Calm.int rfl rfl rfl rfl) ?_
             refine AO.c (Calm.assign rfl rfl) ?_
             refine AO.nK [0, 5, 21, 26] ?_
             rcases of_ite h with ⟨hc48, h⟩ | ⟨hc48, h⟩
             ·refine AW.condP _ rfl hc48 ?_
              refine AW.eK [] ?_
              exact ⟨rfl, rfl, h⟩
             ·refine AW.condN _ rfl hc48 ?_
              refine AW.sK [0, 5, 21] ?_
              refine AW.seq ?_
              refine AW.sr ?_
              refine AO.c (x := eBool (decide ((byteAt p0 (1 : Int)) = (120 : Int)))) (Calm.int rfl rfl rfl rfl) ?_
              refine AO.c (Calm.assign rfl rfl) ?_
              refine AO.nK [0, 5, 21, 28] ?_
              rcases of_ite h with ⟨hc49, h⟩ | ⟨hc49, h⟩
              ·refine AW.condP _ rfl hc49 ?_
               refine AW.eK [0] ?_
               exact ⟨rfl, rfl, h⟩
              ·refine AW.condN _ rfl hc49 ?_
               refine AW.sK [5, 21] ?_
               refine AW.sr ?_
               refine AO.c (x := eBool (decide ((byteAt p0 (1 : Int)) = (0 : Int)))) (Calm.int rfl rfl rfl rfl) ?_
               refine AO.c (Calm.assign rfl rfl) ?_
               refine AO.nK [5, 30] ?_
               rcases of_ite h with ⟨hc50, h⟩ | ⟨hc50, h⟩
               ·refine AW.condP _ rfl hc50 ?_
                refine AW.eK [] ?_
                exact ⟨rfl, rfl, h⟩
               ·refine AW.condN _ rfl hc50 ?_
                refine AW.sK [5] ?_
                refine AW.eK [5] ?_
                exact ⟨rfl, rfl, h⟩
          ·rintro _ _ ⟨rfl, rfl, h⟩
           rw [escape_Read_c5.eq_1] at h
           refine AW.seq ?_
           refine AW.sr ?_
           refine AO.c (Calm.assign rfl rfl) ?_
           refine AO.c (Calm.assign rfl rfl) ?_
           refine AO.c (Calm.assign rfl rfl) ?_
           refine AO.nK [2, 3, 4] ?_
           refine AW.rK [2, 3, 4] ?_
           have hr := Option.some.inj h
           subst hr
           exact ⟨[(eU8 (10 : Int)), (eI64 (2 : Int)), (eBool true)], ⟨rfl, rfl, rfl, rfl, rfl, rfl, trivial⟩, rfl⟩
         ·rintro _ _ ⟨rfl, rfl, h⟩
          rw [escape_Read_c4.eq_1] at h
          refine AW.seq ?_
          refine AW.sr ?_
          refine AO.c (Calm.assign rfl rfl) ?_
          refine AO.c (Calm.assign rfl rfl) ?_
          refine AO.c (Calm.assign rfl rfl) ?_
          refine AO.nK [2, 3, 4] ?_
          refine AW.rK [2, 3, 4] ?_
          have hr := Option.some.inj h
          subst hr
          exact ⟨[(eU8 (9 : Int)), (eI64 (2 : Int)), (eBool true)], ⟨rfl, rfl, rfl, rfl, rfl, rfl, trivial⟩, rfl⟩
        ·rintro _ _ ⟨rfl, rfl, h⟩
         rw [escape_Read_c3.eq_1] at h
         refine AW.seq ?_
         refine AW.sr ?_
         refine AO.c (Calm.assign rfl rfl) ?_
         refine AO.c (Calm.assign rfl rfl) ?_
         refine AO.c (Calm.assign rfl rfl) ?_
         refine AO.nK [2, 3, 4] ?_
         refine AW.rK [2, 3, 4] ?_
         have hr := Option.some.inj h
         subst hr
         exact ⟨[(eU8 (13 : Int)), (eI64 (2 : Int)), (eBool true)], ⟨rfl, rfl, rfl, rfl, rfl, rfl, trivial⟩, rfl⟩
       ·rintro _ _ ⟨rfl, rfl, h⟩
        rw [escape_Read_c2.eq_1] at h
        refine AW.seq ?_
        obtain ⟨b33, hq34, h⟩ := of_bind h
        refine AW.regM [(0, (eStr p0)), (46, (eBool b33))] [] ?_ ?_
        ·refine AO.c (Calm.move rfl rfl) ?_
         refine AO.c (Calm.lenStr rfl rfl Try.underlying9) ?_
         refine AO.c (x := eBool (decide ((4 : Int) ≤ (p0.size : Int)))) (Calm.int rfl rfl rfl rfl) ?_
         refine AO.c (Calm.move rfl rfl) ?_
         rcases of_ite hq34 with ⟨hc35, hq34⟩ | ⟨hc35, hq34⟩
         ·refine AO.cG rfl rfl (bD (decide_eq_true hc35)) (Calm.move rfl rfl) ?_
          obtain ⟨hg36, hq34⟩ := of_guard hq34
          refine AO.cG (x := eU8 (byteAt p0 (2 : Int))) rfl rfl (bD (decide_eq_true hc35)) (Calm.idxS rfl rfl rfl hg36 Try.underlying9) ?_
          obtain ⟨t37, et37, hq34⟩ := of_bind hq34
          refine AO.callG 3 true 35 [(eU8 (byteAt p0 (2 : Int)))] (eI64 t37) 38 rfl (by decide) ok98 rfl rfl (bD (decide_eq_true hc35)) rfl rfl ⟨rfl, rfl, trivial⟩ (escape_value_spec et37) ?_
          refine AO.cG (x := eBool (decide ((0 : Int) ≤ t37))) rfl rfl (bD (decide_eq_true hc35)) (Calm.int rfl rfl rfl rfl) ?_
          refine AO.c (Calm.pickT rfl (bD (decide_eq_true hc35)) rfl) ?_
          refine AO.c (Calm.move rfl rfl) ?_
          rcases of_ite hq34 with ⟨hc38, hq34⟩ | ⟨hc38, hq34⟩
          ·refine AO.cG rfl rfl (bD (decide_eq_true hc38)) (Calm.move rfl rfl) ?_
           obtain ⟨hg39, hq34⟩ := of_guard hq34
           refine AO.cG (x := eU8 (byteAt p0 (3 : Int))) rfl rfl (bD (decide_eq_true hc38)) (Calm.idxS rfl rfl rfl hg39 Try.underlying9) ?_
           obtain ⟨t40, et40, hq34⟩ := of_bind hq34
           refine AO.callG 9 true 41 [(eU8 (byteAt p0 (3 : Int)))] (eI64 t40) 44 rfl (by decide) ok98 rfl rfl (bD (decide_eq_true hc38)) rfl rfl ⟨rfl, rfl, trivial⟩ (escape_value_spec et40) ?_
           refine AO.cG (x := eBool (decide ((0 : Int) ≤ t40))) rfl rfl (bD (decide_eq_true hc38)) (Calm.int rfl rfl rfl rfl) ?_
           refine AO.c (Calm.pickT rfl (bD (decide_eq_true hc38)) rfl) ?_
           cases hq34
           refine AO.nilE ⟨rfl, rfl⟩ ?_ ?_
           · exact ⟨rfl, rfl, trivial⟩
           · exact (Sub.refl _)
          ·refine AO.sT rfl rfl (bD (decide_eq_false hc38)) ?_
           refine AO.sT rfl rfl (bD (decide_eq_false hc38)) ?_
           refine AO.sT rfl rfl (bD (decide_eq_false hc38)) ?_
           refine AO.sT rfl rfl (bD (decide_eq_false hc38)) ?_
           refine AO.c (Calm.pickF rfl (bD (decide_eq_false hc38)) rfl) ?_
           cases hq34
           refine AO.nilE ⟨rfl, rfl⟩ ?_ ?_
           · exact ⟨rfl, rfl, trivial⟩
           · exact (Sub.refl _)
         ·refine AO.sT rfl rfl (bD (decide_eq_false hc35)) ?_
          refine AO.sT rfl rfl (bD (decide_eq_false hc35)) ?_
          refine AO.sT rfl rfl (bD (decide_eq_false hc35)) ?_
          refine AO.sT rfl rfl (bD (decide_eq_false hc35)) ?_
          refine AO.c (Calm.pickF rfl (bD (decide_eq_false hc35)) rfl) ?_
          refine AO.c (Calm.move rfl rfl) ?_
          refine AO.sT rfl rfl rfl ?_
          refine AO.sT rfl rfl rfl ?_
          refine AO.sT rfl rfl rfl ?_
          refine AO.sT rfl rfl rfl ?_
          refine AO.c (Calm.pickF rfl rfl rfl) ?_
          cases hq34
          refine AO.nilE ⟨rfl, rfl⟩ ?_ ?_
          · exact ⟨rfl, rfl, trivial⟩
          · exact (Sub.refl _)
        ·rcases of_ite h with ⟨hc41, h⟩ | ⟨hc41, h⟩
         ·refine AW.condT' _ rfl hc41 ?_
          refine AW.seq ?_
          refine AW.regQ (by rfl) (by decide +kernel) ?_
          refine AQ.c (Calm.move rfl rfl) ?_
          obtain ⟨hg42, h⟩ := of_guard h
          refine AQ.c (x := eU8 (byteAt p0 (2 : Int))) (Calm.idxS rfl rfl rfl hg42 Try.underlying9) ?_
          obtain ⟨t43, et43, h⟩ := of_bind h
          refine AQ.c (Calm.call (args := [(eU8 (byteAt p0 (2 : Int)))]) rfl rfl ok98 ⟨rfl, rfl, trivial⟩ rfl (escape_value_spec et43)) ?_
          refine AQ.c (x := eI64 (IntKind.i64.wrap (t43 * 2 ^ (min (4 : Int).toNat IntKind.i64.bits)))) (Calm.shl rfl rfl rfl (by decide)) ?_
          refine AQ.c (Calm.move rfl rfl) ?_
          obtain ⟨hg44, h⟩ := of_guard h
          refine AQ.c (x := eU8 (byteAt p0 (3 : Int))) (Calm.idxS rfl rfl rfl hg44 Try.underlying9) ?_
          obtain ⟨t45, et45, h⟩ := of_bind h
          refine AQ.c (Calm.call (args := [(eU8 (byteAt p0 (3 : Int)))]) rfl rfl ok98 ⟨rfl, rfl, trivial⟩ rfl (escape_value_spec et45)) ?_
          refine AQ.c (x := eI64 (bits .or .i64 (IntKind.i64.wrap (t43 * 2 ^ (min (4 : Int).toNat IntKind.i64.bits))) t45)) (Calm.int rfl rfl rfl rfl) ?_
          refine AQ.c (x := eU8 (w8 (bits .or .i64 (IntKind.i64.wrap (t43 * 2 ^ (min (4 : Int).toNat IntKind.i64.bits))) t45))) (Calm.conv rfl rfl Try.underlying3 Try.underlying5) ?_
          refine AQ.c (Calm.assign rfl rfl) ?_
          refine AQ.c (Calm.assign rfl rfl) ?_
          refine AQ.c (Calm.assign rfl rfl) ?_
          refine AQ.nK [2, 3, 4] ?_
          refine AW.rK [2, 3, 4] ?_
          have hr := Option.some.inj h
          subst hr
          exact ⟨[(eU8 (w8 (bits .or .i64 (IntKind.i64.wrap (t43 * 2 ^ (min (4 : Int).toNat IntKind.i64.bits))) t45))), (eI64 (4 : Int)), (eBool true)], ⟨rfl, rfl, rfl, rfl, rfl, rfl, trivial⟩, rfl⟩
         ·refine AW.condF' _ rfl hc41 ?_
          refine AW.sK [] ?_
          exact ⟨rfl, rfl, h⟩
      ·rintro _ _ ⟨rfl, rfl, h⟩
       rw [escape_Read_c1.eq_1] at h
       refine AW.seq ?_
       refine AW.sr ?_
       refine AO.c (Calm.assign rfl rfl) ?_
       refine AO.c (Calm.assign rfl rfl) ?_
       refine AO.c (Calm.assign rfl rfl) ?_
       refine AO.nK [2, 3, 4] ?_
       refine AW.rK [2, 3, 4] ?_
       have hr := Option.some.inj h
       subst hr
       exact ⟨[(eU8 (0 : Int)), (eI64 (0 : Int)), (eBool false)], ⟨rfl, rfl, rfl, rfl, rfl, rfl, trivial⟩, rfl⟩
     ·rintro _ _ ⟨rfl, rfl, h⟩
      rw [escape_Read_c0.eq_1] at h
      refine AW.seq ?_
      refine AW.seq ?_
      obtain ⟨b8, hq9, h⟩ := of_bind h
      refine AW.regM [(5, (eU8 (byteAt p0 (1 : Int)))), (85, (eBool b8))] [] ?_ ?_
      ·refine AO.c (Calm.move rfl rfl) ?_
       refine AO.c (x := eBool (decide ((48 : Int) ≤ (byteAt p0 (1 : Int))))) (Calm.int rfl rfl rfl rfl) ?_
       refine AO.c (Calm.move rfl rfl) ?_
       rcases of_ite hq9 with ⟨hc10, hq9⟩ | ⟨hc10, hq9⟩
       ·refine AO.cG rfl rfl (bD (decide_eq_true hc10)) (Calm.move rfl rfl) ?_
        refine AO.cG (x := eBool (decide ((byteAt p0 (1 : Int)) ≤ (57 : Int)))) rfl rfl (bD (decide_eq_true hc10)) (Calm.int rfl rfl rfl rfl) ?_
        refine AO.c (Calm.pickT rfl (bD (decide_eq_true hc10)) rfl) ?_
        refine AO.c (Calm.move rfl rfl) ?_
        rcases of_ite hq9 with ⟨hc11, hq9⟩ | ⟨hc11, hq9⟩
        ·refine AO.sF rfl rfl (bD (decide_eq_true hc11)) ?_
         refine AO.sF rfl rfl (bD (decide_eq_true hc11)) ?_
         refine AO.sF rfl rfl (bD (decide_eq_true hc11)) ?_
         refine AO.sU rfl rfl rfl ?_
         refine AO.sU rfl rfl rfl ?_
         refine AO.sF rfl rfl (bD (decide_eq_true hc11)) ?_
         refine AO.c (Calm.pickT rfl (bD (decide_eq_true hc11)) rfl) ?_
         refine AO.c (Calm.move rfl rfl) ?_
         refine AO.sF rfl rfl rfl ?_
         refine AO.sF rfl rfl rfl ?_
         refine AO.sF rfl rfl rfl ?_
         refine AO.sU rfl rfl rfl ?_
         refine AO.sU rfl rfl rfl ?_
         refine AO.sF rfl rfl rfl ?_
         refine AO.c (Calm.pickT rfl rfl rfl) ?_
         refine AO.c (Calm.move rfl rfl) ?_
         refine AO.sF rfl rfl rfl ?_
         refine AO.sF rfl rfl rfl ?_
         refine AO.c (Calm.pickT rfl rfl rfl) ?_
         refine AO.c (Calm.move rfl rfl) ?_
         refine AO.sF rfl rfl rfl ?_
         refine AO.sF rfl rfl rfl ?_
         refine AO.c (Calm.pickT rfl rfl rfl) ?_
         cases hq9
         refine AO.nilE ⟨rfl, rfl⟩ ?_ ?_
         · exact ⟨rfl, rfl, trivial⟩
         · exact (Sub.refl _)
        ·refine AO.cG rfl rfl (bD (decide_eq_false hc11)) (Calm.move rfl rfl) ?_
         refine AO.cG (x := eBool (decide ((97 : Int) ≤ (byteAt p0 (1 : Int))))) rfl rfl (bD (decide_eq_false hc11)) (Calm.int rfl rfl rfl rfl) ?_
         refine AO.cG rfl rfl (bD (decide_eq_false hc11)) (Calm.move rfl rfl) ?_
         rcases of_ite hq9 with ⟨hc12, hq9⟩ | ⟨hc12, hq9⟩
         ·refine AO.cG rfl rfl (bD (decide_eq_true hc12)) (Calm.move rfl rfl) ?_
          refine AO.cG (x := eBool (decide ((byteAt p0 (1 : Int)) ≤ (122 : Int)))) rfl rfl (bD (decide_eq_true hc12)) (Calm.int rfl rfl rfl rfl) ?_
          refine AO.cG rfl rfl (bD (decide_eq_false hc11)) (Calm.pickT rfl (bD (decide_eq_true hc12)) rfl) ?_
          refine AO.c (Calm.pickF rfl (bD (decide_eq_false hc11)) rfl) ?_
          refine AO.c (Calm.move rfl rfl) ?_
          rcases of_ite hq9 with ⟨hc13, hq9⟩ | ⟨hc13, hq9⟩
          ·refine AO.sF rfl rfl (bD (decide_eq_true hc13)) ?_
           refine AO.sF rfl rfl (bD (decide_eq_true hc13)) ?_
           refine AO.sF rfl rfl (bD (decide_eq_true hc13)) ?_
           refine AO.sU rfl rfl rfl ?_
           refine AO.sU rfl rfl rfl ?_
           refine AO.sF rfl rfl (bD (decide_eq_true hc13)) ?_
           refine AO.c (Calm.pickT rfl (bD (decide_eq_true hc13)) rfl) ?_
           refine AO.c (Calm.move rfl rfl) ?_
           refine AO.sF rfl rfl rfl ?_
           refine AO.sF rfl rfl rfl ?_
           refine AO.c (Calm.pickT rfl rfl rfl) ?_
           refine AO.c (Calm.move rfl rfl) ?_
           refine AO.sF rfl rfl rfl ?_
           refine AO.sF rfl rfl rfl ?_
           refine AO.c (Calm.pickT rfl rfl rfl) ?_
           cases hq9
           refine AO.nilE ⟨rfl, rfl⟩ ?_ ?_
           · exact ⟨rfl, rfl, trivial⟩
           · exact (Sub.refl _)
          ·refine AO.cG rfl rfl (bD (decide_eq_false hc13)) (Calm.move rfl rfl) ?_
           refine AO.cG (x := eBool (decide ((65 : Int) ≤ (byteAt p0 (1 : Int))))) rfl rfl (bD (decide_eq_false hc13)) (Calm.int rfl rfl rfl rfl) ?_
           refine AO.cG rfl rfl (bD (decide_eq_false hc13)) (Calm.move rfl rfl) ?_
           rcases of_ite hq9 with ⟨hc14, hq9⟩ | ⟨hc14, hq9⟩
           ·refine AO.cG rfl rfl (bD (decide_eq_true hc14)) (Calm.move rfl rfl) ?_
            refine AO.cG (x := eBool (decide ((byteAt p0 (1 : Int)) ≤ (90 : Int)))) rfl rfl (bD (decide_eq_true hc14)) (Calm.int rfl rfl rfl rfl) ?_
            refine AO.cG rfl rfl (bD (decide_eq_false hc13)) (Calm.pickT rfl (bD (decide_eq_true hc14)) rfl) ?_
            refine AO.c (Calm.pickF rfl (bD (decide_eq_false hc13)) rfl) ?_
            refine AO.c (Calm.move rfl rfl) ?_
            rcases of_ite hq9 with ⟨hc15, hq9⟩ | ⟨hc15, hq9⟩
            ·refine AO.sF rfl rfl (bD (decide_eq_true hc15)) ?_
             refine AO.sF rfl rfl (bD (decide_eq_true hc15)) ?_
             refine AO.c (Calm.pickT rfl (bD (decide_eq_true hc15)) rfl) ?_
             refine AO.c (Calm.move rfl rfl) ?_
             refine AO.sF rfl rfl rfl ?_
             refine AO.sF rfl rfl rfl ?_
             refine AO.c (Calm.pickT rfl rfl rfl) ?_
             cases hq9
             refine AO.nilE ⟨rfl, rfl⟩ ?_ ?_
             · exact ⟨rfl, rfl, trivial⟩
             · exact (Sub.refl _)
            ·refine AO.cG rfl rfl (bD (decide_eq_false hc15)) (Calm.move rfl rfl) ?_
             refine AO.cG (x := eBool (decide ((byteAt p0 (1 : Int)) < (32 : Int)))) rfl rfl (bD (decide_eq_false hc15)) (Calm.int rfl rfl rfl rfl) ?_
             refine AO.c (Calm.pickF rfl (bD (decide_eq_false hc15)) rfl) ?_
             refine AO.c (Calm.move rfl rfl) ?_
             rcases of_ite hq9 with ⟨hc16, hq9⟩ | ⟨hc16, hq9⟩
             ·refine AO.sF rfl rfl (bD (decide_eq_true hc16)) ?_
              refine AO.sF rfl rfl (bD (decide_eq_true hc16)) ?_
              refine AO.c (Calm.pickT rfl (bD (decide_eq_true hc16)) rfl) ?_
              cases hq9
              refine AO.nilE ⟨rfl, rfl⟩ ?_ ?_
              · exact ⟨rfl, rfl, trivial⟩
              · exact (Sub.refl _)
             ·refine AO.cG rfl rfl (bD (decide_eq_false hc16)) (Calm.move rfl rfl) ?_
              refine AO.cG (x := eBool (decide ((126 : Int) < (byteAt p0 (1 : Int))))) rfl rfl (bD (decide_eq_false hc16)) (Calm.int rfl rfl rfl rfl) ?_
              refine AO.c (Calm.pickF rfl (bD (decide_eq_false hc16)) rfl) ?_
              cases hq9
              refine AO.nilE ⟨rfl, rfl⟩ ?_ ?_
              · exact ⟨rfl, rfl, trivial⟩
              · exact (Sub.refl _)
           ·refine AO.sT rfl rfl (bD (decide_eq_false hc14)) ?_
            refine AO.sT rfl rfl (bD (decide_eq_false hc14)) ?_
            refine AO.cG rfl rfl (bD (decide_eq_false hc13)) (Calm.pickF rfl (bD (decide_eq_false hc14)) rfl) ?_
            refine AO.c (Calm.pickF rfl (bD (decide_eq_false hc13)) rfl) ?_
            refine AO.c (Calm.move rfl rfl) ?_
            refine AO.cG rfl rfl rfl (Calm.move rfl rfl) ?_
            refine AO.cG (x := eBool (decide ((byteAt p0 (1 : Int)) < (32 : Int)))) rfl rfl rfl (Calm.int rfl rfl rfl rfl) ?_
            refine AO.c (Calm.pickF rfl rfl rfl) ?_
            refine AO.c (Calm.move rfl rfl) ?_
            rcases of_ite hq9 with ⟨hc17, hq9⟩ | ⟨hc17, hq9⟩
            ·refine AO.sF rfl rfl (bD (decide_eq_true hc17)) ?_
             refine AO.sF rfl rfl (bD (decide_eq_true hc17)) ?_
             refine AO.c (Calm.pickT rfl (bD (decide_eq_true hc17)) rfl) ?_
             cases hq9
             refine AO.nilE ⟨rfl, rfl⟩ ?_ ?_
             · exact ⟨rfl, rfl, trivial⟩
             · exact (Sub.refl _)
            ·refine AO.cG rfl rfl (bD (decide_eq_false hc17)) (Calm.move rfl rfl) ?_
             refine AO.cG (x := eBool (decide ((126 : Int) < (byteAt p0 (1 : Int))))) rfl rfl (bD (decide_eq_false hc17)) (Calm.int rfl rfl rfl rfl) ?_
             refine AO.c (Calm.pickF rfl (bD (decide_eq_false hc17)) rfl) ?_
             cases hq9
             refine AO.nilE ⟨rfl, rfl⟩ ?_ ?_
             · exact ⟨rfl, rfl, trivial⟩
             · exact (Sub.refl _)
         ·refine AO.sT rfl rfl (bD (decide_eq_false hc12)) ?_
          refine AO.sT rfl rfl (bD (decide_eq_false hc12)) ?_
          refine AO.cG rfl rfl (bD (decide_eq_false hc11)) (Calm.pickF rfl (bD (decide_eq_false hc12)) rfl) ?_
          refine AO.c (Calm.pickF rfl (bD (decide_eq_false hc11)) rfl) ?_
          refine AO.c (Calm.move rfl rfl) ?_
          refine AO.cG rfl rfl rfl (Calm.move rfl rfl) ?_
          refine AO.cG (x := eBool (decide ((65 : Int) ≤ (byteAt p0 (1 : Int))))) rfl rfl rfl (Calm.int rfl rfl rfl rfl) ?_
          refine AO.cG rfl rfl rfl (Calm.move rfl rfl) ?_
          rcases of_ite hq9 with ⟨hc18, hq9⟩ | ⟨hc18, hq9⟩
          ·refine AO.cG rfl rfl (bD (decide_eq_true hc18)) (Calm.move rfl rfl) ?_
           refine AO.cG (x := eBool (decide ((byteAt p0 (1 : Int)) ≤ (90 : Int)))) rfl rfl (bD (decide_eq_true hc18)) (Calm.int rfl rfl rfl rfl) ?_
           refine AO.cG rfl rfl rfl (Calm.pickT rfl (bD (decide_eq_true hc18)) rfl) ?_
           refine AO.c (Calm.pickF rfl rfl rfl) ?_
           refine AO.c (Calm.move rfl rfl) ?_
           rcases of_ite hq9 with ⟨hc19, hq9⟩ | ⟨hc19, hq9⟩
           ·refine AO.sF rfl rfl (bD (decide_eq_true hc19)) ?_
            refine AO.sF rfl rfl (bD (decide_eq_true hc19)) ?_
            refine AO.c (Calm.pickT rfl (bD (decide_eq_true hc19)) rfl) ?_
            refine AO.c (Calm.move rfl rfl) ?_
            refine AO.sF rfl rfl rfl ?_
            refine AO.sF rfl rfl rfl ?_
            refine AO.c (Calm.pickT rfl rfl rfl) ?_
            cases hq9
            refine AO.nilE ⟨rfl, rfl⟩ ?_ ?_
            · exact ⟨rfl, rfl, trivial⟩
            · exact (Sub.refl _)
           ·refine AO.cG rfl rfl (bD (decide_eq_false hc19)) (Calm.move rfl rfl) ?_
            refine AO.cG (x := eBool (decide ((byteAt p0 (1 : Int)) < (32 : Int)))) rfl rfl (bD (decide_eq_false hc19)) (Calm.int rfl rfl rfl rfl) ?_
            refine AO.c (Calm.pickF rfl (bD (decide_eq_false hc19)) rfl) ?_
            refine AO.c (Calm.move rfl rfl) ?_
            rcases of_ite hq9 with ⟨hc20, hq9⟩ | ⟨hc20, hq9⟩
            ·refine AO.sF rfl rfl (bD (decide_eq_true hc20)) ?_
             refine AO.sF rfl rfl (bD (decide_eq_true hc20)) ?_
             refine AO.c (Calm.pickT rfl (bD (decide_eq_true hc20)) rfl) ?_
             cases hq9
             refine AO.nilE ⟨rfl, rfl⟩ ?_ ?_
             · exact ⟨rfl, rfl, trivial⟩
             · exact (Sub.refl _)
            ·refine AO.cG rfl rfl (bD (decide_eq_false hc20)) (Calm.move rfl rfl) ?_
             refine AO.cG (x := eBool (decide ((126 : Int) < (byteAt p0 (1 : Int))))) rfl rfl (bD (decide_eq_false hc20)) (Calm.int rfl rfl rfl rfl) ?_
             refine AO.c (Calm.pickF rfl (bD (decide_eq_false hc20)) rfl) ?_
             cases hq9
             refine AO.nilE ⟨rfl, rfl⟩ ?_ ?_
             · exact ⟨rfl, rfl, trivial⟩
             · exact (Sub.refl _)
          ·refine AO.sT rfl rfl (bD (decide_eq_false hc18)) ?_
           refine AO.sT rfl rfl (bD (decide_eq_false hc18)) ?_
           refine AO.cG rfl rfl rfl (Calm.pickF rfl (bD (decide_eq_false hc18)) rfl) ?_
           refine AO.c (Calm.pickF rfl rfl rfl) ?_
           refine AO.c (Calm.move rfl rfl) ?_
           refine AO.cG rfl rfl rfl (Calm.move rfl rfl) ?_
           refine AO.cG (x := eBool (decide ((byteAt p0 (1 : Int)) < (32 : Int)))) rfl rfl rfl (Calm.int rfl rfl rfl rfl) ?_
           refine AO.c (Calm.pickF rfl rfl rfl) ?_
           refine AO.c (Calm.move rfl rfl) ?_
           rcases of_ite hq9 with ⟨hc21, hq9⟩ | ⟨hc21, hq9⟩
           ·refine AO.sF rfl rfl (bD (decide_eq_true hc21)) ?_
            refine AO.sF rfl rfl (bD (decide_eq_true hc21)) ?_
            refine AO.c (Calm.pickT rfl (bD (decide_eq_true hc21)) rfl) ?_
            cases hq9
            refine AO.nilE ⟨rfl, rfl⟩ ?_ ?_
            · exact ⟨rfl, rfl, trivial⟩
            · exact (Sub.refl _)
           ·refine AO.cG rfl rfl (bD (decide_eq_false hc21)) (Calm.move rfl rfl) ?_
            refine AO.cG (x := eBool (decide ((126 : Int) < (byteAt p0 (1 : Int))))) rfl rfl (bD (decide_eq_false hc21)) (Calm.int rfl rfl rfl rfl) ?_
            refine AO.c (Calm.pickF rfl (bD (decide_eq_false hc21)) rfl) ?_
            cases hq9
            refine AO.nilE ⟨rfl, rfl⟩ ?_ ?_
            · exact ⟨rfl, rfl, trivial⟩
            · exact (Sub.refl _)
       ·refine AO.sT rfl rfl (bD (decide_eq_false hc10)) ?_
        refine AO.sT rfl rfl (bD (decide_eq_false hc10)) ?_
        refine AO.c (Calm.pickF rfl (bD (decide_eq_false hc10)) rfl) ?_
        refine AO.c (Calm.move rfl rfl) ?_
        refine AO.cG rfl rfl rfl (Calm.move rfl rfl) ?_
        refine AO.cG (x := eBool (decide ((97 : Int) ≤ (byteAt p0 (1 : Int))))) rfl rfl rfl (Calm.int rfl rfl rfl rfl) ?_
        refine AO.cG rfl rfl rfl (Calm.move rfl rfl) ?_
        rcases of_ite hq9 with ⟨hc22, hq9⟩ | ⟨hc22, hq9⟩
        ·refine AO.cG rfl rfl (bD (decide_eq_true hc22)) (Calm.move rfl rfl) ?_
         refine AO.cG (x := eBool (decide ((byteAt p0 (1 : Int)) ≤ (122 : Int)))) rfl rfl (bD (decide_eq_true hc22)) (Calm.int rfl rfl rfl rfl) ?_
         refine AO.cG rfl rfl rfl (Calm.pickT rfl (bD (decide_eq_true hc22)) rfl) ?_
         refine AO.c (Calm.pickF rfl rfl rfl) ?_
         refine AO.c (Calm.move rfl rfl) ?_
         rcases of_ite hq9 with ⟨hc23, hq9⟩ | ⟨hc23, hq9⟩
         ·refine AO.sF rfl rfl (bD (decide_eq_true hc23)) ?_
          refine AO.sF rfl rfl (bD (decide_eq_true hc23)) ?_
          refine AO.sF rfl rfl (bD (decide_eq_true hc23)) ?_
          refine AO.sU rfl rfl rfl ?_
          refine AO.sU rfl rfl rfl ?_
          refine AO.sF rfl rfl (bD (decide_eq_true hc23)) ?_
          refine AO.c (Calm.pickT rfl (bD (decide_eq_true hc23)) rfl) ?_
          refine AO.c (Calm.move rfl rfl) ?_
          refine AO.sF rfl rfl rfl ?_
          refine AO.sF rfl rfl rfl ?_
          refine AO.c (Calm.pickT rfl rfl rfl) ?_
          refine AO.c (Calm.move rfl rfl) ?_
          refine AO.sF rfl rfl rfl ?_
          refine AO.sF rfl rfl rfl ?_
          refine AO.c (Calm.pickT rfl rfl rfl) ?_
          cases hq9
          refine AO.nilE ⟨rfl, rfl⟩ ?_ ?_
          · exact ⟨rfl, rfl, trivial⟩
          · exact (Sub.refl _)
         ·refine AO.cG rfl rfl (bD (decide_eq_false hc23)) (Calm.move rfl rfl) ?_
          refine AO.cG (x := eBool (decide ((65 : Int) ≤ (byteAt p0 (1 : Int))))) rfl rfl (bD (decide_eq_false hc23)) (Calm.int rfl rfl rfl rfl) ?_
          refine AO.cG rfl rfl (bD (decide_eq_false hc23)) (Calm.move rfl rfl) ?_
          rcases of_ite hq9 with ⟨hc24, hq9⟩ | ⟨hc24, hq9⟩
          ·refine AO.cG rfl rfl (bD (decide_eq_true hc24)) (Calm.move rfl rfl) ?_
           refine AO.cG (x := eBool (decide ((byteAt p0 (1 : Int)) ≤ (90 : Int)))) rfl rfl (bD (decide_eq_true hc24)) (Calm.int rfl rfl rfl rfl) ?_
           refine AO.cG rfl rfl (bD (decide_eq_false hc23)) (Calm.pickT rfl (bD (decide_eq_true hc24)) rfl) ?_
           refine AO.c (Calm.pickF rfl (bD (decide_eq_false hc23)) rfl) ?_
           refine AO.c (Calm.move rfl rfl) ?_
           rcases of_ite hq9 with ⟨hc25, hq9⟩ | ⟨hc25, hq9⟩
           ·refine AO.sF rfl rfl (bD (decide_eq_true hc25)) ?_
            refine AO.sF rfl rfl (bD (decide_eq_true hc25)) ?_
            refine AO.c (Calm.pickT rfl (bD (decide_eq_true hc25)) rfl) ?_
            refine AO.c (Calm.move rfl rfl) ?_
            refine AO.sF rfl rfl rfl ?_
            refine AO.sF rfl rfl rfl ?_
            refine AO.c (Calm.pickT rfl rfl rfl) ?_
            cases hq9
            refine AO.nilE ⟨rfl, rfl⟩ ?_ ?_
            · exact ⟨rfl, rfl, trivial⟩
            · exact (Sub.refl _)
           ·refine AO.cG rfl rfl (bD (decide_eq_false hc25)) (Calm.move rfl rfl) ?_
            refine AO.cG (x := eBool (decide ((byteAt p0 (1 : Int)) < (32 : Int)))) rfl rfl (bD (decide_eq_false hc25)) (Calm.int rfl rfl rfl rfl) ?_
            refine AO.c (Calm.pickF rfl (bD (decide_eq_false hc25)) rfl) ?_
            refine AO.c (Calm.move rfl rfl) ?_
            rcases of_ite hq9 with ⟨hc26, hq9⟩ | ⟨hc26, hq9⟩
            ·refine AO.sF rfl rfl (bD (decide_eq_true hc26)) ?_
             refine AO.sF rfl rfl (bD (decide_eq_true hc26)) ?_
             refine AO.c (Calm.pickT rfl (bD (decide_eq_true hc26)) rfl) ?_
             cases hq9
             refine AO.nilE ⟨rfl, rfl⟩ ?_ ?_
             · exact ⟨rfl, rfl, trivial⟩
             · exact (Sub.refl _)
            ·refine AO.cG rfl rfl (bD (decide_eq_false hc26)) (Calm.move rfl rfl) ?_
             refine AO.cG (x := eBool (decide ((126 : Int) < (byteAt p0 (1 : Int))))) rfl rfl (bD (decide_eq_false hc26)) (Calm.int rfl rfl rfl rfl) ?_
             refine AO.c (Calm.pickF rfl (bD (decide_eq_false hc26)) rfl) ?_
             cases hq9
             refine AO.nilE ⟨rfl, rfl⟩ ?_ ?_
             · exact ⟨rfl, rfl, trivial⟩
             · exact (Sub.refl _)
          ·refine AO.sT rfl rfl (bD (decide_eq_false hc24)) ?_
           refine AO.sT rfl rfl (bD (decide_eq_false hc24)) ?_
           refine AO.cG rfl rfl (bD (decide_eq_false hc23)) (Calm.pickF rfl (bD (decide_eq_false hc24)) rfl) ?_
           refine AO.c (Calm.pickF rfl (bD (decide_eq_false hc23)) rfl) ?_
           refine AO.c (Calm.move rfl rfl) ?_
           refine AO.cG rfl rfl rfl (Calm.move rfl rfl) ?_
           refine AO.cG (x := eBool (decide ((byteAt p0 (1 : Int)) < (32 : Int)))) rfl rfl rfl (Calm.int rfl rfl rfl rfl) ?_
           refine AO.c (Calm.pickF rfl rfl rfl) ?_
           refine AO.c (Calm.move rfl rfl) ?_
           rcases of_ite hq9 with ⟨hc27, hq9⟩ | ⟨hc27, hq9⟩
           ·refine AO.sF rfl rfl (bD (decide_eq_true hc27)) ?_
            refine AO.sF rfl rfl (bD (decide_eq_true hc27)) ?_
            refine AO.c (Calm.pickT rfl (bD (decide_eq_true hc27)) rfl) ?_
            cases hq9
            refine AO.nilE ⟨rfl, rfl⟩ ?_ ?_
            · exact ⟨rfl, rfl, trivial⟩
            · exact (Sub.refl _)
           ·refine AO.cG rfl rfl (bD (decide_eq_false hc27)) (Calm.move rfl rfl) ?_
            refine AO.cG (x := eBool (decide ((126 : Int) < (byteAt p0 (1 : Int))))) rfl rfl (bD (decide_eq_false hc27)) (Calm.int rfl rfl rfl rfl) ?_
            refine AO.c (Calm.pickF rfl (bD (decide_eq_false hc27)) rfl) ?_
            cases hq9
            refine AO.nilE ⟨rfl, rfl⟩ ?_ ?_
            · exact ⟨rfl, rfl, trivial⟩
            · exact (Sub.refl _)
        ·refine AO.sT rfl rfl (bD (decide_eq_false hc22)) ?_
         refine AO.sT rfl rfl (bD (decide_eq_false hc22)) ?_
         refine AO.cG rfl rfl rfl (Calm.pickF rfl (bD (decide_eq_false hc22)) rfl) ?_
         refine AO.c (Calm.pickF rfl rfl rfl) ?_
         refine AO.c (Calm.move rfl rfl) ?_
         refine AO.cG rfl rfl rfl (Calm.move rfl rfl) ?_
         refine AO.cG (x := eBool (decide ((65 : Int) ≤ (byteAt p0 (1 : Int))))) rfl rfl rfl (Calm.int rfl rfl rfl rfl) ?_
         refine AO.cG rfl rfl rfl (Calm.move rfl rfl) ?_
         rcases of_ite hq9 with ⟨hc28, hq9⟩ | ⟨hc28, hq9⟩
         ·refine AO.cG rfl rfl (bD (decide_eq_true hc28)) (Calm.move rfl rfl) ?_
          refine AO.cG (x := eBool (decide ((byteAt p0 (1 : Int)) ≤ (90 : Int)))) rfl rfl (bD (decide_eq_true hc28)) (Calm.int rfl rfl rfl rfl) ?_
          refine AO.cG rfl rfl rfl (Calm.pickT rfl (bD (decide_eq_true hc28)) rfl) ?_
          refine AO.c (Calm.pickF rfl rfl rfl) ?_
          refine AO.c (Calm.move rfl rfl) ?_
          rcases of_ite hq9 with ⟨hc29, hq9⟩ | ⟨hc29, hq9⟩
          ·refine AO.sF rfl rfl (bD (decide_eq_true hc29)) ?_
           refine AO.sF rfl rfl (bD (decide_eq_true hc29)) ?_
           refine AO.c (Calm.pickT rfl (bD (decide_eq_true hc29)) rfl) ?_
           refine AO.c (Calm.move rfl rfl) ?_
           refine AO.sF rfl rfl rfl ?_
           refine AO.sF rfl rfl rfl ?_
           refine AO.c (Calm.pickT rfl rfl rfl) ?_
           cases hq9
           refine AO.nilE ⟨rfl, rfl⟩ ?_ ?_
           · exact ⟨rfl, rfl, trivial⟩
           · exact (Sub.refl _)
          ·refine AO.cG rfl rfl (bD (decide_eq_false hc29)) (Calm.move rfl rfl) ?_
           refine AO.cG (x := eBool (decide ((byteAt p0 (1 : Int)) < (32 : Int)))) rfl rfl (bD (decide_eq_false hc29)) (Calm.int rfl rfl rfl rfl) ?_
           refine AO.c (Calm.pickF rfl (bD (decide_eq_false hc29)) rfl) ?_
           refine AO.c (Calm.move rfl rfl) ?_
           rcases of_ite hq9 with ⟨hc30, hq9⟩ | ⟨hc30, hq9⟩
           ·refine AO.sF rfl rfl (bD (decide_eq_true hc30)) ?_
            refine AO.sF rfl rfl (bD (decide_eq_true hc30)) ?_
            refine AO.c (Calm.pickT rfl (bD (decide_eq_true hc30)) rfl) ?_
            cases hq9
            refine AO.nilE ⟨rfl, rfl⟩ ?_ ?_
            · exact ⟨rfl, rfl, trivial⟩
            · exact (Sub.refl _)
           ·refine AO.cG rfl rfl (bD (decide_eq_false hc30)) (Calm.move rfl rfl) ?_
            refine AO.cG (x := eBool (decide ((126 : Int) < (byteAt p0 (1 : Int))))) rfl rfl (bD (decide_eq_false hc30)) (Calm.int rfl rfl rfl rfl) ?_
            refine AO.c (Calm.pickF rfl (bD (decide_eq_false hc30)) rfl) ?_
            cases hq9
            refine AO.nilE ⟨rfl, rfl⟩ ?_ ?_
            · exact ⟨rfl, rfl, trivial⟩
            · exact (Sub.refl _)
         ·refine AO.sT rfl rfl (bD (decide_eq_false hc28)) ?_
          refine AO.sT rfl rfl (bD (decide_eq_false hc28)) ?_
          refine AO.cG rfl rfl rfl (Calm.pickF rfl (bD (decide_eq_false hc28)) rfl) ?_
          refine AO.c (Calm.pickF rfl rfl rfl) ?_
          refine AO.c (Calm.move rfl rfl) ?_
          refine AO.cG rfl rfl rfl (Calm.move rfl rfl) ?_
          refine AO.cG (x := eBool (decide ((byteAt p0 (1 : Int)) < (32 : Int)))) rfl rfl rfl (Calm.int rfl rfl rfl rfl) ?_
          refine AO.c (Calm.pickF rfl rfl rfl) ?_
          refine AO.c (Calm.move rfl rfl) ?_
          rcases of_ite hq9 with ⟨hc31, hq9⟩ | ⟨hc31, hq9⟩
          ·refine AO.sF rfl rfl (bD (decide_eq_true hc31)) ?_
           refine AO.sF rfl rfl (bD (decide_eq_true hc31)) ?_
           refine AO.c (Calm.pickT rfl (bD (decide_eq_true hc31)) rfl) ?_
           cases hq9
           refine AO.nilE ⟨rfl, rfl⟩ ?_ ?_
           · exact ⟨rfl, rfl, trivial⟩
           · exact (Sub.refl _)
          ·refine AO.cG rfl rfl (bD (decide_eq_false hc31)) (Calm.move rfl rfl) ?_
           refine AO.cG (x := eBool (decide ((126 : Int) < (byteAt p0 (1 : Int))))) rfl rfl (bD (decide_eq_false hc31)) (Calm.int rfl rfl rfl rfl) ?_
           refine AO.c (Calm.pickF rfl (bD (decide_eq_false hc31)) rfl) ?_
           cases hq9
           refine AO.nilE ⟨rfl, rfl⟩ ?_ ?_
           · exact ⟨rfl, rfl, trivial⟩
           · exact (Sub.refl _)
      ·rcases of_ite h with ⟨hc32, h⟩ | ⟨hc32, h⟩
       ·refine AW.condT' _ rfl hc32 ?_
        refine AW.sr ?_
        refine AO.c (Calm.assign rfl rfl) ?_
        refine AO.c (Calm.assign rfl rfl) ?_
        refine AO.c (Calm.assign rfl rfl) ?_
        refine AO.nK [2, 3, 4] ?_
        refine AW.rK [2, 3, 4] ?_
        have hr := Option.some.inj h
        subst hr
        exact ⟨[(eU8 (0 : Int)), (eI64 (0 : Int)), (eBool false)], ⟨rfl, rfl, rfl, rfl, rfl, rfl, trivial⟩, rfl⟩
       ·refine AW.condF' _ rfl hc32 ?_
        refine AW.sK [5] ?_
        refine AW.sr ?_
        refine AO.c (Calm.move rfl rfl) ?_
        refine AO.c (Calm.assign rfl rfl) ?_
        refine AO.c (Calm.assign rfl rfl) ?_
        refine AO.c (Calm.assign rfl rfl) ?_
        refine AO.nK [2, 3, 4] ?_
        refine AW.rK [2, 3, 4] ?_
        have hr := Option.some.inj h
        subst hr
        exact ⟨[(eU8 (byteAt p0 (1 : Int))), (eI64 (2 : Int)), (eBool true)], ⟨rfl, rfl, rfl, rfl, rfl, rfl, trivial⟩, rfl⟩
end Go.Avl.T2
/- bosket/escape.Unquote; printed by avmain.py. -/
namespace Go.Avl.T2
open Go Go.RowKit Go.Proofs Go.Avl
set_option linter.unusedVariables false
set_option maxRecDepth 100000
set_option maxHeartbeats 4000000
attribute [local irreducible] AW AO AQ Spec SpecH Calm

def escape_Unquote_c0 (k : Nat) : Option (ByteArray × Int × Bool) :=
  some ((ByteArray.mk #[]), (0 : Int), false)
def escape_Unquote_l1 (k : Nat) (p0 : ByteArray) (p1 : Int) : Nat → (List Int) → Int → Option (ByteArray × Int × Bool)
  | 0, _, _ => none
  | j + 1, x9, x10 =>
    if x10 < (p0.size : Int) then if 0 ≤ x10 ∧ x10 < (p0.size : Int) then if (byteAt p0 x10) = p1 then some ((strOfNums x9), (w64 (x10 + (1 : Int))), true)
    else if 0 ≤ x10 ∧ x10 ≤ (p0.size : Int) ∧ (p0.size : Int) ≤ (p0.size : Int) then (escape_Read k (p0.extract x10.toNat (p0.size : Int).toNat)).bind fun t17 =>
    Option.bind (α := Bool) (if (!t17.2.2) = true then some (true)
    else if 0 ≤ x10 ∧ x10 < (p0.size : Int) then some (decide ((byteAt p0 x10) = (10 : Int)))
    else none) fun b18 =>
    if b18 = true then some ((ByteArray.mk #[]), (0 : Int), false)
    else if (x9 ++ ([t17.1] : List Int)).length * 1 ≤ 140737488355328 then (escape_Unquote_l1 k p0 p1 j) (x9 ++ ([t17.1] : List Int)) (w64 (x10 + t17.2.1))
    else none
    else none
    else none
    else escape_Unquote_c0 k
def escape_Unquote (k : Nat) (p0 : ByteArray) (p1 : Int) : Option (ByteArray × Int × Bool) :=
  Option.bind (α := Bool) (if p0 = (ByteArray.mk #[]) then some (true)
  else if 0 ≤ (0 : Int) ∧ (0 : Int) < (p0.size : Int) then some (decide ((byteAt p0 (0 : Int)) ≠ p1))
  else none) fun b3 =>
  if b3 = true then some ((ByteArray.mk #[]), (0 : Int), false)
  else escape_Unquote_l1 k p0 p1 k ([] : List Int) (1 : Int)
theorem escape_Unquote_spec {k : Nat} {p0 : ByteArray} {p1 : Int} {r : (ByteArray × Int × Bool)} (h : escape_Unquote k p0 p1 = some r) : Spec Try.prog 68 [(eStr p0), (eU8 p1)] (.tup [(eStr r.1), (eI64 r.2.1), (eBool r.2.2)]) := by
  rw [escape_Unquote.eq_1] at h
  refine Spec.intro (res := [.tmp 4, .tmp 5, .tmp 6]) Try.func68 rfl rfl rfl (Nat.le_of_ble_eq_true rfl) ?_
  refine AW.sr ?_
  refine AO.c (Calm.assign rfl rfl) ?_
  refine AO.c (Calm.assign rfl rfl) ?_
  refine AO.c (Calm.assign rfl rfl) ?_
  refine AO.nK [0, 1] ?_
  refine AW.seq ?_
  refine AW.seq ?_
  obtain ⟨b3, hq4, h⟩ := of_bind h
  refine AW.regM [(0, (eStr p0)), (1, (eU8 p1)), (19, (eBool b3))] [] ?_ ?_
  ·refine AO.c (Calm.move rfl rfl) ?_
   refine AO.c (x := eBool (decide (p0 = (ByteArray.mk #[])))) (Calm.str rfl rfl rfl rfl) ?_
   refine AO.c (Calm.move rfl rfl) ?_
   rcases of_ite hq4 with ⟨hc5, hq4⟩ | ⟨hc5, hq4⟩
   ·refine AO.sF rfl rfl (bD (decide_eq_true hc5)) ?_
    refine AO.sF rfl rfl (bD (decide_eq_true hc5)) ?_
    refine AO.sF rfl rfl (bD (decide_eq_true hc5)) ?_
    refine AO.sF rfl rfl (bD (decide_eq_true hc5)) ?_
    refine AO.c (Calm.pickT rfl (bD (decide_eq_true hc5)) rfl) ?_
    cases hq4
    refine AO.nilE ⟨rfl, rfl⟩ ?_ ?_
    · exact ⟨rfl, rfl, rfl, trivial⟩
    · exact (Sub.refl _)
   ·refine AO.cG rfl rfl (bD (decide_eq_false hc5)) (Calm.move rfl rfl) ?_
    obtain ⟨hg6, hq4⟩ := of_guard hq4
    refine AO.cG (x := eU8 (byteAt p0 (0 : Int))) rfl rfl (bD (decide_eq_false hc5)) (Calm.idxS rfl rfl rfl hg6 Try.underlying9) ?_
    refine AO.cG rfl rfl (bD (decide_eq_false hc5)) (Calm.move rfl rfl) ?_
    refine AO.cG (x := eBool (decide ((byteAt p0 (0 : Int)) ≠ p1))) rfl rfl (bD (decide_eq_false hc5)) (Calm.int rfl rfl rfl rfl) ?_
    refine AO.c (Calm.pickF rfl (bD (decide_eq_false hc5)) rfl) ?_
    cases hq4
    refine AO.nilE ⟨rfl, rfl⟩ ?_ ?_
    · exact ⟨rfl, rfl, rfl, trivial⟩
    · exact (Sub.refl _)
  ·rcases of_ite h with ⟨hc7, h⟩ | ⟨hc7, h⟩
   ·refine AW.condT' _ rfl hc7 ?_
    refine AW.sr ?_
    refine AO.c (Calm.assign rfl rfl) ?_
    refine AO.c (Calm.assign rfl rfl) ?_
    refine AO.c (Calm.assign rfl rfl) ?_
    refine AO.nK [4, 5, 6] ?_
    refine AW.rK [4, 5, 6] ?_
    have hr := Option.some.inj h
    subst hr
    exact ⟨[(eStr (ByteArray.mk #[])), (eI64 (0 : Int)), (eBool false)], ⟨rfl, rfl, rfl, rfl, rfl, rfl, trivial⟩, rfl⟩
   ·refine AW.condF' _ rfl hc7 ?_
    refine AW.sK [0, 1] ?_
    refine AW.sr ?_
    refine AO.c (Calm.assign rfl rfl) ?_
    refine AO.nK [0, 1, 7] ?_
    refine AW.seq_mid (fun ρ H => ρ = [] ∧ H = [] ∧ escape_Unquote_c0 k = some r) ?_ ?_
    ·refine AW.sr ?_
     refine AO.c (Calm.assign rfl rfl) ?_
     refine AO.nK [0, 1, 7, 8] ?_
     refine AW.block ?_
     refine AW.nilOwn 7 1 rfl fun n26 => ?_
     refine AW.wK [0, 1, 7, 8] ?_
     refine AW.loop (fun kq ρ H => ∃ (n8 : Nat) (x9 : (List Int)) (x10 : Int), ρ = [(0, (eStr p0)), (1, (eU8 p1)), (7, (.own n8 0 x9.length)), (8, (eI64 x10))] ∧ H = [(n8, (.mem (.ar 1 (x9.map eU8))))] ∧ escape_Unquote_l1 k p0 p1 kq x9 x10 = some r) k ⟨n26, ([] : List Int), (1 : Int), rfl, rfl, h⟩ ?_
     rintro kq12 _ _ ⟨n8, x9, x10, rfl, rfl, h⟩
     cases kq12 with
     | zero => rw [escape_Unquote_l1.eq_1] at h; cases h
     | succ kq12 =>
     rw [escape_Unquote_l1.eq_2] at h
     generalize hrec11 : escape_Unquote_l1 k p0 p1 kq12 = rec11 at h
     refine AW.seq ?_
     refine AW.sr ?_
     refine AO.c (Calm.move rfl rfl) ?_
     refine AO.c (Calm.move rfl rfl) ?_
     refine AO.c (Calm.lenStr rfl rfl Try.underlying9) ?_
     refine AO.c (x := eBool (decide (x10 < (p0.size : Int)))) (Calm.int rfl rfl rfl rfl) ?_
     refine AO.nK [0, 1, 7, 8, 23] ?_
     rcases of_ite h with ⟨hc13, h⟩ | ⟨hc13, h⟩
     ·refine AW.condP _ rfl hc13 ?_
      refine AW.sK [0, 1, 7, 8] ?_
      refine AW.block ?_
      refine AW.seq ?_
      refine AW.sr ?_
      refine AO.c (Calm.move rfl rfl) ?_
      refine AO.c (Calm.move rfl rfl) ?_
      obtain ⟨hg14, h⟩ := of_guard h
      refine AO.c (x := eU8 (byteAt p0 x10)) (Calm.idxS rfl rfl rfl hg14 Try.underlying9) ?_
      refine AO.c (Calm.move rfl rfl) ?_
      refine AO.c (x := eBool (decide ((byteAt p0 x10) = p1))) (Calm.int rfl rfl rfl rfl) ?_
      refine AO.nK [0, 1, 7, 8, 28] ?_
      rcases of_ite h with ⟨hc15, h⟩ | ⟨hc15, h⟩
      ·refine AW.condP _ rfl hc15 ?_
       refine AW.sr ?_
       refine AO.c (Calm.move rfl rfl) ?_
       refine AO.c (x := eStr (strOfNums x9)) (Calm.strO 0 rfl rfl rfl Try.underlying84 Try.underlying9 Try.underlying5) ?_
       refine AO.c (Calm.move rfl rfl) ?_
       refine AO.c (x := eI64 (w64 (x10 + (1 : Int)))) (Calm.int rfl rfl rfl rfl) ?_
       refine AO.c (Calm.assign rfl rfl) ?_
       refine AO.c (Calm.assign rfl rfl) ?_
       refine AO.c (Calm.assign rfl rfl) ?_
       refine AO.nH [4, 5, 6] (H' := []) (Sub.nil _) ?_
       refine AW.rK [4, 5, 6] ?_
       have hr := Option.some.inj h
       subst hr
       exact ⟨[(eStr (strOfNums x9)), (eI64 (w64 (x10 + (1 : Int)))), (eBool true)], ⟨rfl, rfl, rfl, rfl, rfl, rfl, trivial⟩, rfl⟩
      ·refine AW.condN _ rfl hc15 ?_
       refine AW.sK [0, 1, 7, 8] ?_
       refine AW.sr ?_
       refine AO.c (Calm.move rfl rfl) ?_
       refine AO.c (Calm.move rfl rfl) ?_
       obtain ⟨hg16, h⟩ := of_guard h
       refine AO.c (x := eStr (p0.extract x10.toNat (p0.size : Int).toNat)) (Calm.sliceS rfl rfl rfl rfl hg16 Try.underlying9) ?_
       obtain ⟨t17, et17, h⟩ := of_bind h
       refine AO.callS [(eStr (p0.extract x10.toNat (p0.size : Int).toNat))] (.tup [(eU8 t17.1), (eI64 t17.2.1), (eBool t17.2.2)]) 37 rfl (by decide) ok87 rfl rfl rfl ⟨rfl, rfl, trivial⟩ (escape_Read_spec et17) ?_
       refine AO.c (Calm.move rfl rfl) ?_
       refine AO.c (Calm.extract rfl rfl rfl) ?_
       refine AO.c (Calm.extract rfl rfl rfl) ?_
       refine AO.c (Calm.extract rfl rfl rfl) ?_
       refine AO.c (Calm.assign rfl rfl) ?_
       refine AO.c (Calm.assign rfl rfl) ?_
       refine AO.c (Calm.assign rfl rfl) ?_
       refine AO.nK [0, 1, 7, 8, 9, 10, 11] ?_
       refine AW.seq ?_
       refine AW.seq ?_
       obtain ⟨b18, hq19, h⟩ := of_bind h
       refine AW.regM [(0, (eStr p0)), (1, (eU8 p1)), (7, (.own n8 0 x9.length)), (8, (eI64 x10)), (9, (eU8 t17.1)), (10, (eI64 t17.2.1)), (48, (eBool b18))] [(n8, (.mem (.ar 1 (x9.map eU8))))] ?_ ?_
       ·refine AO.c (Calm.move rfl rfl) ?_
        refine AO.c (Calm.not rfl rfl) ?_
        refine AO.c (Calm.move rfl rfl) ?_
        rcases of_ite hq19 with ⟨hc20, hq19⟩ | ⟨hc20, hq19⟩
        ·refine AO.sF rfl rfl (bD hc20) ?_
         refine AO.sF rfl rfl (bD hc20) ?_
         refine AO.sF rfl rfl (bD hc20) ?_
         refine AO.sF rfl rfl (bD hc20) ?_
         refine AO.c (Calm.pickT rfl (bD hc20) rfl) ?_
         cases hq19
         refine AO.nilE ⟨rfl, rfl⟩ ?_ ?_
         · exact ⟨rfl, rfl, rfl, rfl, rfl, rfl, rfl, trivial⟩
         · exact (Sub.refl _)
        ·refine AO.cG rfl rfl (bD (eq_false_of_ne_true hc20)) (Calm.move rfl rfl) ?_
         refine AO.cG rfl rfl (bD (eq_false_of_ne_true hc20)) (Calm.move rfl rfl) ?_
         obtain ⟨hg21, hq19⟩ := of_guard hq19
         refine AO.cG (x := eU8 (byteAt p0 x10)) rfl rfl (bD (eq_false_of_ne_true hc20)) (Calm.idxS rfl rfl rfl hg21 Try.underlying9) ?_
         refine AO.cG (x := eBool (decide ((byteAt p0 x10) = (10 : Int)))) rfl rfl (bD (eq_false_of_ne_true hc20)) (Calm.int rfl rfl rfl rfl) ?_
         refine AO.c (Calm.pickF rfl (bD (eq_false_of_ne_true hc20)) rfl) ?_
         cases hq19
         refine AO.nilE ⟨rfl, rfl⟩ ?_ ?_
         · exact ⟨rfl, rfl, rfl, rfl, rfl, rfl, rfl, trivial⟩
         · exact (Sub.refl _)
       ·rcases of_ite h with ⟨hc22, h⟩ | ⟨hc22, h⟩
        ·refine AW.condT' _ rfl hc22 ?_
         refine AW.sr ?_
         refine AO.c (Calm.assign rfl rfl) ?_
         refine AO.c (Calm.assign rfl rfl) ?_
         refine AO.c (Calm.assign rfl rfl) ?_
         refine AO.nH [4, 5, 6] (H' := []) (Sub.nil _) ?_
         refine AW.rK [4, 5, 6] ?_
         have hr := Option.some.inj h
         subst hr
         exact ⟨[(eStr (ByteArray.mk #[])), (eI64 (0 : Int)), (eBool false)], ⟨rfl, rfl, rfl, rfl, rfl, rfl, trivial⟩, rfl⟩
        ·refine AW.condF' _ rfl hc22 ?_
         refine AW.sK [0, 1, 7, 8, 9, 10] ?_
         refine AW.sr ?_
         refine AO.c (Calm.move rfl rfl) ?_
         refine AO.c (Calm.move rfl rfl) ?_
         refine AO.lit (Z := (eU8 (0 : Int))) (xs := (([t17.1] : List Int).map eU8)) (qs := [(0, (eU8 t17.1))]) rfl 51 rfl (by decide) rfl ⟨rfl, rfl, rfl, trivial⟩ Try.underlying84 sz5 zr5 lay5 rfl (by decide) (litOK (z := 1) [(eU8 t17.1)] rfl ⟨⟨rfl, rfl⟩, trivial⟩) rfl fun n23 => ?_
         obtain ⟨hg25, h⟩ := of_guard h
         refine AO.appendL (l := x9) (m := ([t17.1] : List Int)) 1 52 rfl (by decide) rfl rfl rfl rfl rfl (Src.ownL (f := eU8) (l := ([t17.1] : List Int)) 0 rfl) Try.underlying84 Try.underlying84 sz5 by5 zr5 rfl hg25 (by decide) fun n24 => ?_
         refine AO.c (Calm.assign rfl rfl) ?_
         refine AO.nH [0, 1, 7, 8, 10] (H' := [(n24, (.mem (.ar 1 ((x9 ++ ([t17.1] : List Int)).map eU8))))]) (Sub.cons 1 rfl (Sub.nil _)) ?_
         refine AW.reg ?_
         refine AO.c (Calm.move rfl rfl) ?_
         refine AO.c (Calm.move rfl rfl) ?_
         refine AO.c (x := eI64 (w64 (x10 + t17.2.1))) (Calm.int rfl rfl rfl rfl) ?_
         refine AO.c (Calm.assign rfl rfl) ?_
         refine AO.nK [0, 1, 7, 8] ?_
         exact ⟨kq12, Nat.lt_succ_self _, n24, (x9 ++ ([t17.1] : List Int)), (w64 (x10 + t17.2.1)), rfl, rfl, by rw [hrec11]; exact h⟩
     ·refine AW.condN _ rfl hc13 ?_
      refine AW.eH [] (H' := []) (Sub.nil _) ?_
      exact ⟨rfl, rfl, h⟩
    ·rintro _ _ ⟨rfl, rfl, h⟩
     rw [escape_Unquote_c0.eq_1] at h
     refine AW.sr ?_
     refine AO.c (Calm.assign rfl rfl) ?_
     refine AO.c (Calm.assign rfl rfl) ?_
     refine AO.c (Calm.assign rfl rfl) ?_
     refine AO.nK [4, 5, 6] ?_
     refine AW.rK [4, 5, 6] ?_
     have hr := Option.some.inj h
     subst hr
     exact ⟨[(eStr (ByteArray.mk #[])), (eI64 (0 : Int)), (eBool false)], ⟨rfl, rfl, rfl, rfl, rfl, rfl, trivial⟩, rfl⟩
end Go.Avl.T2
/- bosket/bosketref03.word; printed by avmain.py. -/
namespace Go.Avl.T2
open Go Go.RowKit Go.Proofs Go.Avl
set_option linter.unusedVariables false
set_option maxRecDepth 100000
set_option maxHeartbeats 4000000
attribute [local irreducible] AW AO AQ Spec SpecH Calm

def bosketref03_word (k : Nat) (p0 : Int) : Option Bool :=
  (bosketref03_in k (ByteArray.mk #[48, 49, 50, 51, 52, 53, 54, 55, 56, 57, 97, 98, 99, 100, 101, 102, 103, 104, 105, 106, 107, 108, 109, 110, 111, 112, 113, 114, 115, 116, 117, 118, 119, 120, 121, 122, 65, 66, 67, 68, 69, 70, 71, 72, 73, 74, 75, 76, 77, 78, 79, 80, 81, 82, 83, 84, 85, 86, 87, 88, 89, 90]) p0).bind fun t2 =>
  some (t2)
theorem bosketref03_word_spec {k : Nat} {p0 : Int} {r : Bool} (h : bosketref03_word k p0 = some r) : Spec Try.prog 99 [(eU8 p0)] (eBool r) := by
  rw [bosketref03_word.eq_1] at h
  refine Spec.intro (res := [.tmp 2]) Try.func99 rfl rfl rfl (Nat.le_of_ble_eq_true rfl) ?_
  refine AW.sr ?_
  refine AO.c (Calm.assign rfl rfl) ?_
  refine AO.nK [0] ?_
  refine AW.sr ?_
  refine AO.c (Calm.move rfl rfl) ?_
  obtain ⟨t2, et2, h⟩ := of_bind h
  refine AO.callS [(eStr (ByteArray.mk #[48, 49, 50, 51, 52, 53, 54, 55, 56, 57, 97, 98, 99, 100, 101, 102, 103, 104, 105, 106, 107, 108, 109, 110, 111, 112, 113, 114, 115, 116, 117, 118, 119, 120, 121, 122, 65, 66, 67, 68, 69, 70, 71, 72, 73, 74, 75, 76, 77, 78, 79, 80, 81, 82, 83, 84, 85, 86, 87, 88, 89, 90])), (eU8 p0)] (eBool t2) 4 rfl (by decide) ok97 rfl rfl rfl ⟨rfl, rfl, rfl, rfl, trivial⟩ (bosketref03_in_spec et2) ?_
  refine AO.c (Calm.assign rfl rfl) ?_
  refine AO.nK [2] ?_
  refine AW.rK [2] ?_
  have hr := Option.some.inj h
  subst hr
  exact ⟨[(eBool t2)], ⟨rfl, rfl, trivial⟩, rfl⟩
end Go.Avl.T2
/- bosket/bosketref03.Read; printed by avmain.py. -/
namespace Go.Avl.T2
open Go Go.RowKit Go.Proofs Go.Avl
set_option linter.unusedVariables false
set_option maxRecDepth 100000
set_option maxHeartbeats 4000000
attribute [local irreducible] AW AO AQ Spec SpecH Calm

def bosketref03_Read_c0 (k : Nat) (p0 : ByteArray) : Option (Int × Int × Bool) :=
  Option.bind (α := Bool) (if (1 : Int) < (p0.size : Int) then if 0 ≤ (1 : Int) ∧ (1 : Int) < (p0.size : Int) then if (32 : Int) ≤ (byteAt p0 (1 : Int)) then if 0 ≤ (1 : Int) ∧ (1 : Int) < (p0.size : Int) then if (byteAt p0 (1 : Int)) ≤ (126 : Int) then if 0 ≤ (1 : Int) ∧ (1 : Int) < (p0.size : Int) then (bosketref03_word k (byteAt p0 (1 : Int))).bind fun t14 =>
  some (!t14)
  else none
  else some (false)
  else none
  else some (false)
  else none
  else some (false)) fun b6 =>
  if b6 = true then if 0 ≤ (1 : Int) ∧ (1 : Int) < (p0.size : Int) then some ((byteAt p0 (1 : Int)), (2 : Int), true)
  else none
  else some ((0 : Int), (0 : Int), false)
def bosketref03_Read_l1 (k : Nat) (p0 : ByteArray) : Nat → Int → Option (Int × Int × Bool)
  | 0, _ => none
  | j + 1, x17 =>
    if x17 < (256 : Int) then (bosketref03_Byte k (w8 x17) (ByteArray.mk #[])).bind fun t21 =>
    Option.bind (α := Bool) (if (t21.size : Int) = (2 : Int) then if 0 ≤ (1 : Int) ∧ (1 : Int) < (t21.size : Int) then if (byteAt t21 (1 : Int)) ≠ (92 : Int) then if (1 : Int) < (p0.size : Int) then if 0 ≤ (0 : Int) ∧ (0 : Int) ≤ (2 : Int) ∧ (2 : Int) ≤ (p0.size : Int) then some (decide ((p0.extract (0 : Int).toNat (2 : Int).toNat) = t21))
    else none
    else some (false)
    else some (false)
    else none
    else some (false)) fun b22 =>
    if b22 = true then some ((w8 x17), (2 : Int), true)
    else if 0 ≤ (IntKind.i64.wrap (x17.tdiv (16 : Int))) ∧ (IntKind.i64.wrap (x17.tdiv (16 : Int))) ≤ (w64 ((IntKind.i64.wrap (x17.tdiv (16 : Int))) + (1 : Int))) ∧ (w64 ((IntKind.i64.wrap (x17.tdiv (16 : Int))) + (1 : Int))) ≤ ((ByteArray.mk #[48, 49, 50, 51, 52, 53, 54, 55, 56, 57, 97, 98, 99, 100, 101, 102]).size : Int) then if (ByteArray.mk #[92, 120]).size + ((ByteArray.mk #[48, 49, 50, 51, 52, 53, 54, 55, 56, 57, 97, 98, 99, 100, 101, 102]).extract (IntKind.i64.wrap (x17.tdiv (16 : Int))).toNat (w64 ((IntKind.i64.wrap (x17.tdiv (16 : Int))) + (1 : Int))).toNat).size ≤ 9223372036854775807 then if 0 ≤ (x17.tmod (16 : Int)) ∧ (x17.tmod (16 : Int)) ≤ (w64 ((x17.tmod (16 : Int)) + (1 : Int))) ∧ (w64 ((x17.tmod (16 : Int)) + (1 : Int))) ≤ ((ByteArray.mk #[48, 49, 50, 51, 52, 53, 54, 55, 56, 57, 97, 98, 99, 100, 101, 102]).size : Int) then if ((ByteArray.mk #[92, 120]) ++ ((ByteArray.mk #[48, 49, 50, 51, 52, 53, 54, 55, 56, 57, 97, 98, 99, 100, 101, 102]).extract (IntKind.i64.wrap (x17.tdiv (16 : Int))).toNat (w64 ((IntKind.i64.wrap (x17.tdiv (16 : Int))) + (1 : Int))).toNat)).size + ((ByteArray.mk #[48, 49, 50, 51, 52, 53, 54, 55, 56, 57, 97, 98, 99, 100, 101, 102]).extract (x17.tmod (16 : Int)).toNat (w64 ((x17.tmod (16 : Int)) + (1 : Int))).toNat).size ≤ 9223372036854775807 then Option.bind (α := Bool) (if (3 : Int) < (p0.size : Int) then if 0 ≤ (0 : Int) ∧ (0 : Int) ≤ (4 : Int) ∧ (4 : Int) ≤ (p0.size : Int) then some (decide ((p0.extract (0 : Int).toNat (4 : Int).toNat) = (((ByteArray.mk #[92, 120]) ++ ((ByteArray.mk #[48, 49, 50, 51, 52, 53, 54, 55, 56, 57, 97, 98, 99, 100, 101, 102]).extract (IntKind.i64.wrap (x17.tdiv (16 : Int))).toNat (w64 ((IntKind.i64.wrap (x17.tdiv (16 : Int))) + (1 : Int))).toNat)) ++ ((ByteArray.mk #[48, 49, 50, 51, 52, 53, 54, 55, 56, 57, 97, 98, 99, 100, 101, 102]).extract (x17.tmod (16 : Int)).toNat (w64 ((x17.tmod (16 : Int)) + (1 : Int))).toNat))))
    else none
    else some (false)) fun b34 =>
    if b34 = true then some ((w8 x17), (4 : Int), true)
    else (bosketref03_Read_l1 k p0 j) (w64 (x17 + (1 : Int)))
    else none
    else none
    else none
    else none
    else bosketref03_Read_c0 k p0
def bosketref03_Read (k : Nat) (p0 : ByteArray) : Option (Int × Int × Bool) :=
  if p0 = (ByteArray.mk #[]) then some ((0 : Int), (0 : Int), false)
  else if 0 ≤ (0 : Int) ∧ (0 : Int) < (p0.size : Int) then if (byteAt p0 (0 : Int)) ≠ (92 : Int) then if 0 ≤ (0 : Int) ∧ (0 : Int) < (p0.size : Int) then some ((byteAt p0 (0 : Int)), (1 : Int), true)
  else none
  else bosketref03_Read_l1 k p0 k (0 : Int)
  else none
theorem bosketref03_Read_spec {k : Nat} {p0 : ByteArray} {r : (Int × Int × Bool)} (h : bosketref03_Read k p0 = some r) : Spec Try.prog 89 [(eStr p0)] (.tup [(eU8 r.1), (eI64 r.2.1), (eBool r.2.2)]) := by
  rw [bosketref03_Read.eq_1] at h
  refine Spec.intro (res := [.tmp 2, .tmp 3, .tmp 4]) Try.func89 rfl rfl rfl (Nat.le_of_ble_eq_true rfl) ?_
  refine AW.sr ?_
  refine AO.c (Calm.assign rfl rfl) ?_
  refine AO.c (Calm.assign rfl rfl) ?_
  refine AO.c (Calm.assign rfl rfl) ?_
  refine AO.nK [0] ?_
  refine AW.seq ?_
  refine AW.sr ?_
  refine AO.c (Calm.move rfl rfl) ?_
  refine AO.c (x := eBool (decide (p0 = (ByteArray.mk #[])))) (Calm.str rfl rfl rfl rfl) ?_
  refine AO.nK [0, 9] ?_
  rcases of_ite h with ⟨hc2, h⟩ | ⟨hc2, h⟩
  ·refine AW.condP _ rfl hc2 ?_
   refine AW.sr ?_
   refine AO.c (Calm.assign rfl rfl) ?_
   refine AO.c (Calm.assign rfl rfl) ?_
   refine AO.c (Calm.assign rfl rfl) ?_
   refine AO.nK [2, 3, 4] ?_
   refine AW.rK [2, 3, 4] ?_
   have hr := Option.some.inj h
   subst hr
   exact ⟨[(eU8 (0 : Int)), (eI64 (0 : Int)), (eBool false)], ⟨rfl, rfl, rfl, rfl, rfl, rfl, trivial⟩, rfl⟩
  ·refine AW.condN _ rfl hc2 ?_
   refine AW.sK [0] ?_
   refine AW.seq ?_
   refine AW.sr ?_
   refine AO.c (Calm.move rfl rfl) ?_
   obtain ⟨hg3, h⟩ := of_guard h
   refine AO.c (x := eU8 (byteAt p0 (0 : Int))) (Calm.idxS rfl rfl rfl hg3 Try.underlying9) ?_
   refine AO.c (x := eBool (decide ((byteAt p0 (0 : Int)) ≠ (92 : Int)))) (Calm.int rfl rfl rfl rfl) ?_
   refine AO.nK [0, 12] ?_
   rcases of_ite h with ⟨hc4, h⟩ | ⟨hc4, h⟩
   ·refine AW.condP _ rfl hc4 ?_
    refine AW.sr ?_
    refine AO.c (Calm.move rfl rfl) ?_
    obtain ⟨hg5, h⟩ := of_guard h
    refine AO.c (x := eU8 (byteAt p0 (0 : Int))) (Calm.idxS rfl rfl rfl hg5 Try.underlying9) ?_
    refine AO.c (Calm.assign rfl rfl) ?_
    refine AO.c (Calm.assign rfl rfl) ?_
    refine AO.c (Calm.assign rfl rfl) ?_
    refine AO.nK [2, 3, 4] ?_
    refine AW.rK [2, 3, 4] ?_
    have hr := Option.some.inj h
    subst hr
    exact ⟨[(eU8 (byteAt p0 (0 : Int))), (eI64 (1 : Int)), (eBool true)], ⟨rfl, rfl, rfl, rfl, rfl, rfl, trivial⟩, rfl⟩
   ·refine AW.condN _ rfl hc4 ?_
    refine AW.sK [0] ?_
    refine AW.seq_mid (fun ρ H => ρ = [(0, (eStr p0))] ∧ H = [] ∧ bosketref03_Read_c0 k p0 = some r) ?_ ?_
    ·refine AW.sr ?_
     refine AO.c (Calm.assign rfl rfl) ?_
     refine AO.nK [0, 5] ?_
     refine AW.block ?_
     refine AW.wK [0, 5] ?_
     refine AW.loop (fun kq ρ H => ∃ (x17 : Int), ρ = [(0, (eStr p0)), (5, (eI64 x17))] ∧ H = [] ∧ bosketref03_Read_l1 k p0 kq x17 = some r) k ⟨(0 : Int), rfl, rfl, h⟩ ?_
     rintro kq19 _ _ ⟨x17, rfl, rfl, h⟩
     cases kq19 with
     | zero => rw [bosketref03_Read_l1.eq_1] at h; cases h
     | succ kq19 =>
     rw [bosketref03_Read_l1.eq_2] at h
     generalize hrec18 : bosketref03_Read_l1 k p0 kq19 = rec18 at h
     refine AW.seq ?_
     refine AW.sr ?_
     refine AO.c (Calm.move rfl rfl) ?_
     refine AO.c (x := eBool (decide (x17 < (256 : Int)))) (Calm.int rfl rfl rfl rfl) ?_
     refine AO.nK [0, 5, 16] ?_
     rcases of_ite h with ⟨hc20, h⟩ | ⟨hc20, h⟩
     ·refine AW.condP _ rfl hc20 ?_
      refine AW.sK [0, 5] ?_
      refine AW.seq ?_
      refine AW.block ?_
      refine AW.sr ?_
      refine AO.c (Calm.move rfl rfl) ?_
      refine AO.c (x := eU8 (w8 x17)) (Calm.conv rfl rfl Try.underlying3 Try.underlying5) ?_
      obtain ⟨t21, et21, h⟩ := of_bind h
      refine AO.callS [(eU8 (w8 x17)), (eStr (ByteArray.mk #[]))] (eStr t21) 21 rfl (by decide) ok82 rfl rfl rfl ⟨rfl, rfl, rfl, rfl, trivial⟩ (bosketref03_Byte_spec et21) ?_
      refine AO.c (Calm.assign rfl rfl) ?_
      refine AO.nK [0, 5, 6] ?_
      refine AW.seq ?_
      refine AW.seq ?_
      obtain ⟨b22, hq23, h⟩ := of_bind h
      refine AW.regM [(0, (eStr p0)), (5, (eI64 x17)), (40, (eBool b22))] [] ?_ ?_
      ·refine AO.c (Calm.move rfl rfl) ?_
       refine AO.c (Calm.lenStr rfl rfl Try.underlying9) ?_
       refine AO.c (x := eBool (decide ((t21.size : Int) = (2 : Int)))) (Calm.int rfl rfl rfl rfl) ?_
       refine AO.c (Calm.move rfl rfl) ?_
       rcases of_ite hq23 with ⟨hc24, hq23⟩ | ⟨hc24, hq23⟩
       ·refine AO.cG rfl rfl (bD (decide_eq_true hc24)) (Calm.move rfl rfl) ?_
        obtain ⟨hg25, hq23⟩ := of_guard hq23
        refine AO.cG (x := eU8 (byteAt t21 (1 : Int))) rfl rfl (bD (decide_eq_true hc24)) (Calm.idxS rfl rfl rfl hg25 Try.underlying9) ?_
        refine AO.cG (x := eBool (decide ((byteAt t21 (1 : Int)) ≠ (92 : Int)))) rfl rfl (bD (decide_eq_true hc24)) (Calm.int rfl rfl rfl rfl) ?_
        refine AO.c (Calm.pickT rfl (bD (decide_eq_true hc24)) rfl) ?_
        refine AO.c (Calm.move rfl rfl) ?_
        rcases of_ite hq23 with ⟨hc26, hq23⟩ | ⟨hc26, hq23⟩
        ·refine AO.cG rfl rfl (bD (decide_eq_true hc26)) (Calm.move rfl rfl) ?_
         refine AO.cG rfl rfl (bD (decide_eq_true hc26)) (Calm.lenStr rfl rfl Try.underlying9) ?_
         refine AO.cG (x := eBool (decide ((1 : Int) < (p0.size : Int)))) rfl rfl (bD (decide_eq_true hc26)) (Calm.int rfl rfl rfl rfl) ?_
         refine AO.c (Calm.pickT rfl (bD (decide_eq_true hc26)) rfl) ?_
         refine AO.c (Calm.move rfl rfl) ?_
         rcases of_ite hq23 with ⟨hc27, hq23⟩ | ⟨hc27, hq23⟩
         ·refine AO.cG rfl rfl (bD (decide_eq_true hc27)) (Calm.move rfl rfl) ?_
          obtain ⟨hg28, hq23⟩ := of_guard hq23
          refine AO.cG (x := eStr (p0.extract (0 : Int).toNat (2 : Int).toNat)) rfl rfl (bD (decide_eq_true hc27)) (Calm.sliceS rfl rfl rfl rfl hg28 Try.underlying9) ?_
          refine AO.cG rfl rfl (bD (decide_eq_true hc27)) (Calm.move rfl rfl) ?_
          refine AO.cG (x := eBool (decide ((p0.extract (0 : Int).toNat (2 : Int).toNat) = t21))) rfl rfl (bD (decide_eq_true hc27)) (Calm.str rfl rfl rfl rfl) ?_
          refine AO.c (Calm.pickT rfl (bD (decide_eq_true hc27)) rfl) ?_
          cases hq23
          refine AO.nilE ⟨rfl, rfl⟩ ?_ ?_
          · exact ⟨rfl, rfl, rfl, trivial⟩
          · exact (Sub.refl _)
         ·refine AO.sT rfl rfl (bD (decide_eq_false hc27)) ?_
          refine AO.sT rfl rfl (bD (decide_eq_false hc27)) ?_
          refine AO.sT rfl rfl (bD (decide_eq_false hc27)) ?_
          refine AO.sT rfl rfl (bD (decide_eq_false hc27)) ?_
          refine AO.c (Calm.pickF rfl (bD (decide_eq_false hc27)) rfl) ?_
          cases hq23
          refine AO.nilE ⟨rfl, rfl⟩ ?_ ?_
          · exact ⟨rfl, rfl, rfl, trivial⟩
          · exact (Sub.refl _)
        ·refine AO.sT rfl rfl (bD (decide_eq_false hc26)) ?_
         refine AO.sT rfl rfl (bD (decide_eq_false hc26)) ?_
         refine AO.sT rfl rfl (bD (decide_eq_false hc26)) ?_
         refine AO.c (Calm.pickF rfl (bD (decide_eq_false hc26)) rfl) ?_
         refine AO.c (Calm.move rfl rfl) ?_
         refine AO.sT rfl rfl rfl ?_
         refine AO.sT rfl rfl rfl ?_
         refine AO.sT rfl rfl rfl ?_
         refine AO.sT rfl rfl rfl ?_
         refine AO.c (Calm.pickF rfl rfl rfl) ?_
         cases hq23
         refine AO.nilE ⟨rfl, rfl⟩ ?_ ?_
         · exact ⟨rfl, rfl, rfl, trivial⟩
         · exact (Sub.refl _)
       ·refine AO.sT rfl rfl (bD (decide_eq_false hc24)) ?_
        refine AO.sT rfl rfl (bD (decide_eq_false hc24)) ?_
        refine AO.sT rfl rfl (bD (decide_eq_false hc24)) ?_
        refine AO.c (Calm.pickF rfl (bD (decide_eq_false hc24)) rfl) ?_
        refine AO.c (Calm.move rfl rfl) ?_
        refine AO.sT rfl rfl rfl ?_
        refine AO.sT rfl rfl rfl ?_
        refine AO.sT rfl rfl rfl ?_
        refine AO.c (Calm.pickF rfl rfl rfl) ?_
        refine AO.c (Calm.move rfl rfl) ?_
        refine AO.sT rfl rfl rfl ?_
        refine AO.sT rfl rfl rfl ?_
        refine AO.sT rfl rfl rfl ?_
        refine AO.sT rfl rfl rfl ?_
        refine AO.c (Calm.pickF rfl rfl rfl) ?_
        cases hq23
        refine AO.nilE ⟨rfl, rfl⟩ ?_ ?_
        · exact ⟨rfl, rfl, rfl, trivial⟩
        · exact (Sub.refl _)
      ·rcases of_ite h with ⟨hc29, h⟩ | ⟨hc29, h⟩
       ·refine AW.condT' _ rfl hc29 ?_
        refine AW.sr ?_
        refine AO.c (Calm.move rfl rfl) ?_
        refine AO.c (x := eU8 (w8 x17)) (Calm.conv rfl rfl Try.underlying3 Try.underlying5) ?_
        refine AO.c (Calm.assign rfl rfl) ?_
        refine AO.c (Calm.assign rfl rfl) ?_
        refine AO.c (Calm.assign rfl rfl) ?_
        refine AO.nK [2, 3, 4] ?_
        refine AW.rK [2, 3, 4] ?_
        have hr := Option.some.inj h
        subst hr
        exact ⟨[(eU8 (w8 x17)), (eI64 (2 : Int)), (eBool true)], ⟨rfl, rfl, rfl, rfl, rfl, rfl, trivial⟩, rfl⟩
       ·refine AW.condF' _ rfl hc29 ?_
        refine AW.sK [0, 5] ?_
        refine AW.seq ?_
        refine AW.regQ (by rfl) (by decide +kernel) ?_
        refine AQ.c (Calm.move rfl rfl) ?_
        refine AQ.c (x := eI64 (IntKind.i64.wrap (x17.tdiv (16 : Int)))) (Calm.quo rfl rfl rfl (by decide)) ?_
        refine AQ.c (Calm.move rfl rfl) ?_
        refine AQ.c (x := eI64 (IntKind.i64.wrap (x17.tdiv (16 : Int)))) (Calm.quo rfl rfl rfl (by decide)) ?_
        refine AQ.c (x := eI64 (w64 ((IntKind.i64.wrap (x17.tdiv (16 : Int))) + (1 : Int)))) (Calm.int rfl rfl rfl rfl) ?_
        obtain ⟨hg30, h⟩ := of_guard h
        refine AQ.c (x := eStr ((ByteArray.mk #[48, 49, 50, 51, 52, 53, 54, 55, 56, 57, 97, 98, 99, 100, 101, 102]).extract (IntKind.i64.wrap (x17.tdiv (16 : Int))).toNat (w64 ((IntKind.i64.wrap (x17.tdiv (16 : Int))) + (1 : Int))).toNat)) (Calm.sliceS rfl rfl rfl rfl hg30 Try.underlying9) ?_
        obtain ⟨hg31, h⟩ := of_guard h
        refine AQ.c (x := eStr ((ByteArray.mk #[92, 120]) ++ ((ByteArray.mk #[48, 49, 50, 51, 52, 53, 54, 55, 56, 57, 97, 98, 99, 100, 101, 102]).extract (IntKind.i64.wrap (x17.tdiv (16 : Int))).toNat (w64 ((IntKind.i64.wrap (x17.tdiv (16 : Int))) + (1 : Int))).toNat))) (Calm.cat rfl rfl rfl hg31) ?_
        refine AQ.c (Calm.move rfl rfl) ?_
        refine AQ.c (x := eI64 (x17.tmod (16 : Int))) (Calm.rem rfl rfl rfl (by decide)) ?_
        refine AQ.c (Calm.move rfl rfl) ?_
        refine AQ.c (x := eI64 (x17.tmod (16 : Int))) (Calm.rem rfl rfl rfl (by decide)) ?_
        refine AQ.c (x := eI64 (w64 ((x17.tmod (16 : Int)) + (1 : Int)))) (Calm.int rfl rfl rfl rfl) ?_
        obtain ⟨hg32, h⟩ := of_guard h
        refine AQ.c (x := eStr ((ByteArray.mk #[48, 49, 50, 51, 52, 53, 54, 55, 56, 57, 97, 98, 99, 100, 101, 102]).extract (x17.tmod (16 : Int)).toNat (w64 ((x17.tmod (16 : Int)) + (1 : Int))).toNat)) (Calm.sliceS rfl rfl rfl rfl hg32 Try.underlying9) ?_
        obtain ⟨hg33, h⟩ := of_guard h
        refine AQ.c (x := eStr (((ByteArray.mk #[92, 120]) ++ ((ByteArray.mk #[48, 49, 50, 51, 52, 53, 54, 55, 56, 57, 97, 98, 99, 100, 101, 102]).extract (IntKind.i64.wrap (x17.tdiv (16 : Int))).toNat (w64 ((IntKind.i64.wrap (x17.tdiv (16 : Int))) + (1 : Int))).toNat)) ++ ((ByteArray.mk #[48, 49, 50, 51, 52, 53, 54, 55, 56, 57, 97, 98, 99, 100, 101, 102]).extract (x17.tmod (16 : Int)).toNat (w64 ((x17.tmod (16 : Int)) + (1 : Int))).toNat))) (Calm.cat rfl rfl rfl hg33) ?_
        refine AQ.c (Calm.assign rfl rfl) ?_
        refine AQ.nK [0, 5, 7] ?_
        refine AW.seq ?_
        obtain ⟨b34, hq35, h⟩ := of_bind h
        refine AW.regM [(0, (eStr p0)), (5, (eI64 x17)), (65, (eBool b34))] [] ?_ ?_
        ·refine AO.c (Calm.move rfl rfl) ?_
         refine AO.c (Calm.lenStr rfl rfl Try.underlying9) ?_
         refine AO.c (x := eBool (decide ((3 : Int) < (p0.size : Int)))) (Calm.int rfl rfl rfl rfl) ?_
         refine AO.c (Calm.move rfl rfl) ?_
         rcases of_ite hq35 with ⟨hc36, hq35⟩ | ⟨hc36, hq35⟩
         ·refine AO.cG rfl rfl (bD (decide_eq_true hc36)) (Calm.move rfl rfl) ?_
          obtain ⟨hg37, hq35⟩ := of_guard hq35
          refine AO.cG (x := eStr (p0.extract (0 : Int).toNat (4 : Int).toNat)) rfl rfl (bD (decide_eq_true hc36)) (Calm.sliceS rfl rfl rfl rfl hg37 Try.underlying9) ?_
          refine AO.cG rfl rfl (bD (decide_eq_true hc36)) (Calm.move rfl rfl) ?_
          refine AO.cG (x := eBool (decide ((p0.extract (0 : Int).toNat (4 : Int).toNat) = (((ByteArray.mk #[92, 120]) ++ ((ByteArray.mk #[48, 49, 50, 51, 52, 53, 54, 55, 56, 57, 97, 98, 99, 100, 101, 102]).extract (IntKind.i64.wrap (x17.tdiv (16 : Int))).toNat (w64 ((IntKind.i64.wrap (x17.tdiv (16 : Int))) + (1 : Int))).toNat)) ++ ((ByteArray.mk #[48, 49, 50, 51, 52, 53, 54, 55, 56, 57, 97, 98, 99, 100, 101, 102]).extract (x17.tmod (16 : Int)).toNat (w64 ((x17.tmod (16 : Int)) + (1 : Int))).toNat))))) rfl rfl (bD (decide_eq_true hc36)) (Calm.str rfl rfl rfl rfl) ?_
          refine AO.c (Calm.pickT rfl (bD (decide_eq_true hc36)) rfl) ?_
          cases hq35
          refine AO.nilE ⟨rfl, rfl⟩ ?_ ?_
          · exact ⟨rfl, rfl, rfl, trivial⟩
          · exact (Sub.refl _)
         ·refine AO.sT rfl rfl (bD (decide_eq_false hc36)) ?_
          refine AO.sT rfl rfl (bD (decide_eq_false hc36)) ?_
          refine AO.sT rfl rfl (bD (decide_eq_false hc36)) ?_
          refine AO.sT rfl rfl (bD (decide_eq_false hc36)) ?_
          refine AO.c (Calm.pickF rfl (bD (decide_eq_false hc36)) rfl) ?_
          cases hq35
          refine AO.nilE ⟨rfl, rfl⟩ ?_ ?_
          · exact ⟨rfl, rfl, rfl, trivial⟩
          · exact (Sub.refl _)
        ·rcases of_ite h with ⟨hc38, h⟩ | ⟨hc38, h⟩
         ·refine AW.condT' _ rfl hc38 ?_
          refine AW.sr ?_
          refine AO.c (Calm.move rfl rfl) ?_
          refine AO.c (x := eU8 (w8 x17)) (Calm.conv rfl rfl Try.underlying3 Try.underlying5) ?_
          refine AO.c (Calm.assign rfl rfl) ?_
          refine AO.c (Calm.assign rfl rfl) ?_
          refine AO.c (Calm.assign rfl rfl) ?_
          refine AO.nK [2, 3, 4] ?_
          refine AW.rK [2, 3, 4] ?_
          have hr := Option.some.inj h
          subst hr
          exact ⟨[(eU8 (w8 x17)), (eI64 (4 : Int)), (eBool true)], ⟨rfl, rfl, rfl, rfl, rfl, rfl, trivial⟩, rfl⟩
         ·refine AW.condF' _ rfl hc38 ?_
          refine AW.sK [0, 5] ?_
          refine AW.reg ?_
          refine AO.c (Calm.move rfl rfl) ?_
          refine AO.c (x := eI64 (w64 (x17 + (1 : Int)))) (Calm.int rfl rfl rfl rfl) ?_
          refine AO.c (Calm.assign rfl rfl) ?_
          refine AO.nK [0, 5] ?_
          exact ⟨kq19, Nat.lt_succ_self _, (w64 (x17 + (1 : Int))), rfl, rfl, by rw [hrec18]; exact h⟩
     ·refine AW.condN _ rfl hc20 ?_
      refine AW.eK [0] ?_
      exact ⟨rfl, rfl, h⟩
    ·rintro _ _ ⟨rfl, rfl, h⟩
     rw [bosketref03_Read_c0.eq_1] at h
     refine AW.seq ?_
     refine AW.seq ?_
     obtain ⟨b6, hq7, h⟩ := of_bind h
     refine AW.regM [(0, (eStr p0)), (86, (eBool b6))] [] ?_ ?_
     ·refine AO.c (Calm.move rfl rfl) ?_
      refine AO.c (Calm.lenStr rfl rfl Try.underlying9) ?_
      refine AO.c (x := eBool (decide ((1 : Int) < (p0.size : Int)))) (Calm.int rfl rfl rfl rfl) ?_
      refine AO.c (Calm.move rfl rfl) ?_
      rcases of_ite hq7 with ⟨hc8, hq7⟩ | ⟨hc8, hq7⟩
      ·refine AO.cG rfl rfl (bD (decide_eq_true hc8)) (Calm.move rfl rfl) ?_
       obtain ⟨hg9, hq7⟩ := of_guard hq7
       refine AO.cG (x := eU8 (byteAt p0 (1 : Int))) rfl rfl (bD (decide_eq_true hc8)) (Calm.idxS rfl rfl rfl hg9 Try.underlying9) ?_
       refine AO.cG (x := eBool (decide ((32 : Int) ≤ (byteAt p0 (1 : Int))))) rfl rfl (bD (decide_eq_true hc8)) (Calm.int rfl rfl rfl rfl) ?_
       refine AO.c (Calm.pickT rfl (bD (decide_eq_true hc8)) rfl) ?_
       refine AO.c (Calm.move rfl rfl) ?_
       rcases of_ite hq7 with ⟨hc10, hq7⟩ | ⟨hc10, hq7⟩
       ·refine AO.cG rfl rfl (bD (decide_eq_true hc10)) (Calm.move rfl rfl) ?_
        obtain ⟨hg11, hq7⟩ := of_guard hq7
        refine AO.cG (x := eU8 (byteAt p0 (1 : Int))) rfl rfl (bD (decide_eq_true hc10)) (Calm.idxS rfl rfl rfl hg11 Try.underlying9) ?_
        refine AO.cG (x := eBool (decide ((byteAt p0 (1 : Int)) ≤ (126 : Int)))) rfl rfl (bD (decide_eq_true hc10)) (Calm.int rfl rfl rfl rfl) ?_
        refine AO.c (Calm.pickT rfl (bD (decide_eq_true hc10)) rfl) ?_
        refine AO.c (Calm.move rfl rfl) ?_
        rcases of_ite hq7 with ⟨hc12, hq7⟩ | ⟨hc12, hq7⟩
        ·refine AO.cG rfl rfl (bD (decide_eq_true hc12)) (Calm.move rfl rfl) ?_
         obtain ⟨hg13, hq7⟩ := of_guard hq7
         refine AO.cG (x := eU8 (byteAt p0 (1 : Int))) rfl rfl (bD (decide_eq_true hc12)) (Calm.idxS rfl rfl rfl hg13 Try.underlying9) ?_
         obtain ⟨t14, et14, hq7⟩ := of_bind hq7
         refine AO.callG 13 true 81 [(eU8 (byteAt p0 (1 : Int)))] (eBool t14) 84 rfl (by decide) ok99 rfl rfl (bD (decide_eq_true hc12)) rfl rfl ⟨rfl, rfl, trivial⟩ (bosketref03_word_spec et14) ?_
         refine AO.cG rfl rfl (bD (decide_eq_true hc12)) (Calm.not rfl rfl) ?_
         refine AO.c (Calm.pickT rfl (bD (decide_eq_true hc12)) rfl) ?_
         cases hq7
         refine AO.nilE ⟨rfl, rfl⟩ ?_ ?_
         · exact ⟨rfl, rfl, trivial⟩
         · exact (Sub.refl _)
        ·refine AO.sT rfl rfl (bD (decide_eq_false hc12)) ?_
         refine AO.sT rfl rfl (bD (decide_eq_false hc12)) ?_
         refine AO.sT rfl rfl (bD (decide_eq_false hc12)) ?_
         refine AO.sT rfl rfl (bD (decide_eq_false hc12)) ?_
         refine AO.c (Calm.pickF rfl (bD (decide_eq_false hc12)) rfl) ?_
         cases hq7
         refine AO.nilE ⟨rfl, rfl⟩ ?_ ?_
         · exact ⟨rfl, rfl, trivial⟩
         · exact (Sub.refl _)
       ·refine AO.sT rfl rfl (bD (decide_eq_false hc10)) ?_
        refine AO.sT rfl rfl (bD (decide_eq_false hc10)) ?_
        refine AO.sT rfl rfl (bD (decide_eq_false hc10)) ?_
        refine AO.c (Calm.pickF rfl (bD (decide_eq_false hc10)) rfl) ?_
        refine AO.c (Calm.move rfl rfl) ?_
        refine AO.sT rfl rfl rfl ?_
        refine AO.sT rfl rfl rfl ?_
        refine AO.sT rfl rfl rfl ?_
        refine AO.sT rfl rfl rfl ?_
        refine AO.c (Calm.pickF rfl rfl rfl) ?_
        cases hq7
        refine AO.nilE ⟨rfl, rfl⟩ ?_ ?_
        · exact ⟨rfl, rfl, trivial⟩
        · exact (Sub.refl _)
      ·refine AO.sT rfl rfl (bD (decide_eq_false hc8)) ?_
       refine AO.sT rfl rfl (bD (decide_eq_false hc8)) ?_
       refine AO.sT rfl rfl (bD (decide_eq_false hc8)) ?_
       refine AO.c (Calm.pickF rfl (bD (decide_eq_false hc8)) rfl) ?_
       refine AO.c (Calm.move rfl rfl) ?_
       refine AO.sT rfl rfl rfl ?_
       refine AO.sT rfl rfl rfl ?_
       refine AO.sT rfl rfl rfl ?_
       refine AO.c (Calm.pickF rfl rfl rfl) ?_
       refine AO.c (Calm.move rfl rfl) ?_
       refine AO.sT rfl rfl rfl ?_
       refine AO.sT rfl rfl rfl ?_
       refine AO.sT rfl rfl rfl ?_
       refine AO.sT rfl rfl rfl ?_
       refine AO.c (Calm.pickF rfl rfl rfl) ?_
       cases hq7
       refine AO.nilE ⟨rfl, rfl⟩ ?_ ?_
       · exact ⟨rfl, rfl, trivial⟩
       · exact (Sub.refl _)
     ·rcases of_ite h with ⟨hc15, h⟩ | ⟨hc15, h⟩
      ·refine AW.condT' _ rfl hc15 ?_
       refine AW.sr ?_
       refine AO.c (Calm.move rfl rfl) ?_
       obtain ⟨hg16, h⟩ := of_guard h
       refine AO.c (x := eU8 (byteAt p0 (1 : Int))) (Calm.idxS rfl rfl rfl hg16 Try.underlying9) ?_
       refine AO.c (Calm.assign rfl rfl) ?_
       refine AO.c (Calm.assign rfl rfl) ?_
       refine AO.c (Calm.assign rfl rfl) ?_
       refine AO.nK [2, 3, 4] ?_
       refine AW.rK [2, 3, 4] ?_
       have hr := Option.some.inj h
       subst hr
       exact ⟨[(eU8 (byteAt p0 (1 : Int))), (eI64 (2 : Int)), (eBool true)], ⟨rfl, rfl, rfl, rfl, rfl, rfl, trivial⟩, rfl⟩
      ·refine AW.condF' _ rfl hc15 ?_
       refine AW.sK [] ?_
       refine AW.sr ?_
       refine AO.c (Calm.assign rfl rfl) ?_
       refine AO.c (Calm.assign rfl rfl) ?_
       refine AO.c (Calm.assign rfl rfl) ?_
       refine AO.nK [2, 3, 4] ?_
       refine AW.rK [2, 3, 4] ?_
       have hr := Option.some.inj h
       subst hr
       exact ⟨[(eU8 (0 : Int)), (eI64 (0 : Int)), (eBool false)], ⟨rfl, rfl, rfl, rfl, rfl, rfl, trivial⟩, rfl⟩
end Go.Avl.T2
/- bosket/bosketref03.Unquote; printed by avmain.py. -/
namespace Go.Avl.T2
open Go Go.RowKit Go.Proofs Go.Avl
set_option linter.unusedVariables false
set_option maxRecDepth 100000
set_option maxHeartbeats 4000000
attribute [local irreducible] AW AO AQ Spec SpecH Calm

def bosketref03_Unquote_c0 (k : Nat) (p0 : ByteArray) (p1 : Int) (x8 : ByteArray) (x9 : Int) : Option (ByteArray × Int × Bool) :=
  Option.bind (α := Bool) (if (p0.size : Int) ≤ x9 then some (true)
  else if 0 ≤ x9 ∧ x9 < (p0.size : Int) then some (decide ((byteAt p0 x9) ≠ p1))
  else none) fun b10 =>
  if b10 = true then some ((ByteArray.mk #[]), (0 : Int), false)
  else some (x8, (w64 (x9 + (1 : Int))), true)
def bosketref03_Unquote_l1 (k : Nat) (p0 : ByteArray) (p1 : Int) : Nat → ByteArray → Int → Option (ByteArray × Int × Bool)
  | 0, _, _ => none
  | j + 1, x15, x16 =>
    Option.bind (α := Bool) (if x16 < (p0.size : Int) then if 0 ≤ x16 ∧ x16 < (p0.size : Int) then if (byteAt p0 x16) ≠ p1 then if 0 ≤ x16 ∧ x16 < (p0.size : Int) then some (decide ((byteAt p0 x16) ≠ (10 : Int)))
    else none
    else some (false)
    else none
    else some (false)) fun b19 =>
    if b19 = true then if 0 ≤ x16 ∧ x16 ≤ (p0.size : Int) ∧ (p0.size : Int) ≤ (p0.size : Int) then (bosketref03_Read k (p0.extract x16.toNat (p0.size : Int).toNat)).bind fun t27 =>
    if (!t27.2.2) = true then some ((ByteArray.mk #[]), (0 : Int), false)
    else if x15.size + (strOfNums ([t27.1] : List Int)).size ≤ 9223372036854775807 then (bosketref03_Unquote_l1 k p0 p1 j) (x15 ++ (strOfNums ([t27.1] : List Int))) (w64 (x16 + t27.2.1))
    else none
    else none
    else bosketref03_Unquote_c0 k p0 p1 x15 x16
def bosketref03_Unquote (k : Nat) (p0 : ByteArray) (p1 : Int) : Option (ByteArray × Int × Bool) :=
  Option.bind (α := Bool) (if p0 = (ByteArray.mk #[]) then some (true)
  else if 0 ≤ (0 : Int) ∧ (0 : Int) < (p0.size : Int) then some (decide ((byteAt p0 (0 : Int)) ≠ p1))
  else none) fun b3 =>
  if b3 = true then some ((ByteArray.mk #[]), (0 : Int), false)
  else bosketref03_Unquote_l1 k p0 p1 k (ByteArray.mk #[]) (1 : Int)
theorem bosketref03_Unquote_spec {k : Nat} {p0 : ByteArray} {p1 : Int} {r : (ByteArray × Int × Bool)} (h : bosketref03_Unquote k p0 p1 = some r) : Spec Try.prog 70 [(eStr p0), (eU8 p1)] (.tup [(eStr r.1), (eI64 r.2.1), (eBool r.2.2)]) := by
  rw [bosketref03_Unquote.eq_1] at h
  refine Spec.intro (res := [.tmp 4, .tmp 5, .tmp 6]) Try.func70 rfl rfl rfl (Nat.le_of_ble_eq_true rfl) ?_
  refine AW.sr ?_
  refine AO.c (Calm.assign rfl rfl) ?_
  refine AO.c (Calm.assign rfl rfl) ?_
  refine AO.c (Calm.assign rfl rfl) ?_
  refine AO.nK [0, 1] ?_
  refine AW.seq ?_
  refine AW.seq ?_
  obtain ⟨b3, hq4, h⟩ := of_bind h
  refine AW.regM [(0, (eStr p0)), (1, (eU8 p1)), (19, (eBool b3))] [] ?_ ?_
  ·refine AO.c (Calm.move rfl rfl) ?_
   refine AO.c (x := eBool (decide (p0 = (ByteArray.mk #[])))) (Calm.str rfl rfl rfl rfl) ?_
   refine AO.c (Calm.move rfl rfl) ?_
   rcases of_ite hq4 with ⟨hc5, hq4⟩ | ⟨hc5, hq4⟩
   ·refine AO.sF rfl rfl (bD (decide_eq_true hc5)) ?_
    refine AO.sF rfl rfl (bD (decide_eq_true hc5)) ?_
    refine AO.sF rfl rfl (bD (decide_eq_true hc5)) ?_
    refine AO.sF rfl rfl (bD (decide_eq_true hc5)) ?_
    refine AO.c (Calm.pickT rfl (bD (decide_eq_true hc5)) rfl) ?_
    cases hq4
    refine AO.nilE ⟨rfl, rfl⟩ ?_ ?_
    · exact ⟨rfl, rfl, rfl, trivial⟩
    · exact (Sub.refl _)
   ·refine AO.cG rfl rfl (bD (decide_eq_false hc5)) (Calm.move rfl rfl) ?_
    obtain ⟨hg6, hq4⟩ := of_guard hq4
    refine AO.cG (x := eU8 (byteAt p0 (0 : Int))) rfl rfl (bD (decide_eq_false hc5)) (Calm.idxS rfl rfl rfl hg6 Try.underlying9) ?_
    refine AO.cG rfl rfl (bD (decide_eq_false hc5)) (Calm.move rfl rfl) ?_
    refine AO.cG (x := eBool (decide ((byteAt p0 (0 : Int)) ≠ p1))) rfl rfl (bD (decide_eq_false hc5)) (Calm.int rfl rfl rfl rfl) ?_
    refine AO.c (Calm.pickF rfl (bD (decide_eq_false hc5)) rfl) ?_
    cases hq4
    refine AO.nilE ⟨rfl, rfl⟩ ?_ ?_
    · exact ⟨rfl, rfl, rfl, trivial⟩
    · exact (Sub.refl _)
  ·rcases of_ite h with ⟨hc7, h⟩ | ⟨hc7, h⟩
   ·refine AW.condT' _ rfl hc7 ?_
    refine AW.sr ?_
    refine AO.c (Calm.assign rfl rfl) ?_
    refine AO.c (Calm.assign rfl rfl) ?_
    refine AO.c (Calm.assign rfl rfl) ?_
    refine AO.nK [4, 5, 6] ?_
    refine AW.rK [4, 5, 6] ?_
    have hr := Option.some.inj h
    subst hr
    exact ⟨[(eStr (ByteArray.mk #[])), (eI64 (0 : Int)), (eBool false)], ⟨rfl, rfl, rfl, rfl, rfl, rfl, trivial⟩, rfl⟩
   ·refine AW.condF' _ rfl hc7 ?_
    refine AW.sK [0, 1] ?_
    refine AW.sr ?_
    refine AO.c (Calm.assign rfl rfl) ?_
    refine AO.c (Calm.assign rfl rfl) ?_
    refine AO.nK [0, 1, 7, 8] ?_
    refine AW.seq_mid (fun ρ H => ∃ (x8 : ByteArray) (x9 : Int), ρ = [(0, (eStr p0)), (1, (eU8 p1)), (7, (eStr x8)), (8, (eI64 x9))] ∧ H = [] ∧ bosketref03_Unquote_c0 k p0 p1 x8 x9 = some r) ?_ ?_
    ·refine AW.block ?_
     refine AW.wK [0, 1, 7, 8] ?_
     refine AW.loop (fun kq ρ H => ∃ (x15 : ByteArray) (x16 : Int), ρ = [(0, (eStr p0)), (1, (eU8 p1)), (7, (eStr x15)), (8, (eI64 x16))] ∧ H = [] ∧ bosketref03_Unquote_l1 k p0 p1 kq x15 x16 = some r) k ⟨(ByteArray.mk #[]), (1 : Int), rfl, rfl, h⟩ ?_
     rintro kq18 _ _ ⟨x15, x16, rfl, rfl, h⟩
     cases kq18 with
     | zero => rw [bosketref03_Unquote_l1.eq_1] at h; cases h
     | succ kq18 =>
     rw [bosketref03_Unquote_l1.eq_2] at h
     generalize hrec17 : bosketref03_Unquote_l1 k p0 p1 kq18 = rec17 at h
     refine AW.seq ?_
     refine AW.seq ?_
     obtain ⟨b19, hq20, h⟩ := of_bind h
     refine AW.regM [(0, (eStr p0)), (1, (eU8 p1)), (7, (eStr x15)), (8, (eI64 x16)), (36, (eBool b19))] [] ?_ ?_
     ·refine AO.c (Calm.move rfl rfl) ?_
      refine AO.c (Calm.move rfl rfl) ?_
      refine AO.c (Calm.lenStr rfl rfl Try.underlying9) ?_
      refine AO.c (x := eBool (decide (x16 < (p0.size : Int)))) (Calm.int rfl rfl rfl rfl) ?_
      refine AO.c (Calm.move rfl rfl) ?_
      rcases of_ite hq20 with ⟨hc21, hq20⟩ | ⟨hc21, hq20⟩
      ·refine AO.cG rfl rfl (bD (decide_eq_true hc21)) (Calm.move rfl rfl) ?_
       refine AO.cG rfl rfl (bD (decide_eq_true hc21)) (Calm.move rfl rfl) ?_
       obtain ⟨hg22, hq20⟩ := of_guard hq20
       refine AO.cG (x := eU8 (byteAt p0 x16)) rfl rfl (bD (decide_eq_true hc21)) (Calm.idxS rfl rfl rfl hg22 Try.underlying9) ?_
       refine AO.cG rfl rfl (bD (decide_eq_true hc21)) (Calm.move rfl rfl) ?_
       refine AO.cG (x := eBool (decide ((byteAt p0 x16) ≠ p1))) rfl rfl (bD (decide_eq_true hc21)) (Calm.int rfl rfl rfl rfl) ?_
       refine AO.c (Calm.pickT rfl (bD (decide_eq_true hc21)) rfl) ?_
       refine AO.c (Calm.move rfl rfl) ?_
       rcases of_ite hq20 with ⟨hc23, hq20⟩ | ⟨hc23, hq20⟩
       ·refine AO.cG rfl rfl (bD (decide_eq_true hc23)) (Calm.move rfl rfl) ?_
        refine AO.cG rfl rfl (bD (decide_eq_true hc23)) (Calm.move rfl rfl) ?_
        obtain ⟨hg24, hq20⟩ := of_guard hq20
        refine AO.cG (x := eU8 (byteAt p0 x16)) rfl rfl (bD (decide_eq_true hc23)) (Calm.idxS rfl rfl rfl hg24 Try.underlying9) ?_
        refine AO.cG (x := eBool (decide ((byteAt p0 x16) ≠ (10 : Int)))) rfl rfl (bD (decide_eq_true hc23)) (Calm.int rfl rfl rfl rfl) ?_
        refine AO.c (Calm.pickT rfl (bD (decide_eq_true hc23)) rfl) ?_
        cases hq20
        refine AO.nilE ⟨rfl, rfl⟩ ?_ ?_
        · exact ⟨rfl, rfl, rfl, rfl, rfl, trivial⟩
        · exact (Sub.refl _)
       ·refine AO.sT rfl rfl (bD (decide_eq_false hc23)) ?_
        refine AO.sT rfl rfl (bD (decide_eq_false hc23)) ?_
        refine AO.sT rfl rfl (bD (decide_eq_false hc23)) ?_
        refine AO.sT rfl rfl (bD (decide_eq_false hc23)) ?_
        refine AO.c (Calm.pickF rfl (bD (decide_eq_false hc23)) rfl) ?_
        cases hq20
        refine AO.nilE ⟨rfl, rfl⟩ ?_ ?_
        · exact ⟨rfl, rfl, rfl, rfl, rfl, trivial⟩
        · exact (Sub.refl _)
      ·refine AO.sT rfl rfl (bD (decide_eq_false hc21)) ?_
       refine AO.sT rfl rfl (bD (decide_eq_false hc21)) ?_
       refine AO.sT rfl rfl (bD (decide_eq_false hc21)) ?_
       refine AO.sT rfl rfl (bD (decide_eq_false hc21)) ?_
       refine AO.sT rfl rfl (bD (decide_eq_false hc21)) ?_
       refine AO.c (Calm.pickF rfl (bD (decide_eq_false hc21)) rfl) ?_
       refine AO.c (Calm.move rfl rfl) ?_
       refine AO.sT rfl rfl rfl ?_
       refine AO.sT rfl rfl rfl ?_
       refine AO.sT rfl rfl rfl ?_
       refine AO.sT rfl rfl rfl ?_
       refine AO.c (Calm.pickF rfl rfl rfl) ?_
       cases hq20
       refine AO.nilE ⟨rfl, rfl⟩ ?_ ?_
       · exact ⟨rfl, rfl, rfl, rfl, rfl, trivial⟩
       · exact (Sub.refl _)
     ·rcases of_ite h with ⟨hc25, h⟩ | ⟨hc25, h⟩
      ·refine AW.condT' _ rfl hc25 ?_
       refine AW.sK [0, 1, 7, 8] ?_
       refine AW.block ?_
       refine AW.sr ?_
       refine AO.c (Calm.move rfl rfl) ?_
       refine AO.c (Calm.move rfl rfl) ?_
       obtain ⟨hg26, h⟩ := of_guard h
       refine AO.c (x := eStr (p0.extract x16.toNat (p0.size : Int).toNat)) (Calm.sliceS rfl rfl rfl rfl hg26 Try.underlying9) ?_
       obtain ⟨t27, et27, h⟩ := of_bind h
       refine AO.callS [(eStr (p0.extract x16.toNat (p0.size : Int).toNat))] (.tup [(eU8 t27.1), (eI64 t27.2.1), (eBool t27.2.2)]) 41 rfl (by decide) ok89 rfl rfl rfl ⟨rfl, rfl, trivial⟩ (bosketref03_Read_spec et27) ?_
       refine AO.c (Calm.move rfl rfl) ?_
       refine AO.c (Calm.extract rfl rfl rfl) ?_
       refine AO.c (Calm.extract rfl rfl rfl) ?_
       refine AO.c (Calm.extract rfl rfl rfl) ?_
       refine AO.c (Calm.assign rfl rfl) ?_
       refine AO.c (Calm.assign rfl rfl) ?_
       refine AO.c (Calm.assign rfl rfl) ?_
       refine AO.nK [0, 1, 7, 8, 9, 10, 11] ?_
       refine AW.seq ?_
       refine AW.sr ?_
       refine AO.c (Calm.move rfl rfl) ?_
       refine AO.c (Calm.not rfl rfl) ?_
       refine AO.nK [0, 1, 7, 8, 9, 10, 46] ?_
       rcases of_ite h with ⟨hc28, h⟩ | ⟨hc28, h⟩
       ·refine AW.condT' _ rfl hc28 ?_
        refine AW.sr ?_
        refine AO.c (Calm.assign rfl rfl) ?_
        refine AO.c (Calm.assign rfl rfl) ?_
        refine AO.c (Calm.assign rfl rfl) ?_
        refine AO.nK [4, 5, 6] ?_
        refine AW.rK [4, 5, 6] ?_
        have hr := Option.some.inj h
        subst hr
        exact ⟨[(eStr (ByteArray.mk #[])), (eI64 (0 : Int)), (eBool false)], ⟨rfl, rfl, rfl, rfl, rfl, rfl, trivial⟩, rfl⟩
       ·refine AW.condF' _ rfl hc28 ?_
        refine AW.sK [0, 1, 7, 8, 9, 10] ?_
        refine AW.sr ?_
        refine AO.c (Calm.move rfl rfl) ?_
        refine AO.c (Calm.move rfl rfl) ?_
        refine AO.lit (Z := (eU8 (0 : Int))) (xs := (([t27.1] : List Int).map eU8)) (qs := [(0, (eU8 t27.1))]) rfl 49 rfl (by decide) rfl ⟨rfl, rfl, rfl, trivial⟩ Try.underlying84 sz5 zr5 lay5 rfl (by decide) (litOK (z := 1) [(eU8 t27.1)] rfl ⟨⟨rfl, rfl⟩, trivial⟩) rfl fun n29 => ?_
        refine AO.c (x := eStr (strOfNums ([t27.1] : List Int))) (Calm.strO 0 rfl rfl rfl Try.underlying84 Try.underlying9 Try.underlying5) ?_
        obtain ⟨hg30, h⟩ := of_guard h
        refine AO.c (x := eStr (x15 ++ (strOfNums ([t27.1] : List Int)))) (Calm.cat rfl rfl rfl hg30) ?_
        refine AO.c (Calm.assign rfl rfl) ?_
        refine AO.nH [0, 1, 7, 8, 10] (H' := []) (Sub.nil _) ?_
        refine AW.reg ?_
        refine AO.c (Calm.move rfl rfl) ?_
        refine AO.c (Calm.move rfl rfl) ?_
        refine AO.c (x := eI64 (w64 (x16 + t27.2.1))) (Calm.int rfl rfl rfl rfl) ?_
        refine AO.c (Calm.assign rfl rfl) ?_
        refine AO.nK [0, 1, 7, 8] ?_
        exact ⟨kq18, Nat.lt_succ_self _, (x15 ++ (strOfNums ([t27.1] : List Int))), (w64 (x16 + t27.2.1)), rfl, rfl, by rw [hrec17]; exact h⟩
      ·refine AW.condF' _ rfl hc25 ?_
       refine AW.eK [0, 1, 7, 8] ?_
       exact ⟨x15, x16, rfl, rfl, h⟩
    ·rintro _ _ ⟨x8, x9, rfl, rfl, h⟩
     rw [bosketref03_Unquote_c0.eq_1] at h
     refine AW.seq ?_
     refine AW.seq ?_
     obtain ⟨b10, hq11, h⟩ := of_bind h
     refine AW.regM [(7, (eStr x8)), (8, (eI64 x9)), (65, (eBool b10))] [] ?_ ?_
     ·refine AO.c (Calm.move rfl rfl) ?_
      refine AO.c (Calm.move rfl rfl) ?_
      refine AO.c (Calm.lenStr rfl rfl Try.underlying9) ?_
      refine AO.c (x := eBool (decide ((p0.size : Int) ≤ x9))) (Calm.int rfl rfl rfl rfl) ?_
      refine AO.c (Calm.move rfl rfl) ?_
      rcases of_ite hq11 with ⟨hc12, hq11⟩ | ⟨hc12, hq11⟩
      ·refine AO.sF rfl rfl (bD (decide_eq_true hc12)) ?_
       refine AO.sF rfl rfl (bD (decide_eq_true hc12)) ?_
       refine AO.sF rfl rfl (bD (decide_eq_true hc12)) ?_
       refine AO.sF rfl rfl (bD (decide_eq_true hc12)) ?_
       refine AO.sF rfl rfl (bD (decide_eq_true hc12)) ?_
       refine AO.c (Calm.pickT rfl (bD (decide_eq_true hc12)) rfl) ?_
       cases hq11
       refine AO.nilE ⟨rfl, rfl⟩ ?_ ?_
       · exact ⟨rfl, rfl, rfl, trivial⟩
       · exact (Sub.refl _)
      ·refine AO.cG rfl rfl (bD (decide_eq_false hc12)) (Calm.move rfl rfl) ?_
       refine AO.cG rfl rfl (bD (decide_eq_false hc12)) (Calm.move rfl rfl) ?_
       obtain ⟨hg13, hq11⟩ := of_guard hq11
       refine AO.cG (x := eU8 (byteAt p0 x9)) rfl rfl (bD (decide_eq_false hc12)) (Calm.idxS rfl rfl rfl hg13 Try.underlying9) ?_
       refine AO.cG rfl rfl (bD (decide_eq_false hc12)) (Calm.move rfl rfl) ?_
       refine AO.cG (x := eBool (decide ((byteAt p0 x9) ≠ p1))) rfl rfl (bD (decide_eq_false hc12)) (Calm.int rfl rfl rfl rfl) ?_
       refine AO.c (Calm.pickF rfl (bD (decide_eq_false hc12)) rfl) ?_
       cases hq11
       refine AO.nilE ⟨rfl, rfl⟩ ?_ ?_
       · exact ⟨rfl, rfl, rfl, trivial⟩
       · exact (Sub.refl _)
     ·rcases of_ite h with ⟨hc14, h⟩ | ⟨hc14, h⟩
      ·refine AW.condT' _ rfl hc14 ?_
       refine AW.sr ?_
       refine AO.c (Calm.assign rfl rfl) ?_
       refine AO.c (Calm.assign rfl rfl) ?_
       refine AO.c (Calm.assign rfl rfl) ?_
       refine AO.nK [4, 5, 6] ?_
       refine AW.rK [4, 5, 6] ?_
       have hr := Option.some.inj h
       subst hr
       exact ⟨[(eStr (ByteArray.mk #[])), (eI64 (0 : Int)), (eBool false)], ⟨rfl, rfl, rfl, rfl, rfl, rfl, trivial⟩, rfl⟩
      ·refine AW.condF' _ rfl hc14 ?_
       refine AW.sK [7, 8] ?_
       refine AW.sr ?_
       refine AO.c (Calm.move rfl rfl) ?_
       refine AO.c (Calm.move rfl rfl) ?_
       refine AO.c (x := eI64 (w64 (x9 + (1 : Int)))) (Calm.int rfl rfl rfl rfl) ?_
       refine AO.c (Calm.assign rfl rfl) ?_
       refine AO.c (Calm.assign rfl rfl) ?_
       refine AO.c (Calm.assign rfl rfl) ?_
       refine AO.nK [4, 5, 6] ?_
       refine AW.rK [4, 5, 6] ?_
       have hr := Option.some.inj h
       subst hr
       exact ⟨[(eStr x8), (eI64 (w64 (x9 + (1 : Int)))), (eBool true)], ⟨rfl, rfl, rfl, rfl, rfl, rfl, trivial⟩, rfl⟩
end Go.Avl.T2
/- bosket/bosketref13.Of; printed by avmain.py. -/
namespace Go.Avl.T2
open Go Go.RowKit Go.Proofs Go.Avl
set_option linter.unusedVariables false
set_option maxRecDepth 100000
set_option maxHeartbeats 4000000
attribute [local irreducible] AW AO AQ Spec SpecH Calm

end Go.Avl.T2
/- internal/stringslite.IndexByte; printed by avmain.py. -/
namespace Go.Avl.T2
open Go Go.RowKit Go.Proofs Go.Avl
set_option linter.unusedVariables false
set_option maxRecDepth 100000
set_option maxHeartbeats 4000000
attribute [local irreducible] AW AO AQ Spec SpecH Calm

def internal_stringslite_IndexByte (k : Nat) (p0 : ByteArray) (p1 : Int) : Option Int :=
  some ((idxByte p0 p1))
theorem internal_stringslite_IndexByte_spec {k : Nat} {p0 : ByteArray} {p1 : Int} {r : Int} (h : internal_stringslite_IndexByte k p0 p1 = some r) : Spec Try.prog 78 [(eStr p0), (eU8 p1)] (eI64 r) := by
  rw [internal_stringslite_IndexByte.eq_1] at h
  refine Spec.intro (res := [.tmp 4]) Try.func78 rfl rfl rfl (Nat.le_of_ble_eq_true rfl) ?_
  refine AW.sr ?_
  refine AO.c (Calm.assign rfl rfl) ?_
  refine AO.nK [0, 1] ?_
  refine AW.sr ?_
  refine AO.c (Calm.move rfl rfl) ?_
  refine AO.c (Calm.move rfl rfl) ?_
  refine AO.c (x := eI64 (idxByte p0 p1)) (Calm.ext [(eStr p0), (eU8 p1)] [(.string p0), (.int .u8 p1)] rfl rfl xok93 ⟨rfl, rfl, rfl, rfl, trivial⟩ rfl (fun w => run_idxByte p0 p1 w)) ?_
  refine AO.c (Calm.assign rfl rfl) ?_
  refine AO.nK [4] ?_
  refine AW.rK [4] ?_
  have hr := Option.some.inj h
  subst hr
  exact ⟨[(eI64 (idxByte p0 p1))], ⟨rfl, rfl, trivial⟩, rfl⟩
end Go.Avl.T2
/- internal/bytealg.Cutover; printed by avmain.py. -/
namespace Go.Avl.T2
open Go Go.RowKit Go.Proofs Go.Avl
set_option linter.unusedVariables false
set_option maxRecDepth 100000
set_option maxHeartbeats 4000000
attribute [local irreducible] AW AO AQ Spec SpecH Calm

end Go.Avl.T2
/- internal/stringslite.Index; printed by avmain.py. -/
namespace Go.Avl.T2
open Go Go.RowKit Go.Proofs Go.Avl
set_option linter.unusedVariables false
set_option maxRecDepth 100000
set_option maxHeartbeats 4000000
attribute [local irreducible] AW AO AQ Spec SpecH Calm

def internal_stringslite_Index (k : Nat) (p0 : ByteArray) (p1 : ByteArray) : Option Int :=
  Option.bind (α := Bool) (if (p1.size : Int) = (0 : Int) then some (true)
  else some (decide (p1 = p0))) fun b3 =>
  if b3 = true then some ((0 : Int))
  else if (p1.size : Int) = (1 : Int) then if 0 ≤ (0 : Int) ∧ (0 : Int) < (p1.size : Int) then (internal_stringslite_IndexByte k p0 (byteAt p1 (0 : Int))).bind fun t9 =>
  some (t9)
  else none
  else if (p0.size : Int) ≤ (p1.size : Int) then some ((-1 : Int))
  else none
theorem internal_stringslite_Index_spec {k : Nat} {p0 : ByteArray} {p1 : ByteArray} {r : Int} (h : internal_stringslite_Index k p0 p1 = some r) : Spec Try.prog 91 [(eStr p0), (eStr p1)] (eI64 r) := by
  rw [internal_stringslite_Index.eq_1] at h
  refine Spec.intro (res := [.tmp 4]) Try.func91 rfl rfl rfl (Nat.le_of_ble_eq_true rfl) ?_
  refine AW.sr ?_
  refine AO.c (Calm.assign rfl rfl) ?_
  refine AO.nK [0, 1] ?_
  refine AW.sr ?_
  refine AO.c (Calm.move rfl rfl) ?_
  refine AO.c (Calm.lenStr rfl rfl Try.underlying9) ?_
  refine AO.c (Calm.assign rfl rfl) ?_
  refine AO.nK [0, 1, 5] ?_
  refine AW.seq ?_
  refine AW.block ?_
  refine AW.seq ?_
  obtain ⟨b3, hq4, h⟩ := of_bind h
  refine AW.regM [(0, (eStr p0)), (1, (eStr p1)), (5, (eI64 (p1.size : Int))), (16, (eBool b3))] [] ?_ ?_
  ·refine AO.c (Calm.move rfl rfl) ?_
   refine AO.c (x := eBool (decide ((p1.size : Int) = (0 : Int)))) (Calm.int rfl rfl rfl rfl) ?_
   refine AO.c (Calm.move rfl rfl) ?_
   rcases of_ite hq4 with ⟨hc5, hq4⟩ | ⟨hc5, hq4⟩
   ·refine AO.sF rfl rfl (bD (decide_eq_true hc5)) ?_
    refine AO.sF rfl rfl (bD (decide_eq_true hc5)) ?_
    refine AO.sF rfl rfl (bD (decide_eq_true hc5)) ?_
    refine AO.c (Calm.pickT rfl (bD (decide_eq_true hc5)) rfl) ?_
    refine AO.c (Calm.assign rfl rfl) ?_
    cases hq4
    refine AO.nilE ⟨rfl, rfl⟩ ?_ ?_
    · exact ⟨rfl, rfl, rfl, rfl, trivial⟩
    · exact (Sub.refl _)
   ·refine AO.cG rfl rfl (bD (decide_eq_false hc5)) (Calm.move rfl rfl) ?_
    refine AO.cG rfl rfl (bD (decide_eq_false hc5)) (Calm.move rfl rfl) ?_
    refine AO.cG (x := eBool (decide (p1 = p0))) rfl rfl (bD (decide_eq_false hc5)) (Calm.str rfl rfl rfl rfl) ?_
    refine AO.c (Calm.pickF rfl (bD (decide_eq_false hc5)) rfl) ?_
    refine AO.c (Calm.assign rfl rfl) ?_
    cases hq4
    refine AO.nilE ⟨rfl, rfl⟩ ?_ ?_
    · exact ⟨rfl, rfl, rfl, rfl, trivial⟩
    · exact (Sub.refl _)
  ·rcases of_ite h with ⟨hc6, h⟩ | ⟨hc6, h⟩
   ·refine AW.condT' _ rfl hc6 ?_
    refine AW.sr ?_
    refine AO.c (Calm.assign rfl rfl) ?_
    refine AO.nK [4] ?_
    refine AW.rK [4] ?_
    have hr := Option.some.inj h
    subst hr
    exact ⟨[(eI64 (0 : Int))], ⟨rfl, rfl, trivial⟩, rfl⟩
   ·refine AW.condF' _ rfl hc6 ?_
    refine AW.sr ?_
    refine AO.c (Calm.move rfl rfl) ?_
    refine AO.c (x := eBool (decide ((p1.size : Int) = (1 : Int)))) (Calm.int rfl rfl rfl rfl) ?_
    refine AO.c (Calm.assign rfl rfl) ?_
    refine AO.nK [0, 1, 5, 24] ?_
    rcases of_ite h with ⟨hc7, h⟩ | ⟨hc7, h⟩
    ·refine AW.condP _ rfl hc7 ?_
     refine AW.sr ?_
     refine AO.c (Calm.move rfl rfl) ?_
     refine AO.c (Calm.move rfl rfl) ?_
     obtain ⟨hg8, h⟩ := of_guard h
     refine AO.c (x := eU8 (byteAt p1 (0 : Int))) (Calm.idxS rfl rfl rfl hg8 Try.underlying9) ?_
     obtain ⟨t9, et9, h⟩ := of_bind h
     refine AO.callS [(eStr p0), (eU8 (byteAt p1 (0 : Int)))] (eI64 t9) 30 rfl (by decide) ok78 rfl rfl rfl ⟨rfl, rfl, rfl, rfl, trivial⟩ (internal_stringslite_IndexByte_spec et9) ?_
     refine AO.c (Calm.assign rfl rfl) ?_
     refine AO.nK [4] ?_
     refine AW.rK [4] ?_
     have hr := Option.some.inj h
     subst hr
     exact ⟨[(eI64 t9)], ⟨rfl, rfl, trivial⟩, rfl⟩
    ·refine AW.condN _ rfl hc7 ?_
     refine AW.sr ?_
     refine AO.c (Calm.move rfl rfl) ?_
     refine AO.c (Calm.move rfl rfl) ?_
     refine AO.c (Calm.lenStr rfl rfl Try.underlying9) ?_
     refine AO.c (x := eBool (decide ((p0.size : Int) ≤ (p1.size : Int)))) (Calm.int rfl rfl rfl rfl) ?_
     refine AO.c (Calm.assign rfl rfl) ?_
     refine AO.nK [0, 1, 5, 31] ?_
     rcases of_ite h with ⟨hc10, h⟩ | ⟨hc10, h⟩
     ·refine AW.condP _ rfl hc10 ?_
      refine AW.sr ?_
      refine AO.c (Calm.assign rfl rfl) ?_
      refine AO.nK [4] ?_
      refine AW.rK [4] ?_
      have hr := Option.some.inj h
      subst hr
      exact ⟨[(eI64 (-1 : Int))], ⟨rfl, rfl, trivial⟩, rfl⟩
     ·cases h
end Go.Avl.T2
/- strings.Index; printed by avmain.py. -/
namespace Go.Avl.T2
open Go Go.RowKit Go.Proofs Go.Avl
set_option linter.unusedVariables false
set_option maxRecDepth 100000
set_option maxHeartbeats 4000000
attribute [local irreducible] AW AO AQ Spec SpecH Calm

end Go.Avl.T2
/- strings.Count; printed by avmain.py. -/
namespace Go.Avl.T2
open Go Go.RowKit Go.Proofs Go.Avl
set_option linter.unusedVariables false
set_option maxRecDepth 100000
set_option maxHeartbeats 4000000
attribute [local irreducible] AW AO AQ Spec SpecH Calm

end Go.Avl.T2
/- internal/bytealg.LastIndexByteString; printed by avmain.py. -/
namespace Go.Avl.T2
open Go Go.RowKit Go.Proofs Go.Avl
set_option linter.unusedVariables false
set_option maxRecDepth 100000
set_option maxHeartbeats 4000000
attribute [local irreducible] AW AO AQ Spec SpecH Calm

end Go.Avl.T2
/- strings.LastIndex; printed by avmain.py. -/
namespace Go.Avl.T2
open Go Go.RowKit Go.Proofs Go.Avl
set_option linter.unusedVariables false
set_option maxRecDepth 100000
set_option maxHeartbeats 4000000
attribute [local irreducible] AW AO AQ Spec SpecH Calm

end Go.Avl.T2
/- bosket/spot.Of; printed by avmain.py. -/
namespace Go.Avl.T2
open Go Go.RowKit Go.Proofs Go.Avl
set_option linter.unusedVariables false
set_option maxRecDepth 100000
set_option maxHeartbeats 4000000
attribute [local irreducible] AW AO AQ Spec SpecH Calm

end Go.Avl.T2
/- bosket/spot.Digits; printed by avmain.py. -/
namespace Go.Avl.T2
open Go Go.RowKit Go.Proofs Go.Avl
set_option linter.unusedVariables false
set_option maxRecDepth 100000
set_option maxHeartbeats 4000000
attribute [local irreducible] AW AO AQ Spec SpecH Calm

def spot_Digits (k : Nat) (p0 : Int) : Option ByteArray :=
  (spot_digits k p0).bind fun t2 =>
  some (t2)
theorem spot_Digits_spec {k : Nat} {p0 : Int} {r : ByteArray} (h : spot_Digits k p0 = some r) : Spec Try.prog 18 [(eI64 p0)] (eStr r) := by
  rw [spot_Digits.eq_1] at h
  refine Spec.intro (res := [.tmp 2]) Try.func18 rfl rfl rfl (Nat.le_of_ble_eq_true rfl) ?_
  refine AW.sr ?_
  refine AO.c (Calm.assign rfl rfl) ?_
  refine AO.nK [0] ?_
  refine AW.sr ?_
  refine AO.c (Calm.move rfl rfl) ?_
  obtain ⟨t2, et2, h⟩ := of_bind h
  refine AO.callS [(eI64 p0)] (eStr t2) 4 rfl (by decide) ok59 rfl rfl rfl ⟨rfl, rfl, trivial⟩ (spot_digits_spec et2) ?_
  refine AO.c (Calm.assign rfl rfl) ?_
  refine AO.nK [2] ?_
  refine AW.rK [2] ?_
  have hr := Option.some.inj h
  subst hr
  exact ⟨[(eStr t2)], ⟨rfl, rfl, trivial⟩, rfl⟩
end Go.Avl.T2
