/- The operations that leave our objects alone. -/
import Derived.Test.YthfongdjcpmpfaaAv2
import Derived.Laws.BitsLemmas
import Derived.Laws.Entries
import Derived.Laws.Slices
namespace Go.Avl
open Go Go.RowKit
set_option linter.unusedVariables false

def w64 (n : Int) : Int := IntKind.i64.wrap n
def w8 (n : Int) : Int := IntKind.u8.wrap n
def u64 (n : Int) : Int := IntKind.u64.wrap n
theorem w64_eq (n : Int) : w64 n = (n + 9223372036854775808) % 18446744073709551616 - 9223372036854775808 := IntKind.wrap_i64 n
theorem w8_eq (n : Int) : w8 n = n % 256 := IntKind.wrap_u8 n
theorem u64_eq (n : Int) : u64 n = n % 18446744073709551616 := by simp [u64, IntKind.wrap, IntKind.bits, IntKind.signed]
theorem w64_id {n : Int} (h : -9223372036854775808 ≤ n) (h' : n ≤ 9223372036854775807) : w64 n = n := by rw [w64_eq]; omega
theorem w8_id {n : Int} (h : 0 ≤ n) (h' : n ≤ 255) : w8 n = n := by rw [w8_eq]; omega

/-- What an operation on two whole numbers gives. -/
def binInt (op : BinOp) (k : IntKind) (m n : Int) : Option Value :=
  match op with
  | .add => some (.int k (k.wrap (m + n)))
  | .sub => some (.int k (k.wrap (m - n)))
  | .mul => some (.int k (k.wrap (m * n)))
  | .and | .or | .xor | .andNot => some (.int k (bits op k m n))
  | .eql => some (.bool (decide (m = n)))
  | .neq => some (.bool (decide (m ≠ n)))
  | .lss => some (.bool (decide (m < n)))
  | .leq => some (.bool (decide (m ≤ n)))
  | .gtr => some (.bool (decide (n < m)))
  | .geq => some (.bool (decide (n ≤ m)))
  | _ => none

theorem bytes_beq (a b : ByteArray) : (a.toList == b.toList) = decide (a = b) := by
  rw [Bool.eq_iff_iff, beq_iff_eq, decide_eq_true_iff]
  constructor
  · intro h
    rw [ByteArray.toList_eq, ByteArray.toList_eq] at h
    apply ByteArray.ext
    apply Array.ext'
    simpa using h
  · intro h; rw [h]
def binStr (op : BinOp) (a b : ByteArray) : Option Value :=
  match op with
  | .eql => some (.bool (decide (a = b)))
  | .neq => some (.bool (decide (a ≠ b)))
  | .lss => some (.bool (Op.bytesLess a.toList b.toList))
  | .leq => some (.bool (Op.bytesLess a.toList b.toList || a.toList == b.toList))
  | .gtr => some (.bool !(Op.bytesLess a.toList b.toList || a.toList == b.toList))
  | .geq => some (.bool !(Op.bytesLess a.toList b.toList))
  | _ => none

def rdOK (g : G) (w : World) : Prop := ∀ b o y, g.ro b o = some y → w.cell? ⟨b, o, none⟩ = some y

section
variable {P : Program} {o : Oper} {ρ : Env} {H : Heap} {x : AV}

theorem Calm.of_read (h : ∀ g a, ESat g ρ a → ∃ v, V g x v ∧ ∀ w, rdOK g w → (execOp a.eval o).run P w = .ok (.value v) w) : Calm P o ρ H x :=
  fun F g a w h1 h3 => let ⟨v, hv, hr⟩ := h g a h1; ⟨v, hv, fun w' hb => by unfold Oper.quietAt; rw [hr w' (ro_below h3.ro hb)]; exact ⟨rfl, rfl⟩⟩

theorem Calm.of_flat {v : Value} (h : ∀ g a, ESat g ρ a → ∀ w, (execOp a.eval o).run P w = .ok (.value v) w) : Calm P o ρ H (.fl v) :=
  Calm.of_read fun g a s => ⟨v, rfl, fun w _ => h g a s w⟩

theorem Calm.move {y : Operand} (ho : o.op = .move y) (hy : Env.ev ρ y = some x) : Calm P o ρ H x :=
  Calm.of_read fun g a s => ⟨a.eval y, s.ev hy, fun w _ => by simp [execOp, ho]⟩
theorem Calm.assign {y : Operand} (ho : o.op = .assign y) (hy : Env.ev ρ y = some x) : Calm P o ρ H x :=
  Calm.of_read fun g a s => ⟨a.eval y, s.ev hy, fun w _ => by simp [execOp, ho]⟩

theorem Calm.pickT {c y z : Operand} (ho : o.op = .pick c y z) (hc : Env.ev ρ c = some (.fl (.bool true))) (hy : Env.ev ρ y = some x) : Calm P o ρ H x :=
  Calm.of_read fun g a s => ⟨a.eval y, s.ev hy, fun w _ => by
    have e : a.eval c = .bool true := s.ev hc
    simp [execOp, ho, e, asBool]⟩
theorem Calm.pickF {c y z : Operand} (ho : o.op = .pick c y z) (hc : Env.ev ρ c = some (.fl (.bool false))) (hy : Env.ev ρ z = some x) : Calm P o ρ H x :=
  Calm.of_read fun g a s => ⟨a.eval z, s.ev hy, fun w _ => by
    have e : a.eval c = .bool false := s.ev hc
    simp [execOp, ho, e, asBool]⟩

theorem Calm.nilCheck {y : Operand} {n off : Nat} (ho : o.op = .nilCheck y) (hy : Env.ev ρ y = some (.ptr n off)) : Calm P o ρ H (.ptr n off) :=
  Calm.of_read fun g a s => ⟨a.eval y, s.ev hy, fun w _ => by
    have e : Sim g (.ptr n off) [a.eval y] := s.ev hy
    generalize hv : a.eval y = v at e
    cases e
    simp [execOp, ho, hv]⟩

theorem Calm.int {op : BinOp} {T T' : TypeId} {y z : Operand} {k : IntKind} {m n : Int} {r : Value} (ho : o.op = .binOp op T y z T') (hy : Env.ev ρ y = some (.fl (.int k m))) (hz : Env.ev ρ z = some (.fl (.int k n)))
    (hr : binInt op k m n = some r) : Calm P o ρ H (.fl r) :=
  Calm.of_flat fun g a s w => by
    have e1 : a.eval y = .int k m := s.ev hy
    have e2 : a.eval z = .int k n := s.ev hz
    cases op <;> simp only [binInt, Option.some.injEq, reduceCtorEq] at hr <;> subst hr <;>
      simp [execOp, ho, e1, e2, eqGuard, binOp, Op.intArith, Op.intBits, Op.intCmp, bits] <;> first | rfl | (by_cases h : m = n <;> simp [h])

theorem Calm.quo {T T' : TypeId} {y z : Operand} {k : IntKind} {m n : Int} (ho : o.op = .binOp .quo T y z T') (hy : Env.ev ρ y = some (.fl (.int k m))) (hz : Env.ev ρ z = some (.fl (.int k n)))
    (hn : n ≠ 0) : Calm P o ρ H (.fl (.int k (k.wrap (m.tdiv n)))) :=
  Calm.of_flat fun g a s w => by
    have e1 : a.eval y = .int k m := s.ev hy
    have e2 : a.eval z = .int k n := s.ev hz
    simp [execOp, ho, e1, e2, eqGuard, binOp, Op.intDiv, hn]
theorem Calm.rem {T T' : TypeId} {y z : Operand} {k : IntKind} {m n : Int} (ho : o.op = .binOp .rem T y z T') (hy : Env.ev ρ y = some (.fl (.int k m))) (hz : Env.ev ρ z = some (.fl (.int k n)))
    (hn : n ≠ 0) : Calm P o ρ H (.fl (.int k (m.tmod n))) :=
  Calm.of_flat fun g a s w => by
    have e1 : a.eval y = .int k m := s.ev hy
    have e2 : a.eval z = .int k n := s.ev hz
    simp [execOp, ho, e1, e2, eqGuard, binOp, Op.intDiv, hn]
theorem Calm.shl {T T' : TypeId} {y z : Operand} {k k' : IntKind} {m n : Int} (ho : o.op = .binOp .shl T y z T') (hy : Env.ev ρ y = some (.fl (.int k m))) (hz : Env.ev ρ z = some (.fl (.int k' n)))
    (hn : 0 ≤ n) : Calm P o ρ H (.fl (.int k (k.wrap (m * 2 ^ (min n.toNat k.bits))))) :=
  Calm.of_flat fun g a s w => by
    have e1 : a.eval y = .int k m := s.ev hy
    have e2 : a.eval z = .int k' n := s.ev hz
    simp [execOp, ho, e1, e2, eqGuard, binOp, Op.shift, show ¬ n < 0 by omega]
theorem Calm.shr {T T' : TypeId} {y z : Operand} {k k' : IntKind} {m n : Int} (ho : o.op = .binOp .shr T y z T') (hy : Env.ev ρ y = some (.fl (.int k m))) (hz : Env.ev ρ z = some (.fl (.int k' n)))
    (hn : 0 ≤ n) : Calm P o ρ H (.fl (.int k (m.fdiv (2 ^ (min n.toNat k.bits))))) :=
  Calm.of_flat fun g a s w => by
    have e1 : a.eval y = .int k m := s.ev hy
    have e2 : a.eval z = .int k' n := s.ev hz
    simp [execOp, ho, e1, e2, eqGuard, binOp, Op.shift, show ¬ n < 0 by omega]

theorem Calm.str {op : BinOp} {T T' : TypeId} {y z : Operand} {m n : ByteArray} {r : Value} (ho : o.op = .binOp op T y z T') (hy : Env.ev ρ y = some (.fl (.string m))) (hz : Env.ev ρ z = some (.fl (.string n)))
    (hr : binStr op m n = some r) : Calm P o ρ H (.fl r) :=
  Calm.of_flat fun g a s w => by
    have e1 : a.eval y = .string m := s.ev hy
    have e2 : a.eval z = .string n := s.ev hz
    cases op <;> simp only [binStr, Option.some.injEq, reduceCtorEq] at hr <;> subst hr <;>
      simp [execOp, ho, e1, e2, eqGuard, binOp, Op.stringOp, bytes_beq]
theorem Calm.cat {T T' : TypeId} {y z : Operand} {m n : ByteArray} (ho : o.op = .binOp .add T y z T') (hy : Env.ev ρ y = some (.fl (.string m))) (hz : Env.ev ρ z = some (.fl (.string n)))
    (hn : m.size + n.size ≤ 9223372036854775807) : Calm P o ρ H (.fl (.string (m ++ n))) :=
  Calm.of_flat fun g a s w => by
    have e1 : a.eval y = .string m := s.ev hy
    have e2 : a.eval z = .string n := s.ev hz
    have h3 : ¬ ((m.size : Int) + n.size > IntKind.i64.max) := by rw [show IntKind.i64.max = 9223372036854775807 from rfl]; omega
    simp [execOp, ho, e1, e2, eqGuard, binOp, Op.stringOp, show IntKind.i64.max = 9223372036854775807 from rfl]
    omega

theorem Calm.boolEq {T T' : TypeId} {y z : Operand} {m n : Bool} (ho : o.op = .binOp .eql T y z T') (hy : Env.ev ρ y = some (.fl (.bool m))) (hz : Env.ev ρ z = some (.fl (.bool n)))
    (ht : P.underlying T = some .bool) : Calm P o ρ H (.fl (.bool (m == n))) :=
  Calm.of_flat fun g a s w => by
    have e1 : a.eval y = .bool m := s.ev hy
    have e2 : a.eval z = .bool n := s.ev hz
    simp [execOp, ho, e1, e2, eqGuard, binOp, run_equal_bool (P := P) w T m n ht]
theorem Calm.boolNe {T T' : TypeId} {y z : Operand} {m n : Bool} (ho : o.op = .binOp .neq T y z T') (hy : Env.ev ρ y = some (.fl (.bool m))) (hz : Env.ev ρ z = some (.fl (.bool n)))
    (ht : P.underlying T = some .bool) : Calm P o ρ H (.fl (.bool (!(m == n)))) :=
  Calm.of_flat fun g a s w => by
    have e1 : a.eval y = .bool m := s.ev hy
    have e2 : a.eval z = .bool n := s.ev hz
    simp [execOp, ho, e1, e2, eqGuard, binOp, run_equal_bool (P := P) w T m n ht]

theorem Calm.not {T : TypeId} {y : Operand} {m : Bool} (ho : o.op = .unOp .not T y) (hy : Env.ev ρ y = some (.fl (.bool m))) : Calm P o ρ H (.fl (.bool (!m))) :=
  Calm.of_flat fun g a s w => by
    have e1 : a.eval y = .bool m := s.ev hy
    simp [execOp, ho, e1, Op.unary]
theorem Calm.neg {T : TypeId} {y : Operand} {k : IntKind} {m : Int} (ho : o.op = .unOp .neg T y) (hy : Env.ev ρ y = some (.fl (.int k m))) : Calm P o ρ H (.fl (.int k (k.wrap (0 - m)))) :=
  Calm.of_flat fun g a s w => by
    have e1 : a.eval y = .int k m := s.ev hy
    simp [execOp, ho, e1, Op.unary, Op.intArith]

theorem Calm.conv {S D : TypeId} {y : Operand} {k k' : IntKind} {m : Int} {d : TypeDesc} (ho : o.op = .convert S D y) (hy : Env.ev ρ y = some (.fl (.int k' m)))
    (hs : P.underlying S = some d) (hd : P.underlying D = some (.int k)) : Calm P o ρ H (.fl (.int k (k.wrap m))) :=
  Calm.of_flat fun g a s w => by
    have e1 : a.eval y = .int k' m := s.ev hy
    simp [execOp, ho, e1, convert, run_underlying hs, run_underlying hd, Conv.intToInt]

theorem Calm.extract {y : Operand} {i : Nat} {vs : List AV} (ho : o.op = .extract y i) (hy : Env.ev ρ y = some (.tup vs)) (hi : vs[i]? = some x) : Calm P o ρ H x :=
  Calm.of_read fun g a s => by
    obtain ⟨l, e, hl⟩ := (s.ev hy : V g (.tup vs) (a.eval y))
    obtain ⟨v, h1, h2⟩ := hl.get hi
    refine ⟨v, by cases x <;> first | exact h2 | exact h2.elim, fun w _ => ?_⟩
    simp [execOp, ho, e, Instr.extract, h1]

/-! len -/
theorem Calm.lenStr {T : TypeId} {y : Operand} {s : ByteArray} (ho : o.op = .call { callee := .builtin .len, args := #[y], argTypes := #[T] }) (hy : Env.ev ρ y = some (.fl (.string s)))
    (ht : P.underlying T = some .string) : Calm P o ρ H (.fl (.int .i64 (s.size : Int))) :=
  Calm.of_flat fun g a s' w => by
    have e1 : a.eval y = .string s := s'.ev hy
    simp [execOp, ho, e1, resolve, invoke, builtin, Builtin.len_, run_underlying ht, goInt]
theorem Calm.lenFz {T E : TypeId} {y : Operand} {z : Nat} {els : List AV} (ho : o.op = .call { callee := .builtin .len, args := #[y], argTypes := #[T] }) (hy : Env.ev ρ y = some (.fz z els))
    (ht : P.underlying T = some (.slice E)) : Calm P o ρ H (.fl (.int .i64 (els.length : Int))) :=
  Calm.of_flat fun g a s' w => by
    have e1 : Sim g (.fz z els) [a.eval y] := s'.ev hy
    generalize hv : a.eval y = v at e1
    cases e1 <;> simp [execOp, ho, hv, resolve, invoke, builtin, Builtin.len_, run_underlying ht, goInt]
theorem Calm.lenOwn {T E : TypeId} {y : Operand} {n off len : Nat} (ho : o.op = .call { callee := .builtin .len, args := #[y], argTypes := #[T] }) (hy : Env.ev ρ y = some (.own n off len))
    (ht : P.underlying T = some (.slice E)) : Calm P o ρ H (.fl (.int .i64 (len : Int))) :=
  Calm.of_flat fun g a s' w => by
    have e1 : Sim g (.own n off len) [a.eval y] := s'.ev hy
    generalize hv : a.eval y = v at e1
    cases e1 <;> simp [execOp, ho, hv, resolve, invoke, builtin, Builtin.len_, run_underlying ht, goInt]
theorem Calm.lenNil {T E : TypeId} {y : Operand} (ho : o.op = .call { callee := .builtin .len, args := #[y], argTypes := #[T] }) (hy : Env.ev ρ y = some (.fl (.slice none 0 0)))
    (ht : P.underlying T = some (.slice E)) : Calm P o ρ H (.fl (.int .i64 0)) :=
  Calm.of_flat fun g a s' w => by
    have e1 : a.eval y = .slice none 0 0 := s'.ev hy
    simp [execOp, ho, e1, resolve, invoke, builtin, Builtin.len_, run_underlying ht, goInt]
end
end Go.Avl
