/- Structs compared. -/
import Derived.Test.YthfongdjcpmpfaaAv14
import Derived.Laws.StructEq
namespace Go.Avl
open Go Go.RowKit
set_option linter.unusedVariables false

/-- The model's comparison of two values of this type answers so. -/
def EqOK (P : Program) (m : Nat) (T : TypeId) (x y : AV) (b : Bool) : Prop :=
  ∀ d g u v w, V1 g x u → V1 g y v → (Op.equalIn (d + m) T u v).run P w = .ok b w

section
variable {P : Program} {T : TypeId} {m : Nat}
theorem EqOK.lift {x y : AV} {b : Bool} (j : Nat) (h : EqOK P m T x y b) : EqOK P (m + j) T x y b := fun d g u v w h1 h2 => by
  rw [show d + (m + j) = (d + j) + m by omega]; exact h _ g u v w h1 h2
theorem EqOK.int {k k' : IntKind} {a b : Int} (ht : P.underlying T = some (.int k')) : EqOK P 1 T (.fl (.int k a)) (.fl (.int k b)) (decide (a = b)) := fun d g u v w h1 h2 => by
  have e1 : u = .int k a := h1
  have e2 : v = .int k b := h2
  rw [e1, e2, run_equalIn_int w d T k k' a b ht]; rfl
theorem EqOK.bool {a b : Bool} (ht : P.underlying T = some .bool) : EqOK P 1 T (.fl (.bool a)) (.fl (.bool b)) (decide (a = b)) := fun d g u v w h1 h2 => by
  have e1 : u = .bool a := h1
  have e2 : v = .bool b := h2
  rw [e1, e2, run_equalIn_bool' w d T a b ht]; cases a <;> cases b <;> rfl
theorem EqOK.str {a b : ByteArray} (ht : P.underlying T = some .string) : EqOK P 1 T (.fl (.string a)) (.fl (.string b)) (decide (a = b)) := fun d g u v w h1 h2 => by
  have e1 : u = .string a := h1
  have e2 : v = .string b := h2
  rw [e1, e2, run_equalIn_string w d T a b ht, bytes_beq]

def EqFs (P : Program) (m : Nat) (X Y : AV) : List Field → List Bool → Prop
  | [], [] => True
  | f :: fs, b :: bs => ((f.name == "_") = false ∧ ∃ x y, At X f.offset x ∧ At Y f.offset y ∧ tyAgg P f.type = some x.isAgg ∧ tyAgg P f.type = some y.isAgg ∧ tySize P f.type = some x.size ∧ tySize P f.type = some y.size ∧ EqOK P m f.type x y b) ∧ EqFs P m X Y fs bs
  | _, _ => False
theorem eqFields_run {g : G} {X Y : AV} {l r : List Value} (hx : Sim g X l) (hy : Sim g Y r) (d : Nat) (w : World) : ∀ {fs : List Field} {bs : List Bool}, EqFs P m X Y fs bs →
    (Op.eqFields (d + m) l.toArray r.toArray fs).run P w = .ok (bs.all id) w
  | [], [], _ => by simp [Op.eqFields]
  | f :: fs, b :: bs, h => by
    obtain ⟨⟨hn, x, y, k1, k2, k3, k4, k5, k6, k7⟩, h2⟩ := h
    obtain ⟨u, hu, ru⟩ := run_part (P := P) (w := w) hx k1 k3 k5
    obtain ⟨v, hv, rv⟩ := run_part (P := P) (w := w) hy k2 k4 k6
    have hn' : f.name ≠ "_" := by simpa using hn
    simp only [Op.eqFields, if_pos hn', Sem.run_bind, ru, rv, Result.andThen_ok, k7 d g u v w hu hv]
    cases b with
    | false => simp
    | true => simpa using eqFields_run hx hy d w h2
  | [], _ :: _, h => h.elim
  | _ :: _, [], h => h.elim
theorem EqOK.struct {fs : List Field} {cs ds : List (Nat × AV)} {bs : List Bool} (ht : P.underlying T = some (.struct fs.toArray)) (hp : P.stoodInHeld T = false) (h : EqFs P m (.st cs) (.st ds) fs bs) : EqOK P (m + 1) T (.st cs) (.st ds) (bs.all id) := fun d g u v w h1 h2 => by
  obtain ⟨l, rfl, hl⟩ := h1
  obtain ⟨r, rfl, hr⟩ := h2
  have hf : P.fieldsOf T = fs.toArray := by simp [Program.fieldsOf, ht]
  have := run_equalIn_struct (P := P) w (d + m) T l.toArray r.toArray (by rw [hf]; exact ht) hp
  rw [show d + (m + 1) = (d + m) + 1 by omega, this, hf]
  exact eqFields_run hl hr d w h
theorem EqOK.of {x y : AV} {b c : Bool} (h : EqOK P m T x y b) (e : b = c) : EqOK P m T x y c := e ▸ h

variable {o : Oper} {ρ : Env} {H : Heap}
theorem Calm.eqS {T' : TypeId} {y z : Operand} {cs ds : List (Nat × AV)} {b : Bool} (ho : o.op = .binOp .eql T y z T') (hy : Env.ev ρ y = some (.st cs)) (hz : Env.ev ρ z = some (.st ds))
    (hg : P.eqGuardType P.depth T = false) (he : EqOK P m T (.st cs) (.st ds) b) (hm : m ≤ 10000) : Calm P o ρ H (.fl (.bool b)) :=
  Calm.of_flat fun g a s w => by
    have e1 : V1 g (.st cs) (a.eval y) := s.ev hy
    have e2 : V1 g (.st ds) (a.eval z) := s.ev hz
    have r := he (10000 - m) g _ _ w e1 e2
    rw [show 10000 - m + m = 10000 by omega] at r
    obtain ⟨l, el, _⟩ := e1
    obtain ⟨k, ek, _⟩ := e2
    rw [el, ek] at r
    simp [execOp, ho, el, ek, run_eqGuard_agg (P := P) w .eql T y z l.toArray k.toArray hg, run_eql_struct (P := P) w, r]
theorem Calm.neS {T' : TypeId} {y z : Operand} {cs ds : List (Nat × AV)} {b : Bool} (ho : o.op = .binOp .neq T y z T') (hy : Env.ev ρ y = some (.st cs)) (hz : Env.ev ρ z = some (.st ds))
    (hg : P.eqGuardType P.depth T = false) (he : EqOK P m T (.st cs) (.st ds) b) (hm : m ≤ 10000) : Calm P o ρ H (.fl (.bool (!b))) :=
  Calm.of_flat fun g a s w => by
    have e1 : V1 g (.st cs) (a.eval y) := s.ev hy
    have e2 : V1 g (.st ds) (a.eval z) := s.ev hz
    have r := he (10000 - m) g _ _ w e1 e2
    rw [show 10000 - m + m = 10000 by omega] at r
    obtain ⟨l, el, _⟩ := e1
    obtain ⟨k, ek, _⟩ := e2
    rw [el, ek] at r
    simp [execOp, ho, el, ek, run_eqGuard_agg (P := P) w .neq T y z l.toArray k.toArray hg, run_neq_struct (P := P) w, r]
end
end Go.Avl
