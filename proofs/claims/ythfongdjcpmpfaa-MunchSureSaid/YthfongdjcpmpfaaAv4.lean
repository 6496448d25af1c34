/- Reading memory; calls that leave our objects alone. -/
import Derived.Test.YthfongdjcpmpfaaAv3
namespace Go.Avl
open Go Go.RowKit
set_option linter.unusedVariables false

def sumSizes : List (Nat × AV) → Nat
  | [] => 0
  | (k, _) :: r => k + sumSizes r
def AV.size : AV → Nat
  | .st cs => sumSizes cs
  | .ar z cs => cs.length * z
  | _ => 1

theorem Sim.st_length {g : G} : ∀ {cs : List (Nat × AV)} {l : List Value}, Sim g (.st cs) l → l.length = sumSizes cs := by
  intro cs
  induction cs with
  | nil => intro l s; cases s; rfl
  | cons c cs ih =>
    intro l s
    cases s with
    | stCons a b d => simp [sumSizes, b, ih d]
theorem Sim.length {g : G} {x : AV} {l : List Value} (s : Sim g x l) : l.length = x.size := by
  cases x with
  | st cs => exact s.st_length
  | ar z cs => exact s.ar_length
  | tup vs => cases s
  | _ => cases s <;> rfl

/-- A type's size in cells; is it a struct or an array? -/
def tySize (P : Program) (T : TypeId) : Option Nat := (P.info? T).map (·.size)
def tyAgg (P : Program) (T : TypeId) : Option Bool := (P.underlying T).map fun d => match d with | .struct _ | .array _ _ => true | _ => false

section
variable {P : Program} {w : World}
theorem run_tySize {T : TypeId} {n : Nat} (h : tySize P T = some n) : (sizeOf T).run P w = .ok n w := by
  simp only [tySize, Option.map_eq_some_iff] at h
  obtain ⟨i, hi, rfl⟩ := h
  simp [sizeOf, run_typeInfo (P := P) w hi]
theorem run_tyAgg {T : TypeId} {b : Bool} (h : tyAgg P T = some b) : (isAgg T).run P w = .ok b w := by
  simp only [tyAgg, Option.map_eq_some_iff] at h
  obtain ⟨d, hd, rfl⟩ := h
  simp only [isAgg, Sem.run_bind, run_underlying hd, Result.andThen_ok]
  cases d <;> simp
end

/-- The value that cells are read as. -/
def asValue (agg : Bool) (l : List Value) : Value := if agg then .agg l.toArray else l.headD undef

theorem V1.asValue {g : G} {x : AV} {l : List Value} (s : Sim g x l) : V1 g x (asValue x.isAgg l) := by
  cases h : x.isAgg with
  | true => exact V1.of_sim_agg s h
  | false => obtain ⟨v, rfl, hv, _⟩ := V1.of_sim_one s h; exact hv

theorem V1.toV {g : G} {x : AV} {v : Value} (h : V1 g x v) : V g x v := by
  cases x <;> first | exact h | exact h.elim

section
variable {P : Program} {o : Oper} {ρ : Env} {H : Heap} {x : AV}

theorem run_loadVar {g : G} {w : World} {T : TypeId} {b off : Nat} {l : List Value} (s : Sim g x l) (h : ∀ j y, l[j]? = some y → w.cell? ⟨b, off + j, none⟩ = some y) (ha : tyAgg P T = some x.isAgg) (hz : tySize P T = some x.size) :
    (loadVar T ⟨b, off, none⟩).run P w = .ok (asValue x.isAgg l) w := by
  simp only [loadVar, Sem.run_bind, run_tyAgg ha, Result.andThen_ok]
  cases hx : x.isAgg with
  | true =>
    have := run_loadCells_list (P := P) w ⟨b, off, none⟩ l (fun j v hv => by rw [Addr.add_lit]; exact h j v hv)
    simp only [if_true, Sem.run_bind, run_tySize hz, Result.andThen_ok, ← s.length, this, asValue]
    simp
  | false =>
    obtain ⟨v, rfl, hv, _⟩ := V1.of_sim_one s hx
    have := h 0 v rfl
    rw [Nat.add_zero] at this
    simp [asValue, run_load, this]

theorem Calm.loadRp {T : TypeId} {y : Operand} (ho : o.op = .load T y) (hy : Env.ev ρ y = some (.rp x)) (ha : tyAgg P T = some x.isAgg) (hz : tySize P T = some x.size) : Calm P o ρ H x :=
  Calm.of_read fun g a s => by
    have e1 : Sim g (.rp x) [a.eval y] := s.ev hy
    generalize hv : a.eval y = v at e1
    cases e1 with
    | @rp _ l b off sl hro =>
      refine ⟨asValue x.isAgg l, (V1.asValue sl).toV, fun w hw => ?_⟩
      simp [execOp, ho, hv, Instr.loadAt, Instr.sureAddr, run_loadVar sl (fun j y h => hw _ _ _ (hro j y h)) ha hz]

theorem WSat.at {F : Fr} {g : G} {w : World} (s : WSat F g H w) {i n off : Nat} {X : AV} {p : Place} {b : Nat} (hi : H[i]? = some (n, .mem X)) (ht : At X off x) (hn : g.nm[n]? = some p) (hb : p.b = some b) :
    ∃ m, Sim g x m ∧ b < w.heap.size ∧ ∀ j y, m[j]? = some y → w.cell? ⟨b, p.base + off + j, none⟩ = some y := by
  obtain ⟨p', h1, h2, h3⟩ := s.obj n _ (List.mem_of_getElem? hi)
  obtain rfl : p' = p := Option.some.inj (h1.symm.trans hn)
  have hlt := h2.lt b hb
  obtain ⟨_, l, sl, r⟩ := h2
  rcases r with ⟨b', c, T, e1, e2, e3, e4, e5⟩ | ⟨e1, _⟩
  · obtain rfl : b' = b := Option.some.inj (e1.symm.trans hb)
    obtain ⟨m, sm, hm⟩ := sl.at ht
    refine ⟨m, sm, hlt, fun j y hy => ?_⟩
    rw [cell_of_row w b' _ c T (0, 0) e2, Nat.add_assoc]
    exact e5 _ _ (hm j y hy)
  · rw [e1] at hb; cases hb

theorem Calm.load {T : TypeId} {y : Operand} {n off : Nat} {X : AV} (i : Nat) (ho : o.op = .load T y) (hy : Env.ev ρ y = some (.ptr n off)) (hi : H[i]? = some (n, .mem X)) (ht : At X off x)
    (ha : tyAgg P T = some x.isAgg) (hz : tySize P T = some x.size) : Calm P o ρ H x := by
  intro F g a w s h3
  have e1 : Sim g (.ptr n off) [a.eval y] := s.ev hy
  generalize hv : a.eval y = v at e1
  cases e1 with
  | @ptr _ _ p b hn hb =>
    obtain ⟨m, sm, hlt, hm⟩ := h3.at hi ht hn hb
    refine ⟨asValue x.isAgg m, (V1.asValue sm).toV, fun w' hw => ?_⟩
    have hm' : ∀ j y, m[j]? = some y → w'.cell? ⟨b, p.base + off + j, none⟩ = some y := fun j y hy => by
      rw [hw.cell (p := ⟨b, p.base + off + j, none⟩) hlt]; exact hm j y hy
    unfold Oper.quietAt
    rw [show (execOp a.eval o).run P w' = .ok (.value (asValue x.isAgg m)) w' by simp [execOp, ho, hv, Instr.loadAt, Instr.sureAddr, run_loadVar sm hm' ha hz]]
    exact ⟨rfl, rfl⟩

/-! ### Places within -/
theorem Calm.fldPtr {S : TypeId} {y : Operand} {f n off : Nat} {fs : Array Field} {fd : Field} {k : Nat} (ho : o.op = .fieldAddr S y f) (hy : Env.ev ρ y = some (.ptr n off))
    (hs : P.underlying S = some (.struct fs)) (hf : fs[f]? = some fd) (hk : tySize P fd.type = some (k + 1)) (d : Nat) (hd : off + fd.offset = d) : Calm P o ρ H (.ptr n d) :=
  Calm.of_read fun g a s => by
    have e1 : Sim g (.ptr n off) [a.eval y] := s.ev hy
    generalize hv : a.eval y = v at e1
    cases e1 with
    | @ptr _ _ p b hn hb =>
      subst hd
      refine ⟨_, Sim.ptr hn hb, fun w hw => ?_⟩
      simp [execOp, ho, hv, Instr.fieldAt, run_underlying hs, hf, Instr.sureAddr, fieldPlace, run_tySize hk, Addr.add_lit, Nat.add_assoc]

theorem Calm.fldRp {S : TypeId} {y : Operand} {f : Nat} {X : AV} {fs : Array Field} {fd : Field} {k : Nat} (ho : o.op = .fieldAddr S y f) (hy : Env.ev ρ y = some (.rp X))
    (hs : P.underlying S = some (.struct fs)) (hf : fs[f]? = some fd) (hk : tySize P fd.type = some (k + 1)) (ht : At X fd.offset x) : Calm P o ρ H (.rp x) :=
  Calm.of_read fun g a s => by
    have e1 : Sim g (.rp X) [a.eval y] := s.ev hy
    generalize hv : a.eval y = v at e1
    cases e1 with
    | @rp _ l b off sl hro =>
      obtain ⟨m, sm, hm⟩ := sl.at ht
      refine ⟨.pointer (some ⟨b, off + fd.offset, none⟩), Sim.rp sm (fun j y h => by rw [Nat.add_assoc]; exact hro _ _ (hm j y h)), fun w hw => ?_⟩
      simp [execOp, ho, hv, Instr.fieldAt, run_underlying hs, hf, Instr.sureAddr, fieldPlace, run_tySize hk, Addr.add_lit]

theorem Calm.idxFz {T E : TypeId} {y iy : Operand} {z : Nat} {els : List AV} {k : IntKind} {i : Int} (ho : o.op = .indexAddr T y iy) (hy : Env.ev ρ y = some (.fz z els)) (hiy : Env.ev ρ iy = some (.fl (.int k i)))
    (h0 : 0 ≤ i) (hx : els[i.toNat]? = some x) (ht : P.underlying T = some (.slice E)) (hz : tySize P E = some z) : Calm P o ρ H (.rp x) :=
  Calm.of_read fun g a s => by
    have e1 : Sim g (.fz z els) [a.eval y] := s.ev hy
    have e2 : a.eval iy = .int k i := s.ev hiy
    have hlt : i.toNat < els.length := (List.getElem?_eq_some_iff.1 hx).1
    generalize hv : a.eval y = v at e1
    cases e1 with
    | @fz _ _ l b off cap sl hro hc =>
      obtain ⟨m, sm, hl, hm⟩ := sl.ar_get hx
      refine ⟨.pointer (some ⟨b, off + i.toNat * z, none⟩), Sim.rp sm (fun j y h => by rw [Nat.add_assoc]; exact hro _ _ (hm j y h)), fun w hw => ?_⟩
      simp [execOp, ho, hv, e2, Instr.indexAt, run_underlying ht, asIntOf, h0, show i < (els.length : Int) by omega, run_tySize hz, Addr.add_lit]
    | fz0 => simp at hx

theorem Calm.idxOwn {T E : TypeId} {y iy : Operand} {z n off len : Nat} {els : List AV} {k : IntKind} {i : Int} (j : Nat) (ho : o.op = .indexAddr T y iy) (hy : Env.ev ρ y = some (.own n off len)) (hiy : Env.ev ρ iy = some (.fl (.int k i)))
    (hH : H[j]? = some (n, .mem (.ar z els))) (h0 : 0 ≤ i) (h1 : i < (len : Int)) (ht : P.underlying T = some (.slice E)) (hz : tySize P E = some z) : Calm P o ρ H (.ptr n ((off + i.toNat) * z)) := by
  intro F g a w s h3
  have e1 : Sim g (.own n off len) [a.eval y] := s.ev hy
  have e2 : a.eval iy = .int k i := s.ev hiy
  obtain ⟨p', q1, q2, _⟩ := h3.obj n _ (List.mem_of_getElem? hH)
  have hez : z = p'.esz := q2.1 z rfl
  generalize hv : a.eval y = v at e1
  cases e1 with
  | @own _ _ _ p b hn hb hl =>
    obtain rfl : p' = p := Option.some.inj (q1.symm.trans hn)
    refine ⟨.pointer (some ⟨b, p'.base + off * p'.esz + i.toNat * z, none⟩), ?_, fun w' hw => ?_⟩
    · have e : p'.base + off * p'.esz + i.toNat * z = p'.base + (off + i.toNat) * z := by rw [hez, Nat.add_mul]; omega
      rw [e]; exact Sim.ptr hn hb
    · unfold Oper.quietAt
      rw [show (execOp a.eval o).run P w' = .ok (.value (.pointer (some ⟨b, p'.base + off * p'.esz + i.toNat * z, none⟩))) w' by
        simp [execOp, ho, hv, e2, Instr.indexAt, run_underlying ht, asIntOf, h0, h1, run_tySize hz, Addr.add_lit]]
      exact ⟨rfl, rfl⟩
  | own0 => omega

theorem Calm.idxPtr {T E : TypeId} {y iy : Operand} {L n off z : Nat} {k : IntKind} {i : Int} (ho : o.op = .indexAddr T y iy) (hy : Env.ev ρ y = some (.ptr n off)) (hiy : Env.ev ρ iy = some (.fl (.int k i)))
    (h0 : 0 ≤ i) (h1 : i < (L : Int)) (ht : P.underlying T = some (.array L E)) (hz : tySize P E = some z) : Calm P o ρ H (.ptr n (off + i.toNat * z)) :=
  Calm.of_read fun g a s => by
    have e1 : Sim g (.ptr n off) [a.eval y] := s.ev hy
    have e2 : a.eval iy = .int k i := s.ev hiy
    generalize hv : a.eval y = v at e1
    cases e1 with
    | @ptr _ _ p b hn hb =>
      refine ⟨.pointer (some ⟨b, p.base + (off + i.toNat * z), none⟩), Sim.ptr hn hb, fun w hw => ?_⟩
      simp [execOp, ho, hv, e2, Instr.indexAt, run_underlying ht, asIntOf, h0, h1, run_tySize hz, Addr.add_lit, Instr.sureAddr, Nat.add_assoc]

theorem Calm.idxRp {T E : TypeId} {y iy : Operand} {L z : Nat} {cs : List AV} {k : IntKind} {i : Int} (ho : o.op = .indexAddr T y iy) (hy : Env.ev ρ y = some (.rp (.ar z cs))) (hiy : Env.ev ρ iy = some (.fl (.int k i)))
    (h0 : 0 ≤ i) (h1 : i < (L : Int)) (hx : cs[i.toNat]? = some x) (ht : P.underlying T = some (.array L E)) (hz : tySize P E = some z) : Calm P o ρ H (.rp x) :=
  Calm.of_read fun g a s => by
    have e1 : Sim g (.rp (.ar z cs)) [a.eval y] := s.ev hy
    have e2 : a.eval iy = .int k i := s.ev hiy
    generalize hv : a.eval y = v at e1
    cases e1 with
    | @rp _ l b off sl hro =>
      obtain ⟨m, sm, hl, hm⟩ := sl.ar_get hx
      refine ⟨.pointer (some ⟨b, off + i.toNat * z, none⟩), Sim.rp sm (fun j y h => by rw [Nat.add_assoc]; exact hro _ _ (hm j y h)), fun w hw => ?_⟩
      simp [execOp, ho, hv, e2, Instr.indexAt, run_underlying ht, asIntOf, h0, h1, run_tySize hz, Addr.add_lit, Instr.sureAddr]

/-- A byte of a text; 0 where there is none. -/
def byteAt (s : ByteArray) (i : Int) : Int := if h : i.toNat < s.size then ((s[i.toNat]'h).toNat : Int) else 0

theorem Calm.idxStr {T : TypeId} {y iy : Operand} {s : ByteArray} {k : IntKind} {i : Int} (ho : o.op = .index T y iy) (hy : Env.ev ρ y = some (.fl (.string s))) (hiy : Env.ev ρ iy = some (.fl (.int k i)))
    (h0 : 0 ≤ i) (h1 : i < (s.size : Int)) (ht : P.underlying T = some .string) : Calm P o ρ H (.fl (.int .u8 (byteAt s i))) :=
  Calm.of_flat fun g a s' w => by
    have e1 : a.eval y = .string s := s'.ev hy
    have e2 : a.eval iy = .int k i := s'.ev hiy
    have h2 : i.toNat < s.size := by omega
    simp [execOp, ho, e1, e2, Instr.index, run_underlying ht, asIntOf, h0, byteAt, h2, getElem?_pos]

/-! ### Parts of values -/
theorem run_part {g : G} {w : World} {T : TypeId} {X : AV} {l : List Value} {off : Nat} (sl : Sim g X l) (ht : At X off x) (ha : tyAgg P T = some x.isAgg) (hz : tySize P T = some x.size) :
    ∃ v, V1 g x v ∧ ∀ w, (part T l.toArray off).run P w = .ok v w := by
  obtain ⟨m, sm, hm⟩ := sl.at ht
  refine ⟨asValue x.isAgg m, V1.asValue sm, fun w => ?_⟩
  simp only [part, Sem.run_bind, run_tyAgg ha, Result.andThen_ok]
  cases hx : x.isAgg with
  | true =>
    simp only [if_true, Sem.run_bind, run_tySize hz, Result.andThen_ok, asValue, Sem.run_pure]
    have : (l.toArray.extract off (off + x.size)) = m.toArray := by
      apply Array.ext'
      apply List.ext_getElem?
      intro j
      have hml := sm.length
      simp only [List.extract_toArray, List.extract_eq_take_drop]
      by_cases hj : j < m.length
      · have h1 := hm j _ (List.getElem?_eq_getElem hj)
        rw [List.getElem?_take_of_lt (by omega), List.getElem?_drop, h1, List.getElem?_eq_getElem hj]
      · rw [List.getElem?_eq_none (by simp; omega), List.getElem?_eq_none (by omega)]
    rw [this]
  | false =>
    obtain ⟨v, rfl, hv, _⟩ := V1.of_sim_one sm hx
    have := hm 0 v rfl
    simp at this
    simp [asValue, this]

theorem Calm.field {S : TypeId} {y : Operand} {f : Nat} {cs : List (Nat × AV)} {fs : Array Field} {fd : Field} (ho : o.op = .field S y f) (hy : Env.ev ρ y = some (.st cs))
    (hs : P.underlying S = some (.struct fs)) (hf : fs[f]? = some fd) (ht : At (.st cs) fd.offset x) (ha : tyAgg P fd.type = some x.isAgg) (hz : tySize P fd.type = some x.size) : Calm P o ρ H x :=
  Calm.of_read fun g a s => by
    obtain ⟨l, e1, sl⟩ := (s.ev hy : V g (.st cs) (a.eval y))
    obtain ⟨v, hv, hr⟩ := run_part (w := default) sl ht ha hz
    refine ⟨v, hv.toV, fun w hw => ?_⟩
    simp [execOp, ho, e1, Instr.field, run_underlying hs, hf, asAgg, hr]

theorem Calm.idxAr {T E : TypeId} {y iy : Operand} {L z : Nat} {cs : List AV} {k : IntKind} {i : Int} (ho : o.op = .index T y iy) (hy : Env.ev ρ y = some (.ar z cs)) (hiy : Env.ev ρ iy = some (.fl (.int k i)))
    (h0 : 0 ≤ i) (h1 : i < (L : Int)) (hx : cs[i.toNat]? = some x) (ht : P.underlying T = some (.array L E)) (hz : tySize P E = some z) (ha : tyAgg P E = some x.isAgg) (hxz : x.size = z) : Calm P o ρ H x :=
  Calm.of_read fun g a s => by
    obtain ⟨l, e1, sl⟩ := (s.ev hy : V g (.ar z cs) (a.eval y))
    have e2 : a.eval iy = .int k i := s.ev hiy
    obtain ⟨v, hv, hr⟩ := run_part (w := default) (P := P) (T := E) sl (At.idx i.toNat hx At.here) ha (by rw [hxz]; exact hz)
    refine ⟨v, hv.toV, fun w hw => ?_⟩
    simp only [Nat.add_zero] at hr
    simp [execOp, ho, e1, e2, Instr.index, run_underlying ht, asIntOf, h0, h1, run_tySize hz, hr]
end
end Go.Avl
