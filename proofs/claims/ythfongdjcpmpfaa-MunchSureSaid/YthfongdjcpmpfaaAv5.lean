/- Slicing, building values, small builtins, texts out of bytes, calls. -/
import Derived.Test.YthfongdjcpmpfaaAv4
import Derived.Laws.BytesArg
namespace Go.Avl
open Go Go.RowKit
set_option linter.unusedVariables false

section
variable {P : Program} {o : Oper} {ρ : Env} {H : Heap} {x : AV}

/-- The bounds of a slice expression: absent ones are 0 and the length. -/
def lowOf (ρ : Env) : Option Operand → Option Int
  | none => some 0
  | some y => match Env.ev ρ y with
    | some (.fl (.int _ i)) => some i
    | _ => none
def highOf (ρ : Env) (n : Nat) : Option Operand → Option Int
  | none => some n
  | some y => match Env.ev ρ y with
    | some (.fl (.int _ i)) => some i
    | _ => none

theorem low_run {g : G} {a : Act} (s : ESat g ρ a) {w : World} {lo : Option Operand} {l : Int} (h : lowOf ρ lo = some l) (y : Nat) (code : BoundsCode) (h0 : 0 ≤ l) (h1 : l ≤ y) :
    (match lo.map a.eval with | some v => Instr.sliceBound v y code | none => pure 0 : Sem Nat).run P w = .ok l.toNat w := by
  cases lo with
  | none => cases h; rfl
  | some t =>
    simp only [lowOf] at h
    split at h
    · rename_i k i he
      cases h
      have e : a.eval t = .int k l := s.ev he
      simp only [Option.map_some, e]
      exact run_sliceBound (P := P) (w := w) k l y code h0 h1
    · cases h
theorem high_run {g : G} {a : Act} (s : ESat g ρ a) {w : World} {hi : Option Operand} {n : Nat} {l : Int} (h : highOf ρ n hi = some l) (y : Nat) (code : BoundsCode) (h0 : 0 ≤ l) (h1 : l ≤ y) :
    (match hi.map a.eval with | some v => Instr.sliceBound v y code | none => pure n : Sem Nat).run P w = .ok l.toNat w := by
  cases hi with
  | none => cases h; rfl
  | some t =>
    simp only [highOf] at h
    split at h
    · rename_i k i he
      cases h
      have e : a.eval t = .int k l := s.ev he
      simp only [Option.map_some, e]
      exact run_sliceBound (P := P) (w := w) k l y code h0 h1
    · cases h

theorem sliceBounds_run {g : G} {a : Act} (s : ESat g ρ a) {w : World} {lo hi : Option Operand} {n cap : Nat} {isSlice : Bool} {l h : Int} (hl : lowOf ρ lo = some l) (hh : highOf ρ n hi = some h)
    (h0 : 0 ≤ l) (h1 : l ≤ h) (h2 : h ≤ cap) : (Instr.sliceBounds isSlice n cap (lo.map a.eval) (hi.map a.eval) none).run P w = .ok (l.toNat, h.toNat, cap) w := by
  have r1 := low_run (P := P) (w := w) s hl h.toNat .sliceB h0 (by omega)
  have r2 := high_run (P := P) (w := w) s hh cap (if isSlice = true then .sliceAcap else .sliceAlen) (by omega) h2
  cases hi <;> cases lo <;> simp_all [Instr.sliceBounds]

theorem Calm.sliceStr {T : TypeId} {y : Operand} {lo hi : Option Operand} {s : ByteArray} {l h : Int} (ho : o.op = .slice T y lo hi none) (hy : Env.ev ρ y = some (.fl (.string s))) (hl : lowOf ρ lo = some l) (hh : highOf ρ s.size hi = some h)
    (h0 : 0 ≤ l) (h1 : l ≤ h) (h2 : h ≤ s.size) (ht : P.underlying T = some .string) : Calm P o ρ H (.fl (.string (s.extract l.toNat h.toNat))) :=
  Calm.of_flat fun g a s' w => by
    have e1 : a.eval y = .string s := s'.ev hy
    have r := sliceBounds_run (P := P) (w := w) (isSlice := false) (cap := s.size) s' hl hh h0 h1 h2
    simp [execOp, ho, e1, Instr.sliceAt, Instr.slice, run_underlying ht, r]

theorem Sim.ar_slice {g : G} {z : Nat} {els : List AV} {l : List Value} (s : Sim g (.ar z els) l) : ∀ (i j : Nat), ∃ m : List Value, Sim g (.ar z ((els.take j).drop i)) m ∧ ∀ (t : Nat) y, m[t]? = some y → l[i * z + t]? = some y := by
  have tk : ∀ (j : Nat) (els : List AV) (l : List Value), Sim g (.ar z els) l → ∃ m : List Value, Sim g (.ar z (els.take j)) m ∧ ∀ (t : Nat) y, m[t]? = some y → l[t]? = some y := by
    intro j
    induction j with
    | zero => intro els l s; exact ⟨[], by simpa using Sim.arNil, fun t y h => by simp at h⟩
    | succ j ih =>
      intro els l s
      cases els with
      | nil => cases s; exact ⟨[], by simpa using Sim.arNil, fun t y h => by simp at h⟩
      | cons c els =>
        cases s with
        | @arCons _ _ _ l0 r a b d =>
          obtain ⟨m, h1, h2⟩ := ih els r d
          refine ⟨l0 ++ m, by simpa using Sim.arCons a b h1, fun t y hy => ?_⟩
          rcases Nat.lt_or_ge t l0.length with hlt | hge
          · rw [List.getElem?_append_left hlt] at hy ⊢; exact hy
          · rw [List.getElem?_append_right hge] at hy ⊢; exact h2 _ _ hy
  have dr : ∀ (i : Nat) (els : List AV) (l : List Value), Sim g (.ar z els) l → ∃ m : List Value, Sim g (.ar z (els.drop i)) m ∧ ∀ (t : Nat) y, m[t]? = some y → l[i * z + t]? = some y := by
    intro i
    induction i with
    | zero => intro els l s; exact ⟨l, by simpa using s, fun t y h => by simpa using h⟩
    | succ i ih =>
      intro els l s
      cases els with
      | nil => cases s; exact ⟨[], by simpa using Sim.arNil, fun t y h => by simp at h⟩
      | cons c els =>
        cases s with
        | @arCons _ _ _ l0 r a b d =>
          obtain ⟨m, h1, h2⟩ := ih els r d
          refine ⟨m, by simpa using h1, fun t y hy => ?_⟩
          rw [List.getElem?_append_right (by rw [b, Nat.add_mul]; omega)]
          have := h2 t y hy
          rw [← this]; congr 1; rw [b, Nat.add_mul]; omega
  intro i j
  obtain ⟨m1, h1, h2⟩ := tk j els l s
  obtain ⟨m2, k1, k2⟩ := dr i _ _ h1
  exact ⟨m2, k1, fun t y hy => h2 _ _ (k2 t y hy)⟩

theorem Calm.sliceFz {T E : TypeId} {y : Operand} {lo hi : Option Operand} {z : Nat} {els : List AV} {l h : Int} (ho : o.op = .slice T y lo hi none) (hy : Env.ev ρ y = some (.fz z els)) (hl : lowOf ρ lo = some l) (hh : highOf ρ els.length hi = some h)
    (h0 : 0 ≤ l) (h1 : l ≤ h) (h2 : h ≤ els.length) (ht : P.underlying T = some (.slice E)) (hz : tySize P E = some z) : Calm P o ρ H (.fz z ((els.take h.toNat).drop l.toNat)) :=
  Calm.of_read fun g a s => by
    have e1 : Sim g (.fz z els) [a.eval y] := s.ev hy
    generalize hv : a.eval y = v at e1
    have hlen : ((els.take h.toNat).drop l.toNat).length = h.toNat - l.toNat := by simp; omega
    cases e1 with
    | @fz _ _ cs b off cap sl hro hc =>
      obtain ⟨m, sm, hm⟩ := sl.ar_slice l.toNat h.toNat
      have r := fun w => sliceBounds_run (P := P) (w := w) (isSlice := true) (n := els.length) (cap := cap) s hl hh h0 h1 (by omega)
      by_cases hcl : cap = l.toNat
      · subst hcl
        refine ⟨.slice (some ⟨b, off, none⟩) (h.toNat - l.toNat) (l.toNat - l.toNat), ?_, fun w hw => ?_⟩
        · have hz0 : h.toNat - l.toNat = 0 := by omega
          have : (els.take h.toNat).drop l.toNat = [] := List.eq_nil_of_length_eq_zero (by omega)
          rw [this, hz0]; exact Sim.fz0
        · simp [execOp, ho, hv, Instr.sliceAt, Instr.slice, run_underlying ht, r w, run_tySize hz]
      · refine ⟨.slice (some ⟨b, off + l.toNat * z, none⟩) (h.toNat - l.toNat) (cap - l.toNat), ?_, fun w hw => ?_⟩
        · rw [← hlen]
          exact Sim.fz sm (fun t y hy => by rw [Nat.add_assoc]; exact hro _ _ (hm t y hy)) (by omega)
        · simp [execOp, ho, hv, Instr.sliceAt, Instr.slice, run_underlying ht, r w, run_tySize hz, hcl, Addr.add_lit]
    | @fz0 _ ad cap =>
      have hl0 : l = 0 := by simp at h2; omega
      have hh0 : h = 0 := by simp at h2; omega
      subst hl0; subst hh0
      have r := fun w => sliceBounds_run (P := P) (w := w) (isSlice := true) (n := 0) (cap := cap) s hl hh (by omega) (by omega) (by omega)
      refine ⟨.slice ad 0 cap, (by simpa using Sim.fz0 : Sim g _ [_]), fun w hw => ?_⟩
      have : (if cap = 0 then ad else ad.map (·.add (0 * z))) = ad := by
        split
        · rfl
        · cases ad <;> simp [Addr.add]
      simp at this
      simp [execOp, ho, hv, Instr.sliceAt, Instr.slice, run_underlying ht, r w, run_tySize hz]
      exact this

theorem Calm.sliceOwn {T E : TypeId} {y : Operand} {lo hi : Option Operand} {z n off len : Nat} {els : List AV} {l h : Int} (j : Nat) (ho : o.op = .slice T y lo hi none) (hy : Env.ev ρ y = some (.own n off len)) (hl : lowOf ρ lo = some l) (hh : highOf ρ len hi = some h)
    (hH : H[j]? = some (n, .mem (.ar z els))) (h0 : 0 ≤ l) (h1 : l ≤ h) (h2 : h ≤ len) (ht : P.underlying T = some (.slice E)) (hz : tySize P E = some z) : Calm P o ρ H (.own n (off + l.toNat) (h.toNat - l.toNat)) := by
  intro F g a w s h3
  have e1 : Sim g (.own n off len) [a.eval y] := s.ev hy
  obtain ⟨p', q1, q2, _⟩ := h3.obj n _ (List.mem_of_getElem? hH)
  have hez : z = p'.esz := q2.1 z rfl
  generalize hv : a.eval y = v at e1
  cases e1 with
  | @own _ _ _ p b hn hb hlc =>
    obtain rfl : p' = p := Option.some.inj (q1.symm.trans hn)
    have r := fun w => sliceBounds_run (P := P) (w := w) (isSlice := true) (n := len) (cap := p'.cap - off) s hl hh h0 h1 (by omega)
    by_cases hcl : p'.cap - off = l.toNat
    · refine ⟨.slice (some ⟨b, p'.base + off * p'.esz, none⟩) (h.toNat - l.toNat) (p'.cap - off - l.toNat), ?_, fun w' hw => ?_⟩
      · rw [show h.toNat - l.toNat = 0 by omega, show p'.cap - off - l.toNat = 0 by omega]
        exact Sim.own0 hn (by omega)
      · unfold Oper.quietAt
        have r2 := r w'
        rw [hcl] at r2
        rw [show (execOp a.eval o).run P w' = .ok (.value (.slice (some ⟨b, p'.base + off * p'.esz, none⟩) (h.toNat - l.toNat) (p'.cap - off - l.toNat))) w' by
          simp [execOp, ho, hv, Instr.sliceAt, Instr.slice, run_underlying ht, r2, run_tySize hz, hcl]]
        exact ⟨rfl, rfl⟩
    · refine ⟨.slice (some ⟨b, p'.base + (off + l.toNat) * p'.esz, none⟩) (h.toNat - l.toNat) (p'.cap - (off + l.toNat)), Sim.own hn hb (by omega), fun w' hw => ?_⟩
      unfold Oper.quietAt
      have e : p'.base + off * p'.esz + l.toNat * z = p'.base + (off + l.toNat) * p'.esz := by rw [hez, Nat.add_mul]; omega
      rw [show (execOp a.eval o).run P w' = .ok (.value (.slice (some ⟨b, p'.base + (off + l.toNat) * p'.esz, none⟩) (h.toNat - l.toNat) (p'.cap - (off + l.toNat)))) w' by
        simp [execOp, ho, hv, Instr.sliceAt, Instr.slice, run_underlying ht, r w', run_tySize hz, hcl, Addr.add_lit, ← e, Nat.sub_sub]]
      exact ⟨rfl, rfl⟩
  | @own0 _ _ p ad hn hb =>
    have hl0 : l = 0 := by omega
    have hh0 : h = 0 := by omega
    subst hl0; subst hh0
    have r := fun w => sliceBounds_run (P := P) (w := w) (isSlice := true) (n := 0) (cap := 0) s hl hh (by omega) (by omega) (by omega)
    refine ⟨.slice ad 0 0, (by simpa using Sim.own0 hn hb : Sim g _ [_]), fun w' hw => ?_⟩
    unfold Oper.quietAt
    rw [show (execOp a.eval o).run P w' = .ok (.value (.slice ad 0 0)) w' by
      simp [execOp, ho, hv, Instr.sliceAt, Instr.slice, run_underlying ht, r w', run_tySize hz]]
    exact ⟨rfl, rfl⟩

/-! ### min, max -/
theorem Calm.max2 {A : Array TypeId} {y z : Operand} {k : IntKind} {m n : Int} (ho : o.op = .call { callee := .builtin .max, args := #[y, z], argTypes := A }) (hy : Env.ev ρ y = some (.fl (.int k m))) (hz : Env.ev ρ z = some (.fl (.int k n))) :
    Calm P o ρ H (.fl (.int k (max m n))) :=
  Calm.of_flat fun g a s w => by
    have e1 : a.eval y = .int k m := s.ev hy
    have e2 : a.eval z = .int k n := s.ev hz
    have e3 : (if n > m then n else m) = max m n := by split <;> omega
    simp [execOp, ho, e1, e2, resolve, invoke, builtin, Builtin.max_, Builtin.max2, e3]
theorem Calm.min2 {A : Array TypeId} {y z : Operand} {k : IntKind} {m n : Int} (ho : o.op = .call { callee := .builtin .min, args := #[y, z], argTypes := A }) (hy : Env.ev ρ y = some (.fl (.int k m))) (hz : Env.ev ρ z = some (.fl (.int k n))) :
    Calm P o ρ H (.fl (.int k (min m n))) :=
  Calm.of_flat fun g a s w => by
    have e1 : a.eval y = .int k m := s.ev hy
    have e2 : a.eval z = .int k n := s.ev hz
    have e3 : (if n < m then n else m) = min m n := by split <;> omega
    simp [execOp, ho, e1, e2, resolve, invoke, builtin, Builtin.min_, Builtin.min2, e3]

/-! ### Texts out of bytes -/
def bytesAV (xs : List Int) : List AV := xs.map fun n => .fl (.int .u8 n)

theorem Sim.bytes {g : G} : ∀ {xs : List Int} {l : List Value}, Sim g (.ar 1 (bytesAV xs)) l → l = xs.map (Value.int .u8) := by
  intro xs
  induction xs with
  | nil => intro l s; cases s; rfl
  | cons x xs ih =>
    intro l s
    cases s with
    | arCons a b d => cases a; simp [ih d]

theorem Calm.strFz {S D E : TypeId} {y : Operand} {xs : List Int} (ho : o.op = .convert S D y) (hy : Env.ev ρ y = some (.fz 1 (bytesAV xs)))
    (hS : P.underlying S = some (.slice E)) (hD : P.underlying D = some .string) (hE : P.underlying E = some (.int .u8)) : Calm P o ρ H (.fl (.string (strOfNums xs))) :=
  Calm.of_read fun g a s => by
    have e1 : Sim g (.fz 1 (bytesAV xs)) [a.eval y] := s.ev hy
    generalize hv : a.eval y = v at e1
    refine ⟨_, rfl, fun w hw => ?_⟩
    generalize hbv : bytesAV xs = bs at e1
    cases e1 with
    | @fz _ _ l b off cap sl hro hc =>
      subst hbv
      have hl := sl.bytes
      have hlen : xs.length = (bytesAV xs).length := by simp [bytesAV]
      have := run_convert_bytes_arg (P := P) w S E hS hE b off (bytesAV xs).length cap xs hlen (fun i hi => by
        refine hw _ _ _ (hro i _ ?_)
        rw [hl]
        have : i < xs.length := by omega
        simp [this]) D hD
      simp [execOp, ho, hv, this]
    | @fz0 _ ad cap =>
      have hx : xs = [] := by simpa [bytesAV] using hbv
      subst hx
      have e := run_convert_bytes_string (P := P) w S D E ad 0 cap hS hE hD
      cases ad with
      | none =>
        rw [show Conv.bytesToString (.slice none 0 cap) = (pure (.string .empty) : Sem Value) from rfl] at e
        simp [execOp, ho, hv, e]
        rfl
      | some ad =>
        have := run_bytesToString (P := P) w ad 0 cap [] (by simp [loadCells, loadCellsFrom])
        rw [this] at e
        simp [execOp, ho, hv, e]
        rfl

theorem Calm.strOwn {S D E : TypeId} {y : Operand} {xs : List Int} {n off len : Nat} {els : List AV} (j : Nat) (ho : o.op = .convert S D y) (hy : Env.ev ρ y = some (.own n off len)) (hH : H[j]? = some (n, .mem (.ar 1 els)))
    (hx : (els.drop off).take len = bytesAV xs) (hlen : xs.length = len)
    (hS : P.underlying S = some (.slice E)) (hD : P.underlying D = some .string) (hE : P.underlying E = some (.int .u8)) : Calm P o ρ H (.fl (.string (strOfNums xs))) := by
  intro F g a w s h3
  have e1 : Sim g (.own n off len) [a.eval y] := s.ev hy
  obtain ⟨p', q1, q2, _⟩ := h3.obj n _ (List.mem_of_getElem? hH)
  refine ⟨_, rfl, fun w' hw' => ?_⟩
  generalize hv : a.eval y = v at e1
  have main : (execOp a.eval o).run P w' = .ok (.value (.string (strOfNums xs))) w' := by
    cases e1 with
    | @own _ _ _ p b hn hb hlc =>
      obtain rfl : p' = p := Option.some.inj (q1.symm.trans hn)
      have hlt := q2.lt b hb
      obtain ⟨hz, l, sl, r⟩ := q2
      have hz1 : 1 = p'.esz := hz 1 rfl
      rcases r with ⟨b', c, T, e1, e2, e3, e4, e5⟩ | ⟨e1, _⟩
      · obtain rfl : b' = b := Option.some.inj (e1.symm.trans hb)
        obtain ⟨m, sm, hm⟩ := sl.ar_slice off (off + len)
        have hm2 : m = xs.map (Value.int .u8) := by
          have : (els.take (off + len)).drop off = bytesAV xs := by rw [← hx, List.drop_take]; congr 1; omega
          rw [this] at sm
          exact sm.bytes
        have := run_convert_bytes_arg (P := P) w' S E hS hE b' (p'.base + off * p'.esz) len (p'.cap - off) xs hlen (fun i hi => by
          rw [hw'.cell (p := ⟨b', _, none⟩) hlt, cell_of_row w b' _ c T (0, 0) e2, ← hz1, Nat.mul_one, Nat.add_assoc]
          refine e5 _ _ ?_
          have := hm i (.int .u8 (xs.getD i 0)) (by rw [hm2]; have : i < xs.length := by omega
                                                    simp [this])
          simpa using this) D hD
        simp [execOp, ho, hv, this]
      · rw [e1] at hb; cases hb
    | @own0 _ _ p ad hn hb =>
      have hx : xs = [] := List.eq_nil_of_length_eq_zero hlen
      subst hx
      have e := run_convert_bytes_string (P := P) w' S D E ad 0 0 hS hE hD
      cases ad with
      | none =>
        rw [show Conv.bytesToString (.slice none 0 0) = (pure (.string .empty) : Sem Value) from rfl] at e
        simp [execOp, ho, hv, e]
        rfl
      | some ad =>
        have := run_bytesToString (P := P) w' ad 0 0 [] (by simp [loadCells, loadCellsFrom])
        rw [this] at e
        simp [execOp, ho, hv, e]
        rfl
  unfold Oper.quietAt
  rw [main]
  exact ⟨rfl, rfl⟩

theorem Calm.strNil {S D E : TypeId} {y : Operand} (ho : o.op = .convert S D y) (hy : Env.ev ρ y = some (.fl (.slice none 0 0)))
    (hS : P.underlying S = some (.slice E)) (hD : P.underlying D = some .string) (hE : P.underlying E = some (.int .u8)) : Calm P o ρ H (.fl (.string ByteArray.empty)) :=
  Calm.of_flat fun g a s w => by
    have e1 : a.eval y = .slice none 0 0 := s.ev hy
    simp [execOp, ho, e1, run_convert_bytes_nil (P := P) w S E hS hE 0 0 D hD]
end
end Go.Avl
