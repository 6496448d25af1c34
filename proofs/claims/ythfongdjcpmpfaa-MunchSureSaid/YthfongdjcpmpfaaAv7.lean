/- New objects, literals, stores. -/
import Derived.Test.YthfongdjcpmpfaaAv6
namespace Go.Avl
open Go Go.RowKit
set_option linter.unusedVariables false

def tyZero (P : Program) (T : TypeId) : Option (List Value) := ((P.info? T).bind (·.zero)).map (·.cells.toList)

section
variable {P : Program} {w : World}
theorem run_tyZero {T : TypeId} {l : List Value} (h : tyZero P T = some l) : ∃ z, (zeroValue T).run P w = .ok z w ∧ z.cells = l.toArray := by
  simp only [tyZero, Option.map_eq_some_iff, Option.bind_eq_some_iff] at h
  obtain ⟨z, ⟨i, hi, hz⟩, rfl⟩ := h
  exact ⟨z, by simp [zeroValue, run_typeInfo (P := P) w hi, hz], by simp⟩
end

theorem WSat.new {F : Fr} {g : G} {H : Heap} {w w' : World} (s : WSat F g H w) (hb : Below w.heap.size w w') {x : AV} {l : List Value} (hx : Sim g x l) {b : Nat} {c : Array Value} {T : TypeId} {cap : Nat} (hge : w.heap.size ≤ b)
    (hc : w'.heap[b]? = some (.cells c T (0, 0))) (hcap : cap * (x.arz.getD 1) ≤ c.size) (hl : ∀ (j : Nat) y, l[j]? = some y → c[j]? = some y) :
    WSat F { g with nm := g.nm ++ [⟨some b, 0, cap, x.arz.getD 1⟩] } ((g.nm.length, .mem x) :: H) w' := by
  refine s.cons hb _ _ (fun b' e => by cases e; exact hge) ⟨fun z hz => by rw [hz]; rfl, l, hx.mono (G.le.push g _), .inl ⟨b, c, T, rfl, hc, by simpa using hcap, ?_, fun j y h => by simpa using hl j y h⟩⟩
  rcases Nat.lt_or_ge c.size l.length with h | h
  · have := hl c.size _ (List.getElem?_eq_getElem h)
    simp at this
  · simpa using h

theorem Sim.capn {g : G} {x : AV} {l : List Value} (s : Sim g x l) : x.capn * x.arz.getD 1 ≤ l.length := by
  cases x with
  | ar z cs => simp [AV.capn, AV.arz, s.ar_length]
  | _ => simp [AV.capn]

section
variable {P : Program} {N : Nat} {ops : Array Oper} {o : Oper} {rest : List Oper} {K : Env → Heap → Prop} {ρ : Env} {H : Heap} {x : AV}

theorem ptr_new (g : G) (b cap esz : Nat) : V { g with nm := g.nm ++ [⟨some b, 0, cap, esz⟩] } (.ptr g.nm.length 0) (.pointer (some ⟨b, 0, none⟩)) :=
  (Sim.ptr (g := { g with nm := g.nm ++ [⟨some b, 0, cap, esz⟩] }) (n := g.nm.length) (off := 0) (p := ⟨some b, 0, cap, esz⟩) (by simp) rfl : Sim _ _ [_])

theorem AO.box {T : TypeId} {y : Operand} (hg : o.guard = none) (d : Nat) (hd : o.dst = some d) (hN : d < N) (ho : o.op = .box T y) (hy : Env.ev ρ y = some x) (hc : x.cell = true)
    (h : ∀ n, AO P N ops rest K ((d, .ptr n 0) :: ρ) ((n, .mem x) :: H)) : AO P N ops (o :: rest) K ρ H :=
  AO.step hg d hd hN fun F g a w s h3 => by
    have hn : x.notTup = true := by cases x <;> first | rfl | cases hc
    have sl := ((s.ev hy).toV1 hn).sim hc
    have hb : Below w.heap.size w (w.alloc (.cells (a.eval y).cells T)) := (Below.refl _ _).alloc (Nat.le_refl _) _
    refine ⟨.pointer (some ⟨w.heap.size, 0, none⟩), _, _, _, _, ?_, G.le.push g _, ptr_new g w.heap.size _ _, h3.new hb sl (Nat.le_refl _) (heap_alloc_new w _) (cap := x.capn) (by simpa using sl.capn) (fun j y h => by simpa using h), h _⟩
    simp [execOp, ho, Instr.box, newVar, newRow]

theorem AO.alloc {T : TypeId} {l : List Value} (hg : o.guard = none) (d : Nat) (hd : o.dst = some d) (hN : d < N) (ho : o.op = .alloc T) (hz : tyZero P T = some l) (hx : ∀ g, Sim g x l)
    (h : ∀ n, AO P N ops rest K ((d, .ptr n 0) :: ρ) ((n, .mem x) :: H)) : AO P N ops (o :: rest) K ρ H :=
  AO.step hg d hd hN fun F g a w s h3 => by
    obtain ⟨z, hz1, hz2⟩ := run_tyZero (w := w) hz
    have hb : Below w.heap.size w (w.alloc (.cells z.cells T)) := (Below.refl _ _).alloc (Nat.le_refl _) _
    refine ⟨.pointer (some ⟨w.heap.size, 0, none⟩), _, _, _, _, ?_, G.le.push g _, ptr_new g w.heap.size _ _, h3.new hb (hx g) (Nat.le_refl _) (heap_alloc_new w _) (cap := x.capn) (by rw [hz2]; simpa using (hx g).capn) (fun j y h => by rw [hz2]; simpa using h), h _⟩
    simp [execOp, ho, Instr.alloc, hz1, newVar, newRow]

/-! ### Stores -/
theorem store_run {F : Fr} {g : G} {w : World} (h3 : WSat F g H w) {i n off : Nat} {X X' y : AV} {p : Place} {b : Nat} {T : TypeId} {v : Value} (hi : H[i]? = some (n, .mem X)) (hn : g.nm[n]? = some p) (hb : p.b = some b) (hp : Put X off y x X')
    (hv : V1 g x v) (hc : x.cell = true) (hs : y.size = x.size) (hT : tySize P T = some x.size) (harz : X'.arz = X.arz) :
    ∃ w', (storeVar T ⟨b, p.base + off, none⟩ v).run P w = .ok () w' ∧ WSat F g (H.set i (n, .mem X')) w' := by
  obtain ⟨p', h1, h2, h4⟩ := h3.obj n _ (List.mem_of_getElem? hi)
  obtain rfl : p' = p := Option.some.inj (h1.symm.trans hn)
  obtain ⟨hz, l, sl, r⟩ := h2
  rcases r with ⟨b', c, T', e1, e2, e3, e4, e5⟩ | ⟨e1, _⟩
  · obtain rfl : b' = b := Option.some.inj (e1.symm.trans hb)
    obtain ⟨q, m, t, rfl, k1, k2, k3⟩ := sl.put (G.le.refl g) hp
    have sv := hv.sim hc
    have hml : v.cells.toList.length = m.length := by rw [sv.length, k2.length, hs]
    have sX' := k3 _ sv hml
    have hsz : v.cells.size = x.size := by rw [← sv.length]; simp
    have hml' : v.cells.size = m.length := by simpa using hml
    have hst := run_storeCells_at P b' (p'.base + off) T' v.cells.toList 0 c w e2 (by simp at e4 ⊢; omega) (sv.one)
    refine ⟨w.setRow b' (c.toList.take (p'.base + off) ++ v.cells.toList ++ c.toList.drop (p'.base + off + v.cells.toList.length)).toArray, ?_, h3.set (p' := p') hi hn (G.le.refl g) (fun _ _ => rfl) rfl rfl rfl (by simp) (fun k hk hne => setRow_other w b' k _ (fun e => hne (by rw [e1, e]))) hn ⟨fun z hz' => hz z (by rw [← harz]; exact hz'), _, sX', .inl ⟨b', _, T', e1, setRow_heap w b' c _ T' _ e2, ?_, ?_, ?_⟩⟩ (fun b hb' => .inl hb')⟩
    · simp only [storeVar, Sem.run_bind, run_tySize hT, Result.andThen_ok, hsz]
      simpa using hst
    · simp at e4 ⊢; omega
    · simp at e4 ⊢; omega
    · intro j u hj
      have hq : q.length = off := k1
      simp only [List.getElem?_toArray]
      have e6 : ∀ j y, (q ++ m ++ t)[j]? = some y → c.toList[p'.base + j]? = some y := fun j y h => by simpa using e5 j y h
      rcases Nat.lt_or_ge j off with hlt | hge
      · have : (q ++ m ++ t)[j]? = some u := by
          rw [List.append_assoc, List.getElem?_append_left (by omega)] at hj ⊢; exact hj
        rw [List.append_assoc, List.getElem?_append_left (by simp at e4 ⊢; omega), List.getElem?_take_of_lt (by omega)]
        exact e6 j u this
      · rcases Nat.lt_or_ge j (off + m.length) with hlt2 | hge2
        · rw [List.append_assoc, List.getElem?_append_right (by simp at e4 ⊢; omega), List.getElem?_append_left (by simp at e4 ⊢; omega)]
          rw [List.append_assoc, List.getElem?_append_right (by omega), List.getElem?_append_left (by omega)] at hj
          rw [← hj]; congr 1; simp at e4 ⊢; omega
        · have hj' : (q ++ m ++ t)[j]? = some u := by
            rw [List.getElem?_append_right (by simp; omega)] at hj ⊢
            rw [← hj]; congr 1; simp; omega
          have := e6 j u hj'
          rw [List.getElem?_append_right (by simp at e4 ⊢; omega), List.getElem?_drop]
          rw [← this]; congr 1; simp at e4 ⊢; omega
  · rw [e1] at hb; cases hb

theorem AO.store {T : TypeId} {pa y : Operand} {n off : Nat} {X X' y0 : AV} (i : Nat) (hg : o.guard = none) (hd : o.dst = none) (ho : o.op = .store T pa y) (hpa : Env.ev ρ pa = some (.ptr n off)) (hy : Env.ev ρ y = some x) (hi : H[i]? = some (n, .mem X))
    (hp : Put X off y0 x X') (hc : x.cell = true) (hs : y0.size = x.size) (hT : tySize P T = some x.size) (harz : X'.arz = X.arz) (h : AO P N ops rest K ρ (H.set i (n, .mem X'))) : AO P N ops (o :: rest) K ρ H :=
  AO.step0 hg hd fun F g a w s h3 => by
    have e1 : Sim g (.ptr n off) [a.eval pa] := s.ev hpa
    have hn : x.notTup = true := by cases x <;> first | rfl | cases hc
    have hv := (s.ev hy).toV1 hn
    generalize hav : a.eval pa = v at e1
    cases e1 with
    | @ptr _ _ p b hn hb =>
      obtain ⟨w', h1, h2⟩ := store_run (P := P) h3 hi hn hb hp hv hc hs hT harz
      refine ⟨g, w', _, ?_, G.le.refl g, h2, h⟩
      simp [execOp, ho, hav, Instr.storeAt, Instr.sureAddr, h1]

/-! ### Literals -/
inductive BuildOK (place : Nat → Option (Nat × Nat)) : List (Nat × AV) → AV → AV → Prop
  | nil {X} : BuildOK place [] X X
  | cons {i off sz x y r X X1 X2} : place i = some (off, sz) → x.cell = true → x.size = sz → y.size = sz → Put X off y x X1 → BuildOK place r X1 X2 → BuildOK place ((i, x) :: r) X X2

theorem seg_foldl : ∀ (vs : List Value) (off k : Nat) (cs : List Value), off + k + vs.length ≤ cs.length →
    (vs.zipIdx k).foldl (fun (cs : Array Value) (c : Value × Nat) => cs.setIfInBounds (off + c.2) c.1) cs.toArray = (cs.take (off + k) ++ vs ++ cs.drop (off + k + vs.length)).toArray
  | [], off, k, cs, h => by simp
  | v :: vs, off, k, cs, h => by
    simp only [List.zipIdx_cons, List.foldl_cons, List.setIfInBounds_toArray]
    rw [seg_foldl vs off (k + 1) _ (by simp at h ⊢; omega)]
    congr 1
    have := list_seg_step cs (off + k) v vs (by simp at h; omega)
    rw [show off + (k + 1) = off + k + 1 by omega, this]
    simp [Nat.add_assoc]

theorem fill_run {g : G} {place : Nat → Option (Nat × Nat)} {ps : List (Nat × AV)} {X X2 : AV} (h : BuildOK place ps X X2) : ∀ {l : List Value} {vs : List (Nat × Value)}, Sim g X l → All2 (fun p q => p.1 = q.1 ∧ V1 g p.2 q.2) ps vs →
    ∃ l2, Instr.fill place l.toArray vs = some l2.toArray ∧ Sim g X2 l2 := by
  induction h with
  | nil => intro l vs s a; cases a; exact ⟨l, rfl, s⟩
  | @cons i off sz x y r X X1 X2 h1 h2 h3 h4 h5 _ ih =>
    intro l vs s a
    cases a with
    | @cons _ q _ vs hq ar =>
      obtain ⟨i', v⟩ := q
      obtain ⟨rfl, hv⟩ := hq
      have hsv := hv.sim h2
      obtain ⟨p, m, t, rfl, k1, k2, k3⟩ := s.put (G.le.refl g) h5
      have hlen : v.cells.toList.length = m.length := by rw [hsv.length, k2.length, h3, h4]
      have hlen' : v.cells.size = m.length := by simpa using hlen
      have hsz : v.cells.size = sz := by rw [hlen', k2.length, h4]
      obtain ⟨l2, e1, e2⟩ := ih (k3 _ hsv hlen) ar
      refine ⟨l2, ?_, e2⟩
      simp only [Instr.fill, h1]
      rw [if_neg (by simp; omega)]
      rw [← e1]
      congr 1
      have := seg_foldl v.cells.toList off 0 (p ++ m ++ t) (by simp; omega)
      simp only [Nat.add_zero] at this
      rw [← Array.foldl_toList, Array.toList_zipIdx, this]
      congr 1
      have t1 : (p ++ m ++ t).take off = p := by rw [List.append_assoc, ← k1, List.take_left]
      have t2 : (p ++ m ++ t).drop (off + v.cells.toList.length) = t := by
        rw [hlen, show off + m.length = (p ++ m).length by simp [k1]]; exact List.drop_left
      rw [t1, t2]

def tyPlaces (P : Program) : List Field → Option (List (Nat × Nat))
  | [] => some []
  | f :: r => match tySize P f.type, tyPlaces P r with
    | some n, some m => some ((f.offset, n) :: m)
    | _, _ => none

theorem run_places {w : World} : ∀ {fs : List Field} {l : List (Nat × Nat)}, tyPlaces P fs = some l → (fs.mapM fun f => do pure (f.offset, ← sizeOf f.type) : Sem (List (Nat × Nat))).run P w = .ok l w
  | [], l, h => by cases h; simp
  | f :: r, l, h => by
    simp only [tyPlaces] at h
    split at h
    · rename_i n m h1 h2
      cases h
      simp only [List.mapM_cons, Sem.run_bind, Sem.run_pure, Result.andThen_ok, run_tySize h1, run_places h2]
    · cases h

/-- The parts of a literal. -/
def partsOK (ρ : Env) : List (Nat × Operand) → List (Nat × AV) → Prop
  | [], [] => True
  | p :: ps, q :: qs => p.1 = q.1 ∧ Env.ev ρ p.2 = some q.2 ∧ q.2.notTup = true ∧ partsOK ρ ps qs
  | _, _ => False
theorem partsOK.all {g : G} {a : Act} (s : ESat g ρ a) : ∀ {ps : List (Nat × Operand)} {qs : List (Nat × AV)}, partsOK ρ ps qs → All2 (fun p q => p.1 = q.1 ∧ V1 g p.2 q.2) qs (ps.map fun p => (p.1, a.eval p.2))
  | [], [], _ => .nil
  | p :: ps, q :: qs, h => .cons ⟨h.1.symm, (s.ev h.2.1).toV1 h.2.2.1⟩ (partsOK.all s h.2.2.2)
  | [], _ :: _, h => h.elim
  | _ :: _, [], h => h.elim

theorem Calm.build {T : TypeId} {parts : List (Nat × Operand)} {fs : List Field} {pl : List (Nat × Nat)} {zl : List Value} {Z : AV} {qs : List (Nat × AV)} (ho : o.op = .build T parts.toArray) (hp : partsOK ρ parts qs) (ht : P.underlying T = some (.struct fs.toArray)) (hpl : tyPlaces P fs = some pl)
    (hz : tyZero P T = some zl) (hZ : ∀ g, Sim g Z zl) (hb : BuildOK (fun i : Nat => pl[i]?) qs Z x) (ha : x.isAgg = true) : Calm P o ρ H x :=
  Calm.of_read fun g a s => by
    obtain ⟨l2, h1, h2⟩ := fill_run hb (hZ g) (hp.all s)
    refine ⟨.agg l2.toArray, (V1.of_sim_agg h2 ha).toV, fun w hw => ?_⟩
    obtain ⟨z, hz1, hz2⟩ := run_tyZero (w := w) hz
    have hm : (fs.toArray.mapM fun f => do pure (f.offset, ← sizeOf f.type) : Sem (Array (Nat × Nat))).run P w = .ok pl.toArray w := by
      rw [List.mapM_toArray]
      simp only [map_eq_pure_bind, Sem.run_bind, run_places hpl, Result.andThen_ok, Sem.run_pure]
    have hf : (fun i : Nat => pl.toArray[i]?) = (fun i : Nat => pl[i]?) := by funext i; simp
    simp only [execOp, ho, Instr.build, Sem.run_bind, hz1, Result.andThen_ok, run_underlying ht, hm, hz2, List.map_toArray]
    rw [hf]
    simp only [h1]
    simp

theorem Calm.buildAr {T E : TypeId} {L z : Nat} {parts : List (Nat × Operand)} {zl : List Value} {Z : AV} {qs : List (Nat × AV)} (ho : o.op = .build T parts.toArray) (hp : partsOK ρ parts qs) (ht : P.underlying T = some (.array L E)) (hE : tySize P E = some z)
    (hz : tyZero P T = some zl) (hZ : ∀ g, Sim g Z zl) (hb : BuildOK (fun i => some (i * z, z)) qs Z x) (ha : x.isAgg = true) : Calm P o ρ H x :=
  Calm.of_read fun g a s => by
    obtain ⟨l2, h1, h2⟩ := fill_run hb (hZ g) (hp.all s)
    refine ⟨.agg l2.toArray, (V1.of_sim_agg h2 ha).toV, fun w hw => ?_⟩
    obtain ⟨zv, hz1, hz2⟩ := run_tyZero (w := w) hz
    simp only [execOp, ho, Instr.build, Sem.run_bind, hz1, Result.andThen_ok, run_underlying ht, run_tySize hE, hz2, List.map_toArray, h1]
    simp

/-- A slice's literal: a row of our own. -/
theorem AO.lit {T E : TypeId} {len z : Nat} {parts : List (Nat × Operand)} {zl : List Value} {Z : AV} {qs : List (Nat × AV)} {xs : List AV} (hg : o.guard = none) (d : Nat) (hd : o.dst = some d) (hN : d < N) (ho : o.op = .buildSlice T len parts.toArray) (hp : partsOK ρ parts qs)
    (ht : P.underlying T = some (.slice E)) (hE : tySize P E = some z) (hz : tyZero P E = some zl) (hZ : ∀ g, Sim g Z zl) (hzl : zl.length = z) (h24 : len * z ≤ 16777216) (hb : BuildOK (fun i => some (i * z, z)) qs (.ar z (List.replicate len Z)) (.ar z xs)) (hlen : xs.length = len)
    (h : ∀ n, AO P N ops rest K ((d, .own n 0 len) :: ρ) ((n, .mem (.ar z xs)) :: H)) : AO P N ops (o :: rest) K ρ H :=
  AO.step hg d hd hN fun F g a w s h3 => by
    have hrep : ∀ k, Sim g (.ar z (List.replicate k Z)) (List.replicate k zl).flatten := by
      intro k
      induction k with
      | zero => exact Sim.arNil
      | succ k ih => simpa [List.replicate_succ] using Sim.arCons (hZ g) hzl ih
    obtain ⟨l2, h1, h2⟩ := fill_run hb (hrep len) (hp.all s)
    have hl2 : l2.length = len * z := by rw [h2.ar_length, hlen]
    have hb' : Below w.heap.size w (w.alloc (.cells l2.toArray E)) := (Below.refl _ _).alloc (Nat.le_refl _) _
    have hnm : ({ g with nm := g.nm ++ [⟨some w.heap.size, 0, len, (AV.ar z xs).arz.getD 1⟩] } : G).nm[g.nm.length]? = some ⟨some w.heap.size, 0, len, z⟩ := by simp [AV.arz]
    refine ⟨.slice (some ⟨w.heap.size, 0, none⟩) len len, _, w.alloc (.cells l2.toArray E), _, _, ?_, G.le.push g _, ?_, h3.new hb' h2 (Nat.le_refl _) (heap_alloc_new w _) (cap := len) (by simp [AV.arz, hl2]) (fun j y h => by simpa using h), h _⟩
    · obtain ⟨zv, hz1, hz2⟩ := run_tyZero (w := w) hz
      have e0 : ((Array.range (len * z)).map fun j => zl.toArray[j % zl.toArray.size]!) = (List.replicate len zl).flatten.toArray := by
        apply Array.ext'
        apply List.ext_getElem?
        intro j
        have hfl : (List.replicate len zl).flatten.length = len * z := by simp [hzl]
        by_cases hj : j < len * z
        · have hz0 : 0 < z := Nat.pos_of_ne_zero fun e => by rw [e] at hj; simp at hj
          have hjm : j % z < z := Nat.mod_lt _ hz0
          have e2 : ∀ (k j : Nat), j < k * z → (List.replicate k zl).flatten[j]? = zl[j % z]? := by
            intro k
            induction k with
            | zero => intro j h; simp at h
            | succ k ih =>
              intro j h
              rw [List.replicate_succ, List.flatten_cons]
              rcases Nat.lt_or_ge j z with h' | h'
              · rw [List.getElem?_append_left (by omega), Nat.mod_eq_of_lt h']
              · rw [List.getElem?_append_right (by omega), hzl, ih (j - z) (by rw [Nat.add_mul] at h; omega), Nat.mod_eq_sub_mod h']
          have e3 := e2 len j hj
          rw [e3, List.getElem?_eq_getElem (show j % z < zl.length by omega)]
          simp [hj, hzl, hjm]
        · rw [List.getElem?_eq_none (by simp; omega), List.getElem?_eq_none (by rw [hfl]; omega)]
      simp only [execOp, ho, Instr.buildSlice, Sem.run_bind, run_underlying ht, Result.andThen_ok, run_tySize hE]
      rw [if_neg (by omega)]
      by_cases h0 : len * z = 0
      · have : l2 = [] := List.eq_nil_of_length_eq_zero (by omega)
        subst this
        have e1 : (List.replicate len zl).flatten = [] := List.eq_nil_of_length_eq_zero (by simp [hzl, h0])
        rw [e1] at h1
        simp only [h0, if_true, Sem.run_bind, Sem.run_pure, Result.andThen_ok, Array.range_zero', List.map_toArray, List.map_nil]
        rw [h1]
        simp [newRow]
      · simp only [h0, if_false, Sem.run_bind, hz1, Sem.run_pure, Result.andThen_ok, hz2, List.map_toArray]
        rw [e0, h1]
        simp [newRow]
    · have := Sim.own (g := { g with nm := g.nm ++ [⟨some w.heap.size, 0, len, (AV.ar z xs).arz.getD 1⟩] }) (n := g.nm.length) (off := 0) (len := len) hnm rfl (by simp)
      exact (by simpa using this : Sim _ _ [_])
end
end Go.Avl
