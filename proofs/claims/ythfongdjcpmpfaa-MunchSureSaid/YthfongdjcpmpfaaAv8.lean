/- Rows: append, make, copy; what is frozen; a nil slice as a row of our own. -/
import Derived.Test.YthfongdjcpmpfaaAv7
namespace Go.Avl
open Go Go.RowKit
set_option linter.unusedVariables false

/-- What stands behind in `append(.., x...)`: the elements that it reads as. -/
inductive Src (H : Heap) (z : Nat) : AV → List AV → Prop
  | nil : Src H z (.fl (.slice none 0 0)) []
  | fz {els} : Src H z (.fz z els) els
  | own {n off len els} (j : Nat) : H[j]? = some (n, .mem (.ar z els)) → off + len ≤ els.length → Src H z (.own n off len) ((els.drop off).take len)

section
variable {P : Program} {w : World}

theorem src_run {F : Fr} {g : G} {H : Heap} {z : Nat} {x : AV} {ys : List AV} (h3 : WSat F g H w) (hs : Src H z x ys) {v : Value} (hv : V g x v) :
    ∃ (news : List Value) (A : Option Addr) (cap : Nat), v = .slice A ys.length cap ∧ Sim g (.ar z ys) news ∧ ∀ w', w'.heap = w.heap → (Builtin.firstCells z ys.length v).run P w' = .ok news.toArray w' := by
  cases hs with
  | nil =>
    obtain rfl : v = .slice none 0 0 := hv
    exact ⟨[], none, 0, rfl, Sim.arNil, fun w' _ => by simp [Builtin.firstCells]⟩
  | fz =>
    have hv' : Sim g (.fz z ys) [v] := hv
    cases hv' with
    | @fz _ _ l b o cap sl hro hc =>
      refine ⟨l, _, cap, rfl, sl, fun w' hw => ?_⟩
      have hcell : ∀ j u, l[j]? = some u → w'.cell? ((⟨b, o, none⟩ : Addr).add j) = some u := fun j u hj => by
        rw [Addr.add_lit]
        have := h3.ro _ _ _ (hro j u hj)
        simpa [World.cell?, hw] using this
      have := run_firstCells_some (P := P) w' z ys.length ⟨b, o, none⟩ ys.length cap l sl.ar_length hcell
      simpa using this
    | @fz0 _ ad cap =>
      refine ⟨[], ad, cap, rfl, Sim.arNil, fun w' _ => ?_⟩
      cases ad <;> simp [Builtin.firstCells, loadCells, loadCellsFrom]
  | @own n off len els j hj hle =>
    have hlen : ((els.drop off).take len).length = len := by simp; omega
    have hv' : Sim g (.own n off len) [v] := hv
    obtain ⟨p', q1, q2, _⟩ := h3.obj n _ (List.mem_of_getElem? hj)
    cases hv' with
    | @own _ _ _ p b hn hb hlc =>
      obtain rfl : p' = p := Option.some.inj (q1.symm.trans hn)
      obtain ⟨hz, l, sl, r⟩ := q2
      have hez : z = p'.esz := hz z rfl
      rcases r with ⟨b', c, T, e1, e2, e3, e4, e5⟩ | ⟨e1, _⟩
      · obtain rfl : b' = b := Option.some.inj (e1.symm.trans hb)
        obtain ⟨m, sm, hm⟩ := sl.ar_slice off (off + len)
        have heq : (els.take (off + len)).drop off = (els.drop off).take len := by rw [List.drop_take]; congr 1; omega
        rw [heq] at sm
        refine ⟨m, some ⟨b', p'.base + off * p'.esz, none⟩, p'.cap - off, by rw [hlen], sm, fun w' hw => ?_⟩
        have hcell : ∀ j u, m[j]? = some u → w'.cell? ((⟨b', p'.base + off * p'.esz, none⟩ : Addr).add j) = some u := fun j u hj => by
          rw [Addr.add_lit]
          have := e5 _ _ (hm j u hj)
          rw [show p'.base + (off * z + j) = p'.base + off * p'.esz + j by rw [hez]; omega] at this
          simp [World.cell?, hw, e2, this]
        have := run_firstCells_some (P := P) w' z len ⟨b', p'.base + off * p'.esz, none⟩ len (p'.cap - off) m (by rw [sm.ar_length, hlen]) hcell
        rw [hlen]
        simpa using this
      · rw [e1] at hb; cases hb
    | @own0 _ _ p ad hn hb =>
      refine ⟨[], ad, 0, by simp, by simpa using Sim.arNil, fun w' _ => ?_⟩
      simp only [List.take_zero, List.length_nil]
      cases ad <;> simp [Builtin.firstCells, loadCells, loadCellsFrom]

/-- An append that fits. -/
theorem run_append_in {t u ty e : TypeId} {i : TypeInfo} {d : TypeDesc} (ht : P.underlying t = some (.slice e)) (hu : P.underlying u = some d) (hd : d = .string ∨ ∃ e', d = .slice e') (hi : P.info? e = some i)
    {g o sLen sCap n : Nat} {cur : Array Value} {T : TypeId} (hg : w.heap[g]? = some (.cells cur T (0, 0))) {x : Value} {news : List Value} (hlen : (Builtin.lenOf x).run P w = .ok n w) (hx : (Builtin.firstCells i.size n x).run P w = .ok news.toArray w)
    (hl : news.length = n * i.size) (h1 : ∀ u ∈ news, u.oneCell' = true) (hroom : sLen + n ≤ sCap) (hfit : o + sLen * i.size + news.length ≤ cur.size) :
    (Builtin.append_ #[t, u] ty #[.slice (some ⟨g, o, none⟩) sLen sCap, x]).run P w =
      .ok (.slice (some ⟨g, o, none⟩) (sLen + n) sCap) (w.setRow g (cur.toList.take (o + sLen * i.size) ++ news ++ cur.toList.drop (o + sLen * i.size + news.length)).toArray) := by
  have hst := run_storeCells_at P g (o + sLen * i.size) T news 0 cur w hg (by simpa using hfit) h1
  simp only [Nat.add_zero] at hst
  rcases hd with rfl | ⟨e', rfl⟩ <;>
  simp [Builtin.append_, run_underlying ht, run_underlying hu, sizeOf, typeInfo, hi, hlen, hroom, hx, Addr.add_lit, hst]

/-- An append that needs a new row. -/
theorem run_append_new {t u ty e : TypeId} {i : TypeInfo} {d : TypeDesc} {z : Value} (ht : P.underlying t = some (.slice e)) (hu : P.underlying u = some d) (hd : d = .string ∨ ∃ e', d = .slice e') (hi : P.info? e = some i) (hz : i.zero = some z)
    {b : Option Addr} {sLen sCap n : Nat} {x : Value} {olds news : List Value} (hlen : (Builtin.lenOf x).run P w = .ok n w)
    (hs : (Builtin.firstCells i.size sLen (.slice b sLen sCap)).run P w.drew = .ok olds.toArray w.drew) (hx : (Builtin.firstCells i.size n x).run P w.drew = .ok news.toArray w.drew)
    (hg : sCap < sLen + n) (h63 : sLen + n ≤ 9223372036854775807) (hfit : Builtin.nextslicecap (sLen + n) sCap * i.bytes ≤ 281474976710656) :
    (Builtin.append_ #[t, u] ty #[.slice b sLen sCap, x]).run P w =
      .ok (.slice (some ⟨w.heap.size, 0, none⟩) (sLen + n) (grownCap w (sLen + n) sCap e))
        (w.drew.alloc (.cells (olds.toArray ++ news.toArray ++ Builtin.zeroCells z.cells (grownCap w (sLen + n) sCap e - (sLen + n))) e)) := by
  have hn : ¬ (sLen + n ≤ sCap) := by omega
  have h63' : ¬ (9223372036854775807 < ((sLen : Int) + (n : Int))) := by omega
  have h48' : ¬ (281474976710656 < Builtin.nextslicecap (sLen + n) sCap * i.bytes) := by omega
  rcases hd with rfl | ⟨e', rfl⟩ <;>
  (simp [Builtin.append_, run_underlying ht, run_underlying hu, sizeOf, typeInfo, zeroValue, hi, hz, hlen, hn, h63', h48', Question.forced, hs, hx, newRow, grownCap, show IntKind.i64.max = 9223372036854775807 from rfl]
   congr 2
   apply Array.ext'
   simp)
end

theorem Sim.append {g : G} {z : Nat} : ∀ {a b : List AV} {l m : List Value}, Sim g (.ar z a) l → Sim g (.ar z b) m → Sim g (.ar z (a ++ b)) (l ++ m)
  | [], b, l, m, s, t => by cases s; simpa using t
  | c :: a, b, l, m, s, t => by
    cases s with
    | arCons h1 h2 h3 => simpa using Sim.arCons h1 h2 (Sim.append h3 t)

def tyBytes (P : Program) (T : TypeId) : Option Nat := (P.info? T).map (·.bytes)

theorem lenOf_run {P : Program} {w : World} (A : Option Addr) (n c : Nat) : (Builtin.lenOf (.slice A n c)).run P w = .ok n w := rfl

section
variable {P : Program} {N : Nat} {ops : Array Oper} {o : Oper} {rest : List Oper} {K : Env → Heap → Prop} {ρ : Env} {H : Heap} {x : AV}

theorem run_append_zero {w : World} {t u ty e : TypeId} {i : TypeInfo} {d : TypeDesc} (ht : P.underlying t = some (.slice e)) (hu : P.underlying u = some d) (hd : d = .string ∨ ∃ e', d = .slice e') (hi : P.info? e = some i) (ad : Option Addr) {x : Value}
    (hlen : (Builtin.lenOf x).run P w = .ok 0 w) (hx : (Builtin.firstCells i.size 0 x).run P w = .ok ([] : List Value).toArray w) : (Builtin.append_ #[t, u] ty #[.slice ad 0 0, x]).run P w = .ok (.slice ad 0 0) w := by
  cases ad <;> rcases hd with rfl | ⟨e', rfl⟩ <;>
  simp [Builtin.append_, run_underlying ht, run_underlying hu, sizeOf, typeInfo, hi, hlen, hx, storeCells]

set_option maxHeartbeats 1000000 in
/-- What an append comes to: the object that was there is gone; another one, in its place, has all. -/
theorem append_core {F : Fr} {g : G} {w : World} (h3 : WSat F g H w) {t u ty E : TypeId} {dsc : TypeDesc} {z by' n off len : Nat} {els ys els' : List AV} {zl : List Value} {i : Nat} {sv xv : Value} {news : List Value}
    (hi : H[i]? = some (n, .mem (.ar z els))) (hsv : Sim g (.own n off len) [sv]) (hle : off + len ≤ els.length)
    (hlen : ∀ w', w'.heap = w.heap → (Builtin.lenOf xv).run P w' = .ok ys.length w') (hnews : Sim g (.ar z ys) news) (hx : ∀ w', w'.heap = w.heap → (Builtin.firstCells z ys.length xv).run P w' = .ok news.toArray w')
    (ht : P.underlying t = some (.slice E)) (hu : P.underlying u = some dsc) (hdsc : dsc = .string ∨ ∃ e', dsc = .slice e') (hz : tySize P E = some z) (hby : tyBytes P E = some by') (hzero : tyZero P E = some zl) (hzl : zl.length = z)
    (hbound : (len + ys.length) * by' ≤ 140737488355328) (h63 : len + ys.length ≤ 9223372036854775807) (hc : (els.drop off).take len ++ ys = els') :
    ∃ v g' w', (Builtin.append_ #[t, u] ty #[sv, xv]).run P w = .ok v w' ∧ g.le g' ∧ V g' (.own g.nm.length 0 (len + ys.length)) v ∧ WSat F g' (H.set i (g.nm.length, .mem (.ar z els'))) w' := by
  simp only [tySize, Option.map_eq_some_iff] at hz
  obtain ⟨inf, hinf, hsz⟩ := hz
  simp only [tyBytes, hinf, Option.map_some, Option.some.injEq] at hby
  simp only [tyZero, hinf, Option.bind_some, Option.map_eq_some_iff] at hzero
  obtain ⟨zv, hzv, hzc⟩ := hzero
  have hzcs : zv.cells.size = z := by rw [← hzl, ← hzc]; simp
  obtain ⟨p', q1, q2, q3⟩ := h3.obj n _ (List.mem_of_getElem? hi)
  have hxs : ∀ w', w'.heap = w.heap → (Builtin.firstCells inf.size ys.length xv).run P w' = .ok news.toArray w' := by rw [hsz]; exact hx
  have hnl : news.length = ys.length * inf.size := by rw [hsz]; exact hnews.ar_length
  cases hsv with
  | @own _ _ _ p b hn hb hlc =>
    obtain rfl : p' = p := Option.some.inj (q1.symm.trans hn)
    obtain ⟨hzz, l, sl, r⟩ := q2
    have hez : z = p'.esz := hzz z rfl
    rcases r with ⟨b', c, T, e1, e2, e3, e4, e5⟩ | ⟨e1, _⟩
    · obtain rfl : b' = b := Option.some.inj (e1.symm.trans hb)
      obtain ⟨m, sm, hm⟩ := sl.ar_slice off (off + len)
      have heq : (els.take (off + len)).drop off = (els.drop off).take len := by rw [List.drop_take]; congr 1; omega
      rw [heq] at sm
      have hml : m.length = len * z := by rw [sm.ar_length]; congr 1; simp; omega
      have hlt : b' < w.heap.size := (Array.getElem?_eq_some_iff.1 e2).1
      have hmc : ∀ j u, m[j]? = some u → c[p'.base + off * z + j]? = some u := fun j u hj => by
        have := e5 _ _ (hm j u hj); rwa [show p'.base + (off * z + j) = p'.base + off * z + j by omega] at this
      by_cases hroom : len + ys.length ≤ p'.cap - off
      · have hcap : (off + len + ys.length) * z ≤ p'.cap * z := Nat.mul_le_mul_right _ (by omega)
        rw [← hez] at e3
        have hfit : p'.base + off * z + len * inf.size + news.length ≤ c.size := by
          rw [hnl, hsz]; rw [Nat.add_mul, Nat.add_mul] at hcap; omega
        have hr := run_append_in (P := P) (w := w) (ty := ty) (sLen := len) (sCap := p'.cap - off) (o := p'.base + off * z) ht hu hdsc hinf e2 (hlen w rfl) (hxs w rfl) hnl hnews.one hroom hfit
        refine ⟨_, { g with nm := g.nm ++ [⟨some b', p'.base + off * z, p'.cap - off, z⟩] }, _, by rw [← hez]; exact hr, G.le.push g _, ?_, ?_⟩
        · have := Sim.own (g := { g with nm := g.nm ++ [⟨some b', p'.base + off * z, p'.cap - off, z⟩] }) (n := g.nm.length) (off := 0) (len := len + ys.length) (p := ⟨some b', p'.base + off * z, p'.cap - off, z⟩) (by simp) rfl (by simpa using hroom)
          exact (by simpa using this : Sim _ _ [_])
        · refine h3.set hi hn (G.le.push g _) (fun _ _ => rfl) rfl rfl rfl (by simp) (fun k hk hne => setRow_other w b' k _ (fun e => hne (by rw [e1, e]))) (n' := g.nm.length) (p' := ⟨some b', p'.base + off * z, p'.cap - off, z⟩) (by simp) ?_ (fun b e => .inl (by cases e; exact hb))
          refine ⟨fun z' hz' => by cases hz'; rfl, m ++ news, ?_, .inl ⟨b', _, T, rfl, setRow_heap w b' c _ T _ e2, ?_, ?_, ?_⟩⟩
          · rw [← hc]; exact (sm.append hnews).mono (G.le.push g _)
          · have : (p'.cap - off) * z = p'.cap * z - off * z := Nat.sub_mul _ _ _
            have h5 : off * z ≤ p'.cap * z := Nat.mul_le_mul_right _ (by omega)
            simp only [List.size_toArray, List.length_append, List.length_take, List.length_drop, Array.length_toList]
            rw [this]; omega
          · simp only [List.size_toArray, List.length_append, List.length_take, List.length_drop, Array.length_toList]
            rw [hml]; rw [hsz] at hfit; omega
          · intro j v hj
            simp only [List.getElem?_toArray]
            rw [hsz]
            rcases Nat.lt_or_ge j (len * z) with hlt' | hge
            · rw [List.getElem?_append_left (by omega)] at hj
              rw [List.append_assoc, List.getElem?_append_left (by simp; rw [hsz] at hfit; omega), List.getElem?_take_of_lt (by omega)]
              simpa using hmc j v hj
            · rw [List.getElem?_append_right (by omega), hml] at hj
              have hjn : j - len * z < news.length := (List.getElem?_eq_some_iff.1 hj).1
              rw [List.append_assoc, List.getElem?_append_right (by simp; rw [hsz] at hfit; omega), List.getElem?_append_left (by simp; rw [hsz] at hfit; omega), ← hj]
              congr 1
              simp
              rw [hsz] at hfit
              omega
      · have hcell : ∀ j u, m[j]? = some u → w.drew.cell? ((⟨b', p'.base + off * z, none⟩ : Addr).add j) = some u := fun j u hj => by
          rw [Addr.add_lit]
          have := hmc j u hj
          have hh : w.drew.heap = w.heap := rfl
          simp [World.cell?, hh, e2, this]
        have hold := run_firstCells_some (P := P) w.drew inf.size len ⟨b', p'.base + off * z, none⟩ len (p'.cap - off) m (by rw [hsz]; exact hml) hcell
        have hr := run_append_new (P := P) (w := w) (ty := ty) (b := some ⟨b', p'.base + off * z, none⟩) (sLen := len) (sCap := p'.cap - off) ht hu hdsc hinf hzv (hlen w rfl) hold (hxs w.drew rfl) (by omega) h63 (by rw [hby]; exact growslice_fits (by omega) hbound)
        have hge := grownCap_ge w (len + ys.length) (p'.cap - off) E
        refine ⟨_, { g with nm := g.nm ++ [⟨some w.heap.size, 0, grownCap w (len + ys.length) (p'.cap - off) E, z⟩] }, _, by rw [← hez]; exact hr, G.le.push g _, ?_, ?_⟩
        · have := Sim.own (g := { g with nm := g.nm ++ [⟨some w.heap.size, 0, grownCap w (len + ys.length) (p'.cap - off) E, z⟩] }) (n := g.nm.length) (off := 0) (len := len + ys.length) (p := ⟨some w.heap.size, 0, grownCap w (len + ys.length) (p'.cap - off) E, z⟩) (by simp) rfl (by simpa using hge)
          exact (by simpa using this : Sim _ _ [_])
        · refine h3.set hi hn (G.le.push g _) (fun _ _ => rfl) rfl rfl rfl (by simp) (fun k hk hne => Below.heap_alloc w.drew _ k hk) (n' := g.nm.length) (p' := ⟨some w.heap.size, 0, grownCap w (len + ys.length) (p'.cap - off) E, z⟩) (by simp) ?_ (fun b e => .inr (by cases e; exact Nat.le_refl _))
          refine ⟨fun z' hz' => by cases hz'; rfl, m ++ news, ?_, .inl ⟨w.heap.size, _, E, rfl, heap_alloc_new w.drew _, ?_, ?_, ?_⟩⟩
          · rw [← hc]; exact (sm.append hnews).mono (G.le.push g _)
          · simp only [Array.size_append, List.size_toArray, size_zeroCells, hzcs, hml, hnl, hsz, Nat.zero_add]
            rw [← Nat.add_mul, ← Nat.add_mul]
            exact Nat.mul_le_mul_right _ (by omega)
          · simp only [Array.size_append, List.size_toArray, List.length_append]; omega
          · intro j v hj
            simp only [Nat.zero_add]
            have hjl := (List.getElem?_eq_some_iff.1 hj).1
            rw [← Array.getElem?_toList]
            simp only [Array.toList_append]
            rw [List.getElem?_append_left (by simpa using hjl)]
            exact hj
    · rw [e1] at hb; cases hb
  | @own0 _ _ p ad hn hoc =>
    have hel : els' = ys := by rw [← hc]; simp
    subst hel
    by_cases hm : els'.length = 0
    · have hy0 : els' = [] := List.eq_nil_of_length_eq_zero hm
      subst hy0
      have hn0 : news = [] := List.eq_nil_of_length_eq_zero (by simpa using hnl)
      subst hn0
      have hr : (Builtin.append_ #[t, u] ty #[.slice ad 0 0, xv]).run P w = .ok (.slice ad 0 0) w := by
        exact run_append_zero ht hu hdsc hinf ad (hlen w rfl) (hxs w rfl)
      refine ⟨_, { g with nm := g.nm ++ [⟨none, 0, 0, z⟩] }, w, hr, G.le.push g _, ?_, ?_⟩
      · exact (Sim.own0 (g := { g with nm := g.nm ++ [⟨none, 0, 0, z⟩] }) (n := g.nm.length) (off := 0) (p := ⟨none, 0, 0, z⟩) (by simp) (Nat.le_refl _) : Sim _ _ [_])
      · exact h3.set hi hn (G.le.push g _) (fun _ _ => rfl) rfl rfl rfl (Nat.le_refl _) (fun _ _ _ => rfl) (n' := g.nm.length) (p' := ⟨none, 0, 0, z⟩) (by simp) ⟨fun z' hz' => by cases hz'; rfl, [], Sim.arNil, .inr ⟨rfl, rfl, rfl, rfl⟩⟩ (fun b e => by cases e)
    · have hold : (Builtin.firstCells inf.size 0 (.slice ad 0 0)).run P w.drew = .ok ([] : List Value).toArray w.drew := by
        cases ad <;> simp [Builtin.firstCells, loadCells, loadCellsFrom]
      have hr := run_append_new (P := P) (w := w) (ty := ty) (b := ad) (sLen := 0) (sCap := 0) ht hu hdsc hinf hzv (hlen w rfl) hold (hxs w.drew rfl) (by omega) (by omega) (by rw [hby]; exact growslice_fits (by omega) hbound)
      have hge := grownCap_ge w (0 + els'.length) 0 E
      refine ⟨_, { g with nm := g.nm ++ [⟨some w.heap.size, 0, grownCap w (0 + els'.length) 0 E, z⟩] }, _, hr, G.le.push g _, ?_, ?_⟩
      · have := Sim.own (g := { g with nm := g.nm ++ [⟨some w.heap.size, 0, grownCap w (0 + els'.length) 0 E, z⟩] }) (n := g.nm.length) (off := 0) (len := 0 + els'.length) (p := ⟨some w.heap.size, 0, grownCap w (0 + els'.length) 0 E, z⟩) (by simp) rfl (by show 0 + (0 + els'.length) ≤ grownCap w (0 + els'.length) 0 E; omega)
        simp only [Nat.zero_mul, Nat.add_zero, Nat.sub_zero] at this
        exact (this : Sim _ _ [_])
      · refine h3.set hi hn (G.le.push g _) (fun _ _ => rfl) rfl rfl rfl (by simp) (fun k hk hne => Below.heap_alloc w.drew _ k hk) (n' := g.nm.length) (p' := ⟨some w.heap.size, 0, grownCap w (0 + els'.length) 0 E, z⟩) (by simp) ?_ (fun b e => .inr (by cases e; exact Nat.le_refl _))
        refine ⟨fun z' hz' => by cases hz'; rfl, news, hnews.mono (G.le.push g _), .inl ⟨w.heap.size, _, E, rfl, heap_alloc_new w.drew _, ?_, ?_, ?_⟩⟩
        · simp only [Array.size_append, List.size_toArray, size_zeroCells, hzcs, hnl, hsz, Nat.zero_add, List.length_nil]
          rw [← Nat.add_mul]
          exact Nat.mul_le_mul_right _ (by omega)
        · simp
        · intro j v hj
          simp only [Nat.zero_add]
          have hjl := (List.getElem?_eq_some_iff.1 hj).1
          rw [← Array.getElem?_toList]
          simp only [Array.toList_append]
          rw [List.getElem?_append_left (by simpa using hjl)]
          exact hj

theorem AO.append {T U E E' : TypeId} {s y : Operand} {z by' n off len : Nat} {els ys : List AV} {xv : AV} {zl : List Value} (i : Nat) (els' : List AV) (len' : Nat) (hg : o.guard = none) (d : Nat) (hd : o.dst = some d) (hN : d < N)
    (ho : o.op = .call { callee := .builtin .append, args := #[s, y], argTypes := #[T, U] }) (hs : Env.ev ρ s = some (.own n off len)) (hy : Env.ev ρ y = some xv) (hi : H[i]? = some (n, .mem (.ar z els))) (hsrc : Src H z xv ys) (hle : off + len ≤ els.length)
    (ht : P.underlying T = some (.slice E)) (hu : P.underlying U = some (.slice E')) (hz : tySize P E = some z) (hby : tyBytes P E = some by') (hzero : tyZero P E = some zl) (hzl : zl.length = z)
    (hbound : (len + ys.length) * by' ≤ 140737488355328) (h63 : len + ys.length ≤ 9223372036854775807) (hc : (els.drop off).take len ++ ys = els') (hl' : len + ys.length = len')
    (h : ∀ n', AO P N ops rest K ((d, .own n' 0 len') :: ρ) (H.set i (n', .mem (.ar z els')))) : AO P N ops (o :: rest) K ρ H :=
  AO.step hg d hd hN fun F g a w se h3 => by
    obtain ⟨news, A, cap, e1, e2, e3⟩ := src_run (P := P) h3 hsrc (se.ev hy)
    obtain ⟨v, g', w', k1, k2, k3, k4⟩ := append_core (P := P) (ty := o.type) h3 hi (se.ev hs) hle (fun w' _ => by rw [e1]; rfl) e2 e3 ht hu (.inr ⟨_, rfl⟩) hz hby hzero hzl hbound h63 hc
    subst hl'
    refine ⟨v, g', w', _, _, ?_, k2, k3, k4, h _⟩
    simp [execOp, ho, resolve, invoke, builtin, k1]
end
end Go.Avl
