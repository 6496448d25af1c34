/- Rows made at once, texts appended, what is frozen, a nil slice as a row of our own. -/
import Derived.Test.YthfongdjcpmpfaaAv8
namespace Go.Avl
open Go Go.RowKit
set_option linter.unusedVariables false

section
variable {P : Program} {N : Nat} {ops : Array Oper} {o : Oper} {rest : List Oper} {K : Env → Heap → Prop} {ρ : Env} {H : Heap} {x : AV} {c : Code} {Q : Exit → Env → Heap → Prop}

/-! ### Freezing -/
theorem WSat.freeze {F : Fr} {g : G} {w : World} (s : WSat F g H w) {i n z : Nat} {els : List AV} (hi : H[i]? = some (n, .mem (.ar z els))) :
    ∃ g', g.le g' ∧ WSat F g' (H.eraseIdx i) w ∧ ∀ off len v, off + len ≤ els.length → Sim g' (.own n off len) [v] → Sim g' (.fz z ((els.drop off).take len)) [v] := by
  obtain ⟨p, q1, q2, q3⟩ := s.obj n _ (List.mem_of_getElem? hi)
  have hsub : Sub (H.eraseIdx i) H := Sub.drop (x := (n, .mem (.ar z els))) (Sub.refl _) |>.trans (Sub.front i hi)
  have s2 := s.sub hsub
  obtain ⟨hz, l, sl, r⟩ := q2
  have hez : z = p.esz := hz z rfl
  rcases r with ⟨b, c, T, e1, e2, e3, e4, e5⟩ | ⟨e1, e6, e7⟩
  · have hlt : b < w.heap.size := (Array.getElem?_eq_some_iff.1 e2).1
    let g' : G := { ro := fun b' o' => if b' = b then c[o']? else g.ro b' o', nm := g.nm }
    have hle : g.le g' := by
      refine ⟨fun b' o' y h => ?_, fun _ _ h => h⟩
      show (if b' = b then c[o']? else g.ro b' o') = some y
      by_cases hb : b' = b
      · subst hb; rw [(q3 b' e1).2 o'] at h; cases h
      · rw [if_neg hb]; exact h
    have hnot : ∀ m ∈ H.eraseIdx i, ∀ q, g.nm[m.1]? = some q → q.b ≠ some b := by
      intro m hm q hq
      have hp := (List.Perm.pairwise_iff (fun {x y} (h : Apart g x y) => h.symm) (front_perm hi)).2 s.apart
      exact (List.pairwise_cons.1 hp).1 m hm p q b q1 hq e1
    refine ⟨g', hle, ⟨s2.below, s2.size, fun b' o' y h => ?_, fun b' o' y h1 h2 => ?_, fun n' m hm => ?_, ?_⟩, ?_⟩
    · have h' : (if b' = b then c[o']? else g.ro b' o') = some y := h
      by_cases hb : b' = b
      · subst hb; rw [if_pos rfl] at h'
        rw [cell_of_row w b' o' c T (0, 0) e2]; exact h'
      · rw [if_neg hb] at h'; exact s.ro b' o' y h'
    · have h' : (if b' = b then c[o']? else g.ro b' o') = some y := h2
      by_cases hb : b' = b
      · subst hb; have := (q3 b' e1).1; omega
      · rw [if_neg hb] at h'; exact s.r0 b' o' y h1 h'
    · obtain ⟨q, k1, k2, k3⟩ := s2.obj n' m hm
      refine ⟨q, k1, k2.mono hle, fun b' e => ⟨(k3 b' e).1, fun o' => ?_⟩⟩
      show (if b' = b then c[o']? else g.ro b' o') = none
      rw [if_neg (fun hb => hnot _ hm q k1 (by rw [← hb]; exact e))]
      exact (k3 b' e).2 o'
    · exact s2.apart.imp fun h => h
    · intro off len v hle' hv
      cases hv with
      | @own _ _ _ p' b' hn hb hlc =>
        obtain rfl : p = p' := Option.some.inj (q1.symm.trans hn)
        obtain rfl : b = b' := Option.some.inj (e1.symm.trans hb)
        obtain ⟨m, sm, hm⟩ := sl.ar_slice off (off + len)
        have heq : (els.take (off + len)).drop off = (els.drop off).take len := by rw [List.drop_take]; congr 1; omega
        rw [heq] at sm
        have hlen : ((els.drop off).take len).length = len := by simp; omega
        have := Sim.fz (g := g') (b := b) (o := p.base + off * p.esz) (cap := p.cap - off) (sm.mono hle) (fun j y hj => by
          show (if b = b then c[_]? else _) = some y
          rw [if_pos rfl]
          have := e5 _ _ (hm j y hj)
          rwa [show p.base + (off * z + j) = p.base + off * p.esz + j by rw [hez]; omega] at this) (by omega)
        rw [hlen] at this; exact this
      | own0 => simpa using Sim.fz0
  · have hx : els = [] := List.eq_nil_of_length_eq_zero e7.2
    refine ⟨g, .refl g, s2, fun off len v hle' hv => ?_⟩
    cases hv with
    | @own _ _ _ p' b' hn hb hlc =>
      obtain rfl : p = p' := Option.some.inj (q1.symm.trans hn)
      rw [e1] at hb; cases hb
    | own0 => simpa using Sim.fz0

theorem AW.freeze (i t : Nat) {n off len z : Nat} {els els' : List AV} (hi : H[i]? = some (n, .mem (.ar z els))) (ht : ρ.lookup t = some (.own n off len)) (hle : off + len ≤ els.length) (hx : (els.drop off).take len = els')
    (h : AW P N c Q ((t, .fz z els') :: ρ) (H.eraseIdx i)) : AW P N c Q ρ H := by
  intro F g a w R h1 h2 h3 h4
  obtain ⟨g', k1, k2, k3⟩ := h3.freeze hi
  refine h F g' a w R ?_ h2 k2 fun e g2 ρ' H' a' w' j1 j2 j3 j4 j5 j6 => h4 e g2 ρ' H' a' w' (k1.trans j1) j2 j3 j4 j5 j6
  intro u y hu
  rw [lookup_cons] at hu
  by_cases e : u = t
  · rw [if_pos e] at hu; cases hu; subst e
    rw [← hx]; exact k3 _ _ _ hle ((h1 u _ ht).mono k1)
  · rw [if_neg e] at hu; exact (h1 u y hu).mono k1

theorem AO.freeze (i t : Nat) {n off len z : Nat} {els els' : List AV} (hi : H[i]? = some (n, .mem (.ar z els))) (ht : ρ.lookup t = some (.own n off len)) (hle : off + len ≤ els.length) (hx : (els.drop off).take len = els')
    (h : AO P N ops rest K ((t, .fz z els') :: ρ) (H.eraseIdx i)) : AO P N ops rest K ρ H := by
  intro F g a w R h1 h2 h3 h4
  obtain ⟨g', k1, k2, k3⟩ := h3.freeze hi
  refine h F g' a w R ?_ h2 k2 fun g2 ρ' H' a' w' j1 j2 j3 j4 j5 j6 => h4 g2 ρ' H' a' w' (k1.trans j1) j2 j3 j4 j5 j6
  intro u y hu
  rw [lookup_cons] at hu
  by_cases e : u = t
  · rw [if_pos e] at hu; cases hu; subst e
    rw [← hx]; exact k3 _ _ _ hle ((h1 u _ ht).mono k1)
  · rw [if_neg e] at hu; exact (h1 u y hu).mono k1

/-- The same objects, one of them told in other words. -/
theorem WSat.retell {F : Fr} {g : G} {H H2 : Heap} {w : World} (s : WSat F g H w) (hn : H2.map (·.1) = H.map (·.1)) (h : ∀ n m, (n, m) ∈ H2 → ∃ m0, (n, m0) ∈ H ∧ ∀ p, MemSat g w p m0 → MemSat g w p m) : WSat F g H2 w := by
  refine ⟨s.below, s.size, s.ro, s.r0, fun n m hm => ?_, ?_⟩
  · obtain ⟨m0, h1, h2⟩ := h n m hm
    obtain ⟨p, k1, k2, k3⟩ := s.obj n m0 h1
    exact ⟨p, k1, h2 p k2, k3⟩
  · have hp := s.apart
    have e : ∀ L : Heap, L.Pairwise (Apart g) ↔ (L.map (·.1)).Pairwise fun x y => ∀ p q b, g.nm[x]? = some p → g.nm[y]? = some q → p.b = some b → q.b ≠ some b := fun L => by
      rw [List.pairwise_map]; rfl
    rw [e, hn, ← e]; exact hp

theorem MemSat.put {g : G} {w : World} {p : Place} {X X' y y' : AV} {off : Nat} (hp : Put X off y y' X') (hy : y.isAgg = false) (h : ∀ v, Sim g y [v] → Sim g y' [v]) (harz : X'.arz = X.arz) (hcap : X'.capn = X.capn) (s : MemSat g w p (.mem X)) : MemSat g w p (.mem X') := by
  obtain ⟨hz, l, sl, r⟩ := s
  obtain ⟨q, m, t, rfl, k1, k2, k3⟩ := sl.put (G.le.refl g) hp
  obtain ⟨v, rfl, _, _⟩ := V1.of_sim_one k2 hy
  exact ⟨fun z h => hz z (by rw [← harz]; exact h), _, k3 _ (h v k2) rfl, by rw [hcap]; exact r⟩

theorem map_eraseIdx' {α β : Type} (f : α → β) : ∀ (l : List α) (i : Nat), (l.eraseIdx i).map f = (l.map f).eraseIdx i
  | [], i => by simp
  | x :: l, 0 => by simp
  | x :: l, i + 1 => by simp [map_eraseIdx' f l i]
theorem map_set_eraseIdx {α β : Type} (f : α → β) : ∀ {l : List α} {j : Nat} {a b : α}, l[j]? = some a → f b = f a → (l.set j b).map f = l.map f
  | x :: l, 0, a, b, h, e => by simp at h; subst h; simp [e]
  | x :: l, j + 1, a, b, h, e => by simp at h; simp [map_set_eraseIdx f h e]

theorem AW.coeFld (j : Nat) {m off : Nat} {X X' y y' : AV} (hj : H[j]? = some (m, .mem X)) (hp : Put X off y y' X') (hy : y.isAgg = false) (hc : ∀ g v, Sim g y [v] → Sim g y' [v]) (harz : X'.arz = X.arz) (hcap : X'.capn = X.capn)
    (h : AW P N c Q ρ (H.set j (m, .mem X'))) : AW P N c Q ρ H := by
  intro F g a w R h1 h2 h3 h4
  refine h F g a w R h1 h2 (h3.retell (map_set_eraseIdx _ hj rfl) fun n m' hm => ?_) h4
  rcases List.mem_or_eq_of_mem_set hm with h | h
  · exact ⟨m', h, fun _ h => h⟩
  · cases h; exact ⟨.mem X, List.mem_of_getElem? hj, fun p h => h.put hp hy (hc g) harz hcap⟩
theorem AO.coeFld (j : Nat) {m off : Nat} {X X' y y' : AV} (hj : H[j]? = some (m, .mem X)) (hp : Put X off y y' X') (hy : y.isAgg = false) (hc : ∀ g v, Sim g y [v] → Sim g y' [v]) (harz : X'.arz = X.arz) (hcap : X'.capn = X.capn)
    (h : AO P N ops rest K ρ (H.set j (m, .mem X'))) : AO P N ops rest K ρ H := by
  intro F g a w R h1 h2 h3 h4
  refine h F g a w R h1 h2 (h3.retell (map_set_eraseIdx _ hj rfl) fun n m' hm => ?_) h4
  rcases List.mem_or_eq_of_mem_set hm with h | h
  · exact ⟨m', h, fun _ h => h⟩
  · cases h; exact ⟨.mem X, List.mem_of_getElem? hj, fun p h => h.put hp hy (hc g) harz hcap⟩

theorem AW.coe (t : Nat) {y y' : AV} (ht : ρ.lookup t = some y) (hc : ∀ g v, V g y v → V g y' v) (h : AW P N c Q ((t, y') :: ρ) H) : AW P N c Q ρ H := by
  intro F g a w R h1 h2 h3 h4
  refine h F g a w R (fun u z hu => ?_) h2 h3 h4
  rw [lookup_cons] at hu
  by_cases e : u = t
  · rw [if_pos e] at hu; cases hu; subst e; exact hc g _ (h1 u _ ht)
  · rw [if_neg e] at hu; exact h1 u z hu
theorem AO.coe (t : Nat) {y y' : AV} (ht : ρ.lookup t = some y) (hc : ∀ g v, V g y v → V g y' v) (h : AO P N ops rest K ((t, y') :: ρ) H) : AO P N ops rest K ρ H := by
  intro F g a w R h1 h2 h3 h4
  refine h F g a w R (fun u z hu => ?_) h2 h3 h4
  rw [lookup_cons] at hu
  by_cases e : u = t
  · rw [if_pos e] at hu; cases hu; subst e; exact hc g _ (h1 u _ ht)
  · rw [if_neg e] at hu; exact h1 u z hu

theorem nil_fz (z : Nat) (g : G) (v : Value) (h : Sim g (.fl (.slice none 0 0)) [v]) : Sim g (.fz z []) [v] := by cases h; exact Sim.fz0
theorem nil_fzV (z : Nat) (g : G) (v : Value) (h : V g (.fl (.slice none 0 0)) v) : V g (.fz z []) v := by
  obtain rfl : v = .slice none 0 0 := h
  exact (Sim.fz0 : Sim g _ [_])

/-- A field's own row is frozen where it lies. -/
theorem AW.freezeFld (i j : Nat) {m o' n off len z : Nat} {els els' : List AV} {X X' : AV} (hi : H[i]? = some (n, .mem (.ar z els))) (hj : H[j]? = some (m, .mem X)) (hp : Put X o' (.own n off len) (.fz z els') X') (hle : off + len ≤ els.length) (hx : (els.drop off).take len = els')
    (harz : X'.arz = X.arz) (hcap : X'.capn = X.capn) (hij : i ≠ j) (h : AW P N c Q ρ ((H.set j (m, .mem X')).eraseIdx i)) : AW P N c Q ρ H := by
  intro F g a w R h1 h2 h3 h4
  obtain ⟨g', k1, k2, k3⟩ := h3.freeze hi
  refine h F g' a w R (h1.mono k1) h2 ?_ fun e g2 ρ' H' a' w' j1 j2 j3 j4 j5 j6 => h4 e g2 ρ' H' a' w' (k1.trans j1) j2 j3 j4 j5 j6
  refine k2.retell ?_ fun n' m' hm => ?_
  · rw [map_eraseIdx', map_eraseIdx', map_set_eraseIdx (fun x : Nat × Mem => x.1) hj (b := (m, .mem X')) rfl]
  · rw [List.mem_eraseIdx_iff_getElem?] at hm
    obtain ⟨k, hk, e⟩ := hm
    by_cases hkj : j = k
    · subst hkj
      rw [List.getElem?_set_self (List.getElem?_eq_some_iff.1 hj).1] at e
      cases e
      refine ⟨.mem X, List.mem_eraseIdx_iff_getElem?.2 ⟨j, hk, hj⟩, fun p s => s.put hp rfl (fun v hv => ?_) harz hcap⟩
      rw [← hx]
      exact k3 _ _ _ hle hv
    · rw [List.getElem?_set_ne hkj] at e
      exact ⟨m', List.mem_eraseIdx_iff_getElem?.2 ⟨k, hk, e⟩, fun _ s => s⟩

/-- A nil slice is a row of our own that has nothing. -/
theorem nilOwn_core {F : Fr} {g : G} {w : World} (h3 : WSat F g H w) (z : Nat) : WSat F { g with nm := g.nm ++ [⟨none, 0, 0, z⟩] } ((g.nm.length, .mem (.ar z [])) :: H) w :=
  h3.cons (Below.refl _ _) _ _ (fun b e => by cases e) ⟨fun z' h => by cases h; rfl, [], Sim.arNil, .inr ⟨rfl, rfl, rfl, rfl⟩⟩
theorem own_nil (g : G) (z : Nat) : Sim { g with nm := g.nm ++ [⟨none, 0, 0, z⟩] } (.own g.nm.length 0 0) [.slice none 0 0] :=
  Sim.own0 (g := { g with nm := g.nm ++ [⟨none, 0, 0, z⟩] }) (n := g.nm.length) (off := 0) (p := ⟨none, 0, 0, z⟩) (by simp) (Nat.le_refl _)

theorem AW.nilOwn (t z : Nat) (ht : ρ.lookup t = some (.fl (.slice none 0 0))) (h : ∀ n, AW P N c Q ((t, .own n 0 0) :: ρ) ((n, .mem (.ar z [])) :: H)) : AW P N c Q ρ H := by
  intro F g a w R h1 h2 h3 h4
  refine h g.nm.length F _ a w R (fun u y hu => ?_) h2 (nilOwn_core h3 z) fun e g2 ρ' H' a' w' j1 j2 j3 j4 j5 j6 => h4 e g2 ρ' H' a' w' ((G.le.push g _).trans j1) j2 j3 j4 j5 j6
  rw [lookup_cons] at hu
  by_cases e : u = t
  · rw [if_pos e] at hu; cases hu; subst e
    have e2 : a.tmps.getD u undef = .slice none 0 0 := h1 u _ ht
    rw [e2]; exact own_nil g z
  · rw [if_neg e] at hu; exact (h1 u y hu).mono (G.le.push g _)
theorem AO.nilOwn (t z : Nat) (ht : ρ.lookup t = some (.fl (.slice none 0 0))) (h : ∀ n, AO P N ops rest K ((t, .own n 0 0) :: ρ) ((n, .mem (.ar z [])) :: H)) : AO P N ops rest K ρ H := by
  intro F g a w R h1 h2 h3 h4
  refine h g.nm.length F _ a w R (fun u y hu => ?_) h2 (nilOwn_core h3 z) fun g2 ρ' H' a' w' j1 j2 j3 j4 j5 j6 => h4 g2 ρ' H' a' w' ((G.le.push g _).trans j1) j2 j3 j4 j5 j6
  rw [lookup_cons] at hu
  by_cases e : u = t
  · rw [if_pos e] at hu; cases hu; subst e
    have e2 : a.tmps.getD u undef = .slice none 0 0 := h1 u _ ht
    rw [e2]; exact own_nil g z
  · rw [if_neg e] at hu; exact (h1 u y hu).mono (G.le.push g _)
theorem AW.nilOwnFld (j z : Nat) {m o' : Nat} {X : AV} (X' : Nat → AV) (hj : H[j]? = some (m, .mem X)) (hp : ∀ n, Put X o' (.fl (.slice none 0 0)) (.own n 0 0) (X' n)) (harz : ∀ n, (X' n).arz = X.arz) (hcap : ∀ n, (X' n).capn = X.capn)
    (h : ∀ n, AW P N c Q ρ ((n, .mem (.ar z [])) :: H.set j (m, .mem (X' n)))) : AW P N c Q ρ H := by
  intro F g a w R h1 h2 h3 h4
  have hs := nilOwn_core h3 z
  refine h g.nm.length F { g with nm := g.nm ++ [⟨none, 0, 0, z⟩] } a w R (h1.mono (G.le.push g _)) h2 ?_ fun e g2 ρ' H' a' w' j1 j2 j3 j4 j5 j6 => h4 e g2 ρ' H' a' w' ((G.le.push g _).trans j1) j2 j3 j4 j5 j6
  refine hs.retell (by simp [map_set_eraseIdx _ hj]) fun n' m' hm => ?_
  rcases List.mem_cons.1 hm with e | hm
  · cases e; exact ⟨_, List.mem_cons_self, fun _ s => s⟩
  · rcases List.mem_or_eq_of_mem_set hm with e | e
    · exact ⟨m', List.mem_cons_of_mem _ e, fun _ s => s⟩
    · cases e
      refine ⟨.mem X, List.mem_cons_of_mem _ (List.mem_of_getElem? hj), fun p s => s.put (hp _) rfl (fun v hv => ?_) (harz _) (hcap _)⟩
      cases hv; exact own_nil g z

end
end Go.Avl
