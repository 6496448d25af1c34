/- The rules once more, over lists and vectors of Lean. -/
import Derived.Test.YthfongdjcpmpfaaAv13
namespace Go.Avl
open Go Go.RowKit
set_option linter.unusedVariables false

theorem At.lidx {α : Type} [Inhabited α] {f : α → AV} {l : List α} {z o : Nat} {y : AV} (i : Int) (h0 : 0 ≤ i) (h1 : i < (l.length : Int)) (h : At (f (lget l i)) o y) : At (.ar z (l.map f)) (i.toNat * z + o) y := At.idx _ (map_lget f l i h0 h1) h
theorem At.vidx {α : Type} [Inhabited α] {n : Nat} {f : α → AV} {v : Vector α n} {z o : Nat} {y : AV} (i : Int) (h0 : 0 ≤ i) (h1 : i < (n : Int)) (h : At (f (vget v i)) o y) : At (.ar z (v.toList.map f)) (i.toNat * z + o) y := At.idx _ (map_vget f v i h0 h1) h
theorem Put.lidx {α : Type} [Inhabited α] {f : α → AV} {l : List α} {z o : Nat} {y y' : AV} (i : Int) (x : α) (h0 : 0 ≤ i) (h1 : i < (l.length : Int)) (h : Put (f (lget l i)) o y y' (f x)) : Put (.ar z (l.map f)) (i.toNat * z + o) y y' (.ar z ((lset l i x).map f)) := by
  rw [← map_lset]; exact Put.idx _ (map_lget f l i h0 h1) h
theorem Put.vidx {α : Type} [Inhabited α] {n : Nat} {f : α → AV} {v : Vector α n} {z o : Nat} {y y' : AV} (i : Int) (x : α) (h0 : 0 ≤ i) (h1 : i < (n : Int)) (h : Put (f (vget v i)) o y y' (f x)) : Put (.ar z (v.toList.map f)) (i.toNat * z + o) y y' (.ar z ((vset v i x).toList.map f)) := by
  rw [← map_vset]; exact Put.idx _ (map_vget f v i h0 h1) h

/-- What is nil may be told as a frozen row without elements. -/
inductive Coe : AV → AV → Prop
  | refl {x} : Coe x x
  | nil {z} : Coe (.fl (.slice none 0 0)) (.fz z [])
  | st {k c c' cs cs'} : Coe c c' → Coe (.st cs) (.st cs') → Coe (.st ((k, c) :: cs)) (.st ((k, c') :: cs'))

theorem Coe.sim {g : G} {x y : AV} (h : Coe x y) : ∀ {l}, Sim g x l → Sim g y l := by
  induction h with
  | refl => exact fun s => s
  | nil => intro l s; cases s; exact Sim.fz0
  | st _ _ i1 i2 => intro l s; cases s with | stCons a b c => exact Sim.stCons (i1 a) b (i2 c)
theorem Coe.v {g : G} {x y : AV} (h : Coe x y) {v : Value} (s : V g x v) : V g y v := by
  cases h with
  | refl => exact s
  | nil => exact nil_fzV _ g v s
  | st a b => obtain ⟨l, e, k⟩ := s; exact ⟨l, e, (Coe.st a b).sim k⟩

theorem lay_fl {g : G} {v : Value} (h : v.oneCell' = true) : Sim g (.fl v) [v] := .fl h
theorem lay_vec {α : Type} {g : G} {n z : Nat} {f : α → AV} {a : α} {l : List Value} (h : Sim g (f a) l) (hz : l.length = z) : Sim g (.ar z ((Vector.replicate n a).toList.map f)) (List.replicate n l).flatten := by
  have e : (Vector.replicate n a).toList.map f = List.replicate n (f a) := by simp
  rw [e]
  induction n with
  | zero => exact Sim.arNil
  | succ n ih => rw [List.replicate_succ, List.replicate_succ, List.flatten_cons]; exact Sim.arCons h hz (ih (by simp))
theorem flatten_one (n : Nat) (v : Value) : (List.replicate n [v]).flatten = List.replicate n v := by
  induction n with
  | zero => rfl
  | succ n ih => rw [List.replicate_succ, List.flatten_cons, ih]; rfl
theorem lay_vec1 {α : Type} {g : G} {n : Nat} {f : α → AV} {a : α} {v : Value} (h : Sim g (f a) [v]) : Sim g (.ar 1 ((Vector.replicate n a).toList.map f)) (List.replicate n v) := by
  rw [← flatten_one]; exact lay_vec h rfl

section
variable {P : Program} {N : Nat} {ops : Array Oper} {o : Oper} {rest : List Oper} {K : Env → Heap → Prop} {ρ : Env} {H : Heap} {x : AV} {c : Code} {Q : Exit → Env → Heap → Prop}

theorem AO.coeC (t : Nat) {y y' : AV} (ht : ρ.lookup t = some y) (hc : Coe y y') (h : AO P N ops rest K ((t, y') :: ρ) H) : AO P N ops rest K ρ H := AO.coe t ht (fun _ _ => hc.v) h
theorem AW.coeC (t : Nat) {y y' : AV} (ht : ρ.lookup t = some y) (hc : Coe y y') (h : AW P N c Q ((t, y') :: ρ) H) : AW P N c Q ρ H := AW.coe t ht (fun _ _ => hc.v) h

theorem AO.callS {fo : Operand} {as : List Operand} {A : Array TypeId} {f : FuncId} (args : List AV) (r : AV) (d : Nat) (hd : o.dst = some d) (hN : d < N) (hok : FnOK P f) (hg : o.guard = none) (ho : o.op = .call { callee := .value fo, args := as.toArray, argTypes := A }) (hf : Env.ev ρ fo = some (.fl (.func (.func f) #[] #[])))
    (ha : evs ρ as args) (h : Spec P f args r) (hk : AO P N ops rest K ((d, r) :: ρ) H) : AO P N ops (o :: rest) K ρ H :=
  AO.call_w (fun _ _ _ => wanted_none hg _) args r ho hf d hd hN hok ha h hk
theorem AO.callG (j : Nat) (b : Bool) (e : Nat) {fo : Operand} {as : List Operand} {A : Array TypeId} {f : FuncId} (args : List AV) (r : AV) (d : Nat) (hd : o.dst = some d) (hN : d < N) (hok : FnOK P f) (hg : o.guard = some (j, b)) (he : (ops[j]?).bind (·.dst) = some e) (hb : ρ.lookup e = some (.fl (.bool b)))
    (ho : o.op = .call { callee := .value fo, args := as.toArray, argTypes := A }) (hf : Env.ev ρ fo = some (.fl (.func (.func f) #[] #[])))
    (ha : evs ρ as args) (h : Spec P f args r) (hk : AO P N ops rest K ((d, r) :: ρ) H) : AO P N ops (o :: rest) K ρ H :=
  AO.call_w (fun _ _ s => (wanted_some hg he hb s).trans (by simp)) args r ho hf d hd hN hok ha h hk

theorem Calm.lenL {α : Type} {f : α → AV} {l : List α} {T E : TypeId} {y : Operand} {z : Nat} (ho : o.op = .call { callee := .builtin .len, args := #[y], argTypes := #[T] }) (hy : Env.ev ρ y = some (.fz z (l.map f)))
    (ht : P.underlying T = some (.slice E)) : Calm P o ρ H (.fl (.int .i64 (l.length : Int))) := by
  have := Calm.lenFz (H := H) ho hy ht; rwa [List.length_map] at this
theorem Calm.idxL {α : Type} [Inhabited α] {f : α → AV} {l : List α} {T E : TypeId} {y iy : Operand} {z : Nat} {k : IntKind} {i : Int} (ho : o.op = .indexAddr T y iy) (hy : Env.ev ρ y = some (.fz z (l.map f))) (hiy : Env.ev ρ iy = some (.fl (.int k i)))
    (h : 0 ≤ i ∧ i < (l.length : Int)) (ht : P.underlying T = some (.slice E)) (hz : tySize P E = some z) : Calm P o ρ H (.rp (f (lget l i))) := Calm.idxFz ho hy hiy h.1 (map_lget f l i h.1 h.2) ht hz
theorem Calm.idxV {α : Type} [Inhabited α] {n : Nat} {f : α → AV} {v : Vector α n} {T E : TypeId} {y iy : Operand} {z : Nat} {k : IntKind} {i : Int} (ho : o.op = .indexAddr T y iy) (hy : Env.ev ρ y = some (.rp (.ar z (v.toList.map f)))) (hiy : Env.ev ρ iy = some (.fl (.int k i)))
    (h : 0 ≤ i ∧ i < (n : Int)) (ht : P.underlying T = some (.array n E)) (hz : tySize P E = some z) : Calm P o ρ H (.rp (f (vget v i))) := Calm.idxRp ho hy hiy h.1 h.2 (map_vget f v i h.1 h.2) ht hz
theorem Calm.idxVv {α : Type} [Inhabited α] {n : Nat} {f : α → AV} {v : Vector α n} {T E : TypeId} {y iy : Operand} {z : Nat} {k : IntKind} {i : Int} (ho : o.op = .index T y iy) (hy : Env.ev ρ y = some (.ar z (v.toList.map f))) (hiy : Env.ev ρ iy = some (.fl (.int k i)))
    (h : 0 ≤ i ∧ i < (n : Int)) (ht : P.underlying T = some (.array n E)) (hz : tySize P E = some z) (ha : tyAgg P E = some (f (vget v i)).isAgg) (hxz : (f (vget v i)).size = z) : Calm P o ρ H (f (vget v i)) := Calm.idxAr ho hy hiy h.1 h.2 (map_vget f v i h.1 h.2) ht hz ha hxz
theorem Calm.sliceL {α : Type} {f : α → AV} {l : List α} {T E : TypeId} {y : Operand} {lo hi : Option Operand} {z : Nat} {i j : Int} (ho : o.op = .slice T y lo hi none) (hy : Env.ev ρ y = some (.fz z (l.map f))) (hl : lowOf ρ lo = some i) (hh : highOf ρ (l.map f).length hi = some j)
    (h : 0 ≤ i ∧ i ≤ j ∧ j ≤ (l.length : Int)) (ht : P.underlying T = some (.slice E)) (hz : tySize P E = some z) : Calm P o ρ H (.fz z ((lcut l i j).map f)) := by
  rw [← map_lcut]; exact Calm.sliceFz ho hy hl hh h.1 h.2.1 (by simpa using h.2.2) ht hz
theorem Calm.sliceL0 {α : Type} {f : α → AV} {l : List α} {T E : TypeId} {y : Operand} {lo : Option Operand} {z : Nat} {i : Int} (ho : o.op = .slice T y lo none none) (hy : Env.ev ρ y = some (.fz z (l.map f))) (hl : lowOf ρ lo = some i)
    (h : 0 ≤ i ∧ i ≤ (l.length : Int)) (ht : P.underlying T = some (.slice E)) (hz : tySize P E = some z) : Calm P o ρ H (.fz z ((lcut l i (l.length : Int)).map f)) :=
  Calm.sliceL ho hy hl (by simp [highOf]) ⟨h.1, h.2, Int.le_refl _⟩ ht hz
theorem Calm.idxO {α : Type} {f : α → AV} {l : List α} {T E : TypeId} {y iy : Operand} {z n : Nat} {k : IntKind} {i : Int} (j : Nat) (ho : o.op = .indexAddr T y iy) (hy : Env.ev ρ y = some (.own n 0 l.length)) (hiy : Env.ev ρ iy = some (.fl (.int k i)))
    (hH : H[j]? = some (n, .mem (.ar z (l.map f)))) (h : 0 ≤ i ∧ i < (l.length : Int)) (ht : P.underlying T = some (.slice E)) (hz : tySize P E = some z) : Calm P o ρ H (.ptr n (i.toNat * z + 0)) := by
  have := Calm.idxOwn (H := H) j ho hy hiy hH h.1 h.2 ht hz; simpa using this
theorem Calm.idxP {T E : TypeId} {y iy : Operand} {L n off z : Nat} {k : IntKind} {i : Int} (ho : o.op = .indexAddr T y iy) (hy : Env.ev ρ y = some (.ptr n off)) (hiy : Env.ev ρ iy = some (.fl (.int k i)))
    (h : 0 ≤ i ∧ i < (L : Int)) (ht : P.underlying T = some (.array L E)) (hz : tySize P E = some z) : Calm P o ρ H (.ptr n (off + i.toNat * z)) := Calm.idxPtr ho hy hiy h.1 h.2 ht hz
theorem Calm.idxS {T : TypeId} {y iy : Operand} {s : ByteArray} {k : IntKind} {i : Int} (ho : o.op = .index T y iy) (hy : Env.ev ρ y = some (.fl (.string s))) (hiy : Env.ev ρ iy = some (.fl (.int k i)))
    (h : 0 ≤ i ∧ i < (s.size : Int)) (ht : P.underlying T = some .string) : Calm P o ρ H (.fl (.int .u8 (byteAt s i))) := Calm.idxStr ho hy hiy h.1 h.2 ht
theorem Calm.sliceS {T : TypeId} {y : Operand} {lo hi : Option Operand} {s : ByteArray} {l h : Int} (ho : o.op = .slice T y lo hi none) (hy : Env.ev ρ y = some (.fl (.string s))) (hl : lowOf ρ lo = some l) (hh : highOf ρ s.size hi = some h)
    (hb : 0 ≤ l ∧ l ≤ h ∧ h ≤ (s.size : Int)) (ht : P.underlying T = some .string) : Calm P o ρ H (.fl (.string (s.extract l.toNat h.toNat))) := Calm.sliceStr ho hy hl hh hb.1 hb.2.1 hb.2.2 ht
theorem own_all {α : Type} (f : α → AV) (l : List α) : ((l.map f).drop 0).take l.length = l.map f := by rw [List.drop_zero]; exact List.take_of_length_le (by simp)
theorem Calm.strL {S D E : TypeId} {y : Operand} {xs : List Int} (ho : o.op = .convert S D y) (hy : Env.ev ρ y = some (.fz 1 (xs.map eU8)))
    (hS : P.underlying S = some (.slice E)) (hD : P.underlying D = some .string) (hE : P.underlying E = some (.int .u8)) : Calm P o ρ H (.fl (.string (strOfNums xs))) := Calm.strFz ho hy hS hD hE
theorem Calm.strO {S D E : TypeId} {y : Operand} {xs : List Int} {n : Nat} (j : Nat) (ho : o.op = .convert S D y) (hy : Env.ev ρ y = some (.own n 0 xs.length)) (hH : H[j]? = some (n, .mem (.ar 1 (xs.map eU8))))
    (hS : P.underlying S = some (.slice E)) (hD : P.underlying D = some .string) (hE : P.underlying E = some (.int .u8)) : Calm P o ρ H (.fl (.string (strOfNums xs))) :=
  Calm.strOwn j ho hy hH (own_all _ _) rfl hS hD hE

theorem Src.ownL {α : Type} {f : α → AV} {l : List α} {z n : Nat} (j : Nat) (h : H[j]? = some (n, .mem (.ar z (l.map f)))) : Src H z (.own n 0 l.length) (l.map f) := by
  have := Src.own (off := 0) (len := l.length) j h (by simp); rwa [own_all] at this

theorem AO.appendL {α : Type} {f : α → AV} {l m : List α} {T U E E' : TypeId} {s y : Operand} {z by' n : Nat} {xv : AV} {zl : List Value} (i : Nat) (d : Nat) (hd : o.dst = some d) (hN : d < N) (hg : o.guard = none)
    (ho : o.op = .call { callee := .builtin .append, args := #[s, y], argTypes := #[T, U] }) (hs : Env.ev ρ s = some (.own n 0 l.length)) (hy : Env.ev ρ y = some xv) (hi : H[i]? = some (n, .mem (.ar z (l.map f)))) (hsrc : Src H z xv (m.map f))
    (ht : P.underlying T = some (.slice E)) (hu : P.underlying U = some (.slice E')) (hz : tySize P E = some z) (hby : tyBytes P E = some by') (hzero : tyZero P E = some zl) (hzl : zl.length = z)
    (hbound : (l ++ m).length * by' ≤ 140737488355328) (hpos : 1 ≤ by')
    (h : ∀ n', AO P N ops rest K ((d, .own n' 0 (l ++ m).length) :: ρ) (H.set i (n', .mem (.ar z ((l ++ m).map f))))) : AO P N ops (o :: rest) K ρ H :=
  AO.append i _ _ hg d hd hN ho hs hy hi hsrc (by simp) ht hu hz hby hzero hzl (by simpa using hbound) (by
    have := Nat.le_mul_of_pos_right (l ++ m).length (show 0 < by' by omega)
    simp at this hbound ⊢; omega) (by rw [own_all, List.map_append]) (by simp) h
theorem AO.appendStrL {l : List Int} {T U E : TypeId} {s y : Operand} {by' n : Nat} {str : ByteArray} {zl : List Value} (i : Nat) (d : Nat) (hd : o.dst = some d) (hN : d < N) (hg : o.guard = none)
    (ho : o.op = .call { callee := .builtin .append, args := #[s, y], argTypes := #[T, U] }) (hs : Env.ev ρ s = some (.own n 0 l.length)) (hy : Env.ev ρ y = some (.fl (.string str))) (hi : H[i]? = some (n, .mem (.ar 1 (l.map eU8))))
    (ht : P.underlying T = some (.slice E)) (hu : P.underlying U = some .string) (hz : tySize P E = some 1) (hby : tyBytes P E = some by') (hzero : tyZero P E = some zl) (hzl : zl.length = 1)
    (hbound : (l ++ str.data.toList.map fun b => (b.toNat : Int)).length * by' ≤ 140737488355328) (hpos : 1 ≤ by')
    (h : ∀ n', AO P N ops rest K ((d, .own n' 0 (l ++ str.data.toList.map fun b => (b.toNat : Int)).length) :: ρ) (H.set i (n', .mem (.ar 1 ((l ++ str.data.toList.map fun b => (b.toNat : Int)).map eU8))))) : AO P N ops (o :: rest) K ρ H :=
  have hsz : (l ++ str.data.toList.map fun b => (b.toNat : Int)).length = l.length + str.size := by rw [List.length_append, List.length_map]; rfl
  AO.appendStr i _ _ hg d hd hN ho hs hy hi (by simp) ht hu hz hby hzero hzl (by rwa [← hsz]) (by
    have := Nat.le_mul_of_pos_right (l ++ str.data.toList.map fun b => (b.toNat : Int)).length (show 0 < by' by omega)
    rw [hsz] at this hbound; omega) (by rw [own_all, List.map_append]; rfl) hsz.symm h

def okL (z : Nat) : List AV → Prop
  | [] => True
  | x :: xs => (x.cell = true ∧ x.size = z) ∧ okL z xs
theorem litOK_aux {z : Nat} {Z : AV} (hZ : Z.size = z) : ∀ (xs pre : List AV) (k : Nat), pre.length = k → okL z xs →
    BuildOK (fun i => some (i * z, z)) ((List.range' k xs.length).zip xs) (.ar z (pre ++ List.replicate xs.length Z)) (.ar z (pre ++ xs))
  | [], pre, k, hk, _ => by simpa using BuildOK.nil
  | x :: xs, pre, k, hk, h => by
    have e : pre ++ List.replicate (x :: xs).length Z = pre ++ Z :: List.replicate xs.length Z := by simp [List.replicate_succ]
    rw [e]
    have hp : Put (.ar z (pre ++ Z :: List.replicate xs.length Z)) (k * z + 0) Z x (.ar z ((pre ++ Z :: List.replicate xs.length Z).set k x)) := Put.idx k (by subst hk; simp) Put.here
    have e2 : (pre ++ Z :: List.replicate xs.length Z).set k x = (pre ++ [x]) ++ List.replicate xs.length Z := by subst hk; simp
    rw [e2] at hp
    have := litOK_aux hZ xs (pre ++ [x]) (k + 1) (by simp [hk]) h.2
    have e3 : (List.range' k (x :: xs).length).zip (x :: xs) = (k, x) :: (List.range' (k + 1) xs.length).zip xs := by simp [List.range'_succ]
    rw [e3, show pre ++ x :: xs = (pre ++ [x]) ++ xs by simp]
    exact BuildOK.cons (off := k * z) (sz := z) (y := Z) rfl h.1.1 h.1.2 hZ hp this
theorem litOK {z : Nat} {Z : AV} (xs : List AV) (hZ : Z.size = z) (h : okL z xs) : BuildOK (fun i => some (i * z, z)) ((List.range' 0 xs.length).zip xs) (.ar z (List.replicate xs.length Z)) (.ar z xs) := by
  simpa using litOK_aux hZ xs [] 0 rfl h

/-- The values of some slots after a freezing. -/
def frozenAs (ρ : Env) (n z : Nat) (els : List AV) : Env → Prop
  | [] => True
  | (t, x) :: r => (∃ off len, ρ.lookup t = some (.own n off len) ∧ off + len ≤ els.length ∧ x = .fz z ((els.drop off).take len)) ∧ frozenAs ρ n z els r
theorem frozenAs.get {n z : Nat} {els : List AV} : ∀ {r : Env}, frozenAs ρ n z els r → ∀ {t x}, r.lookup t = some x → ∃ off len, ρ.lookup t = some (.own n off len) ∧ off + len ≤ els.length ∧ x = .fz z ((els.drop off).take len)
  | [], _, t, x, h => by cases h
  | (u, y) :: r, hf, t, x, h => by
    rw [lookup_cons] at h
    by_cases e : t = u
    · rw [if_pos e] at h; cases h; subst e; exact hf.1
    · rw [if_neg e] at h; exact hf.2.get h
theorem lookup_append' (r ρ : Env) (t : Nat) : (r ++ ρ).lookup t = (r.lookup t).or (ρ.lookup t) := List.lookup_append
theorem AO.freezeS (i : Nat) (r : Env) {n z : Nat} {els : List AV} (hi : H[i]? = some (n, .mem (.ar z els))) (hr : frozenAs ρ n z els r) (h : AO P N ops rest K (r ++ ρ) (H.eraseIdx i)) : AO P N ops rest K ρ H := by
  intro F g a w R h1 h2 h3 h4
  obtain ⟨g', k1, k2, k3⟩ := h3.freeze hi
  refine h F g' a w R ?_ h2 k2 fun g2 ρ' H' a' w' j1 j2 j3 j4 j5 j6 => h4 g2 ρ' H' a' w' (k1.trans j1) j2 j3 j4 j5 j6
  intro u y hu
  rw [lookup_append'] at hu
  cases e : r.lookup u with
  | none => rw [e] at hu; exact (h1 u y (by simpa using hu)).mono k1
  | some x =>
    rw [e] at hu; cases hu
    obtain ⟨off, len, e1, e2, rfl⟩ := hr.get e
    exact k3 _ _ _ e2 ((h1 u _ e1).mono k1)
theorem AW.freezeS (i : Nat) (r : Env) {n z : Nat} {els : List AV} (hi : H[i]? = some (n, .mem (.ar z els))) (hr : frozenAs ρ n z els r) (h : AW P N c Q (r ++ ρ) (H.eraseIdx i)) : AW P N c Q ρ H := by
  intro F g a w R h1 h2 h3 h4
  obtain ⟨g', k1, k2, k3⟩ := h3.freeze hi
  refine h F g' a w R ?_ h2 k2 fun e g2 ρ' H' a' w' j1 j2 j3 j4 j5 j6 => h4 e g2 ρ' H' a' w' (k1.trans j1) j2 j3 j4 j5 j6
  intro u y hu
  rw [lookup_append'] at hu
  cases e : r.lookup u with
  | none => rw [e] at hu; exact (h1 u y (by simpa using hu)).mono k1
  | some x =>
    rw [e] at hu; cases hu
    obtain ⟨off, len, e1, e2, rfl⟩ := hr.get e
    exact k3 _ _ _ e2 ((h1 u _ e1).mono k1)
theorem fz_all {α : Type} {f : α → AV} {l : List α} {n z t : Nat} (h : ρ.lookup t = some (.own n 0 l.length)) : ∃ off len, ρ.lookup t = some (.own n off len) ∧ off + len ≤ (l.map f).length ∧ AV.fz z (l.map f) = .fz z (((l.map f).drop off).take len) :=
  ⟨0, l.length, h, by simp, by rw [own_all]⟩
end

theorem wanted_undef {ops : Array Oper} {ρ : Env} {o : Oper} {j : Nat} {want : Bool} {d : Nat} {g : G} {a : Act} (hg : o.guard = some (j, want)) (hd : (ops[j]?).bind (·.dst) = some d) (hb : ρ.lookup d = some (.fl undef)) (s : ESat g ρ a) :
    Region.wanted o (yielded ops a.tmps) = false := by
  have hv : a.tmps.getD d undef = undef := s d _ hb
  have hy : yielded ops a.tmps j = none := by
    unfold yielded
    rw [hd]
    show (match a.tmps[d]? with | some (.bool b) => some b | _ => none) = none
    rw [Array.getD_eq_getD_getElem?] at hv
    cases e : a.tmps[d]? with
    | none => rfl
    | some v => rw [e] at hv; simp at hv; subst hv; rfl
  simp [Region.wanted, hg, hy]
section
variable {P : Program} {N : Nat} {ops : Array Oper} {o : Oper} {rest : List Oper} {K : Env → Heap → Prop} {KQ : Env → Prop} {ρ : Env} {H : Heap}
theorem AO.skipU (j : Nat) (b : Bool) (e : Nat) (hg : o.guard = some (j, b)) (he : (ops[j]?).bind (·.dst) = some e) (hb : ρ.lookup e = some (.fl undef))
    (d : Nat) (hd : o.dst = some d) (hN : d < N) (h : AO P N ops rest K ((d, .fl undef) :: ρ) H) : AO P N ops (o :: rest) K ρ H := by
  intro F g a w Q h1 h2 h3 h4
  unfold wpList
  rw [if_neg (by rw [wanted_undef hg he hb h1]; simp)]
  refine h F g _ w Q (by rw [hd]; exact h1.put rfl (by omega)) (by rw [put_size]; exact h2) h3 ?_
  intro g' ρ' H' a' w2 k1 k2 k3 k4 k5 k6
  exact h4 g' ρ' H' a' w2 k1 k2 k3 (by rw [k4, put_defers]) k5 k6
theorem AQ.skipU (j : Nat) (b : Bool) (e : Nat) (hg : o.guard = some (j, b)) (he : (ops[j]?).bind (·.dst) = some e) (hb : ρ.lookup e = some (.fl undef))
    (d : Nat) (hd : o.dst = some d) (hN : d < N) (h : AQ P N ops rest KQ ((d, .fl undef) :: ρ) H) : AQ P N ops (o :: rest) KQ ρ H := by
  intro F g a w Q h1 h2 h3 h4
  unfold wpQuiet
  rw [if_neg (by rw [wanted_undef hg he hb h1]; simp)]
  refine h F g _ w Q (by rw [hd]; exact h1.put rfl (by omega)) (by rw [put_size]; exact h2) h3 ?_
  intro ρ' a' k2 k3 k4 k6
  exact h4 ρ' a' k2 k3 (by rw [k4, put_defers]) k6
end

section
variable {P : Program} {N : Nat} {ops : Array Oper} {K : Env → Heap → Prop} {KQ : Env → Prop} {ρ ρ' : Env} {H H' : Heap}
theorem AO.nilE (hk : K ρ' H') (hs : ESub ρ' ρ) (hH : Sub H' H) : AO P N ops [] K ρ H := AO.nil hs hH hk
theorem AQ.nilE (hk : KQ ρ') (hs : ESub ρ' ρ) : AQ P N ops [] KQ ρ H := AQ.nil hs hk
end
end Go.Avl
