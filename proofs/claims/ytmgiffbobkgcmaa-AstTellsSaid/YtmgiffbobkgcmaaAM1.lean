/- Parts: T2W, T2M7, T2M8, T2M9, T2PureAstTells. -/
import Derived.Test.YtmgiffbobkgcmaaAF1
import Derived.Test.YtmgiffbobkgcmaaAv3
import Derived.Test.YtmgiffbobkgcmaaAF6
/- Opening of the arguments; printed by avlaw.py. -/
namespace Go.Avl.T2
open Go Go.RowKit Go.Proofs Go.Avl
set_option linter.unusedVariables false
set_option maxRecDepth 100000
abbrev wf9 : ByteArray → Prop := (fun s : ByteArray => s.size ≤ 9223372036854775807)
theorem op9 : Opens Try.prog 9 eStr wf9 := opens_string Try.underlying9
abbrev wf3 : Int → Prop := (fun n : Int => (Lit.int .i64 n).wf = true)
theorem op3 : Opens Try.prog 3 eI64 wf3 := opens_int Try.underlying3
abbrev wf23 : S23 → Prop := (fun x : S23 => wf3 x.f0 ∧ wf3 x.f1)
theorem op23 : Opens Try.prog 23 e23 wf23 := (opens_struct Try.underlying23 sz23 (opensF_cons rfl sz3 (by decide) op3 (opensF_cons rfl sz3 (by decide) op3 (opensF_nil _)))).map (fun p => S23.mk p.1 p.2.1) (fun _ => rfl) (fun _ h => ⟨h.1, h.2.1⟩)
abbrev wf55 : S55 → Prop := (fun x : S55 => wf3 x.f0 ∧ wf3 x.f1 ∧ wf9 x.f2)
theorem op55 : Opens Try.prog 55 e55 wf55 := (opens_struct Try.underlying55 sz55 (opensF_cons rfl sz3 (by decide) op3 (opensF_cons rfl sz3 (by decide) op3 (opensF_cons rfl sz9 (by decide) op9 (opensF_nil _))))).map (fun p => S55.mk p.1 p.2.1 p.2.2.1) (fun _ => rfl) (fun _ h => ⟨h.1, h.2.1, h.2.2.1⟩)
abbrev wf4 : Bool → Prop := (fun _ : Bool => True)
theorem op4 : Opens Try.prog 4 eBool wf4 := opens_bool Try.underlying4
abbrev wf43 : S43 → Prop := (fun x : S43 => wf4 x.f0 ∧ wf3 x.f1 ∧ wf3 x.f2 ∧ wf9 x.f3)
theorem op43 : Opens Try.prog 43 e43 wf43 := (opens_struct Try.underlying43 sz43 (opensF_cons rfl sz4 (by decide) op4 (opensF_cons rfl sz3 (by decide) op3 (opensF_cons rfl sz3 (by decide) op3 (opensF_cons rfl sz9 (by decide) op9 (opensF_nil _)))))).map (fun p => S43.mk p.1 p.2.1 p.2.2.1 p.2.2.2.1) (fun _ => rfl) (fun _ h => ⟨h.1, h.2.1, h.2.2.1, h.2.2.2.1⟩)
abbrev wf37 : (List S43) → Prop := (fun l : List S43 => l.length ≤ 9223372036854775807 ∧ ∀ a ∈ l, wf43 a)
theorem op37 : Opens Try.prog 37 e37 wf37 := opens_slice Try.underlying37 sz43 op43
end Go.Avl.T2
/- Trees as lists: what a place's tree is. -/
namespace Go.Avl.T2
open Go Go.RowKit Go.Proofs Go.Avl
set_option linter.all false
set_option maxRecDepth 10000

/-- A node that may be. -/
def okn (x : S43) : Prop := 0 ≤ x.f2 ∧ x.f2 ≤ 12 ∧ (x.f0 = true → x.f2 = 0)
instance (x : S43) : Decidable (okn x) := by unfold okn; infer_instance
/-- How many nodes of a list so many trees are. -/
def eat : List S43 → Nat → Option Nat
  | _, 0 => some 0
  | [], _ + 1 => none
  | x :: l, n + 1 => if okn x then (eat l (n + x.f2.toNat)).map (· + 1) else none
theorem eat_zero (l : List S43) : eat l 0 = some 0 := by cases l <;> rfl
theorem eat_le : ∀ (l : List S43) (n m : Nat), eat l n = some m → m ≤ l.length
  | _, 0, m, h => by rw [eat_zero] at h; cases h; omega
  | [], n + 1, m, h => by cases h
  | x :: l, n + 1, m, h => by
    rw [eat] at h
    split at h
    · obtain ⟨m', h1, rfl⟩ := Option.map_eq_some_iff.1 h
      have := eat_le l _ m' h1
      simp; omega
    · cases h
theorem eat_ge : ∀ (l : List S43) (n m : Nat), eat l n = some m → n ≤ m
  | _, 0, m, h => by omega
  | [], n + 1, m, h => by cases h
  | x :: l, n + 1, m, h => by
    rw [eat] at h
    split at h
    · obtain ⟨m', h1, rfl⟩ := Option.map_eq_some_iff.1 h
      have := eat_ge l _ m' h1
      omega
    · cases h
theorem eat_add : ∀ (l : List S43) (a b : Nat), eat l (a + b) = (eat l a).bind fun n => (eat (l.drop n) b).map (n + ·)
  | l, 0, b => by rw [eat_zero]; simp
  | [], a + 1, b => by
    rw [show a + 1 + b = (a + b) + 1 by omega]; rfl
  | x :: l, a + 1, b => by
    rw [show a + 1 + b = (a + b) + 1 by omega, eat, eat]
    by_cases h : okn x
    · rw [if_pos h, if_pos h, show a + b + x.f2.toNat = (a + x.f2.toNat) + b by omega, eat_add l (a + x.f2.toNat) b]
      cases eat l (a + x.f2.toNat) with
      | none => rfl
      | some n =>
        simp only [Option.bind_some, Option.map_some, List.drop_succ_cons]
        cases eat (l.drop n) b with
        | none => rfl
        | some m => simp; omega
    · rw [if_neg h, if_neg h]; rfl
/-- The tree of a place: how many nodes; 0. -/
def tsz (l : List S43) (i : Nat) : Nat := (eat (l.drop i) 1).getD 0
theorem lget_nat (l : List S43) (i : Nat) (h : i < l.length) : lget l (i : Int) = l[i] := by
  unfold lget
  rw [show (i : Int).toNat = i by omega, List.getD, List.getElem?_eq_getElem h]; rfl
theorem size_l (k : Nat) (l : List S43) (hl : l.length ≤ 1000) (i : Nat) : ∀ (m j need fuel : Nat), j + m = l.length → m < fuel → i ≤ j → need ≤ 20000 - 12 * m → 12 * m ≤ 20000 →
    ast_Size_l1 k l i fuel ((need + 1 : Nat) : Int) j = some (((eat (l.drop j) (need + 1)).map (fun x => x + (j - i))).getD 0 : Nat)
  | 0, j, need, f + 1, h, _, hi, _, _ => by
    rw [ast_Size_l1.eq_2, if_neg (by omega), ast_Size_c0, List.drop_of_length_le (by omega)]
    rfl
  | m + 1, j, need, f + 1, h, hf, hi, hn, hm => by
    have hj : j < l.length := by omega
    have g : 0 ≤ (j : Int) ∧ (j : Int) < (l.length : Int) := ⟨by omega, by omega⟩
    have hd : l.drop j = l[j] :: l.drop (j + 1) := List.drop_eq_getElem_cons hj
    rw [ast_Size_l1.eq_2, if_pos g.2]
    simp only [if_pos g, lget_nat l j hj]
    rw [hd, eat]
    generalize l[j] = x
    have e0 : ∀ b : Bool, (b = true ↔ ¬ okn x) → (some b).bind (fun b12 => if b12 = true then some (0 : Int) else if (w64 (((need + 1 : Nat) : Int) + w64 (x.f2 - 1))) = 0 then some (w64 (w64 ((j : Int) + 1) - i)) else (ast_Size_l1 k l i f) (w64 (((need + 1 : Nat) : Int) + w64 (x.f2 - 1))) (w64 ((j : Int) + 1))) = some ((((if okn x then (eat (l.drop (j + 1)) (need + x.f2.toNat)).map (· + 1) else none).map (fun y => y + (j - i))).getD 0 : Nat) : Int) := by
      intro b hb
      rw [Option.bind_some]
      by_cases ok : okn x
      · have hbf : ¬ b = true := fun h => hb.1 h ok
        have ok' := ok
        unfold okn at ok'
        obtain ⟨q, hq⟩ : ∃ q : Nat, x.f2 = q := ⟨x.f2.toNat, by omega⟩
        rw [if_neg hbf, if_pos ok, hq, w64_id (n := (q : Int) - 1) (by omega) (by omega), w64_id (n := (j : Int) + 1) (by omega) (by omega), Int.toNat_natCast]
        have e1 : w64 (((need + 1 : Nat) : Int) + ((q : Int) - 1)) = ((need + q : Nat) : Int) := by rw [w64_id (by omega) (by omega)]; omega
        rw [e1]
        by_cases z : need + q = 0
        · rw [if_pos (by omega), z, eat_zero, w64_id (by omega) (by omega)]
          simp; omega
        · obtain ⟨nn, hnn⟩ : ∃ nn, need + q = nn + 1 := ⟨need + q - 1, by omega⟩
          rw [if_neg (by omega), hnn]
          have ih := size_l k l hl i m (j + 1) nn f (by omega) (by omega) (by omega) (by omega) (by omega)
          rw [show ((j : Int) + 1) = ((j + 1 : Nat) : Int) by omega, ih]
          cases eat (l.drop (j + 1)) (nn + 1) with
          | none => rfl
          | some y => simp; omega
      · have hbt : b = true := hb.2 ok
        rw [if_pos hbt, if_neg ok]; rfl
    by_cases a : x.f2 < 0
    · rw [if_pos a]; exact e0 true (by unfold okn; simp; omega)
    · rw [if_neg a]
      by_cases b : (12 : Int) < x.f2
      · rw [if_pos b]; exact e0 true (by unfold okn; simp; omega)
      · rw [if_neg b]
        by_cases c : x.f0 = true
        · rw [if_pos c]; exact e0 _ (by unfold okn; simp [c]; omega)
        · rw [if_neg c]; exact e0 false (by unfold okn; simp [c]; omega)
theorem size_eq {k : Nat} (l : List S43) (hl : l.length ≤ 1000) (hk : l.length < k) (i : Int) : ast_Size k l i = some (if 0 ≤ i ∧ i < l.length then ((tsz l i.toNat : Nat) : Int) else 0) := by
  unfold ast_Size
  by_cases a : i < 0
  · rw [if_pos a, Option.bind_some, if_pos rfl, if_neg (by omega)]
  · rw [if_neg a, Option.bind_some]
    by_cases b : (l.length : Int) ≤ i
    · rw [if_pos (decide_eq_true b), if_neg (by omega)]
    · obtain ⟨j, rfl⟩ : ∃ j : Nat, i = j := ⟨i.toNat, by omega⟩
      have := size_l k l hl j (l.length - j) j 0 k (by omega) (by omega) (by omega) (by omega) (by omega)
      rw [if_neg (by simpa using b), if_pos (by omega)]
      rw [show ((0 + 1 : Nat) : Int) = 1 from rfl] at this
      rw [this, Int.toNat_natCast, tsz]
      simp
/-! The reference's way: a tree is its node and its trees. -/
theorem rsize_l (k : Nat) (l : List S43) (hl : l.length ≤ 1000) (p1 : Nat) (hp : p1 < l.length) (ok : okn l[p1]) (self : List S43 → Int → Option Int)
    (hself : ∀ i : Nat, p1 < i → i ≤ 2000 → self l i = some (if i < l.length then ((tsz l i : Nat) : Int) else 0)) : ∀ (m c n fuel : Nat), c + m = l[p1].f2.toNat → m < fuel → p1 + 1 + n ≤ l.length → eat (l.drop (p1 + 1)) c = some n →
    bosketref31_Size_l1 k self l p1 fuel ((n + 1 : Nat) : Int) c = some ((tsz l p1 : Nat) : Int)
  | 0, c, n, f + 1, h, _, hn, he => by
    have ok' := ok
    unfold okn at ok'
    have g : 0 ≤ (p1 : Int) ∧ (p1 : Int) < (l.length : Int) := ⟨by omega, by omega⟩
    rw [bosketref31_Size_l1.eq_2, if_pos g, lget_nat l p1 hp, if_neg (by omega), bosketref31_Size_c0]
    unfold tsz
    rw [List.drop_eq_getElem_cons hp, eat, if_pos ok, Nat.zero_add, show l[p1].f2.toNat = c by omega, he]; rfl
  | m + 1, c, n, f + 1, h, hf, hn, he => by
    have ok' := ok
    unfold okn at ok'
    have g : 0 ≤ (p1 : Int) ∧ (p1 : Int) < (l.length : Int) := ⟨by omega, by omega⟩
    have hd : (l.drop (p1 + 1)).drop n = l.drop (p1 + 1 + n) := by rw [List.drop_drop]
    have hadd := eat_add (l.drop (p1 + 1)) c 1
    rw [he, Option.bind_some, hd] at hadd
    have hall := eat_add (l.drop (p1 + 1)) (c + 1) m
    rw [hadd] at hall
    have etot : tsz l p1 = ((eat (l.drop (p1 + 1)) (c + 1 + m)).map (· + 1)).getD 0 := by
      unfold tsz
      rw [List.drop_eq_getElem_cons hp, eat, if_pos ok, Nat.zero_add, show c + 1 + m = l[p1].f2.toNat by omega]
    have e1 : w64 ((p1 : Int) + ((n + 1 : Nat) : Int)) = ((p1 + 1 + n : Nat) : Int) := by rw [w64_id (by omega) (by omega)]; omega
    rw [bosketref31_Size_l1.eq_2, if_pos g, lget_nat l p1 hp, if_pos (by omega), e1, hself _ (by omega) (by omega), Option.bind_some]
    by_cases b : p1 + 1 + n < l.length
    · rw [if_pos b]
      unfold tsz
      cases q : eat (l.drop (p1 + 1 + n)) 1 with
      | none =>
        rw [q] at hall
        simp at hall
        rw [hall] at etot
        simp only [Option.getD_none]
        rw [if_pos (show ((0 : Nat) : Int) = 0 from rfl)]
        unfold tsz at etot
        rw [etot]; rfl
      | some z =>
        rw [q] at hadd
        have hz := eat_ge _ _ _ q
        have hz2 := eat_le _ _ _ q
        rw [List.length_drop] at hz2
        simp only [Option.getD_some]
        rw [if_neg (by omega)]
        have e2 : w64 (((n + 1 : Nat) : Int) + (z : Int)) = ((n + z + 1 : Nat) : Int) := by rw [w64_id (by omega) (by omega)]; omega
        have e3 : w64 ((c : Int) + 1) = ((c + 1 : Nat) : Int) := by rw [w64_id (by omega) (by omega)]; omega
        rw [e2, e3]
        exact rsize_l k l hl p1 hp ok self hself m (c + 1) (n + z) f (by omega) (by omega) (by omega) hadd
    · rw [if_neg b, if_pos rfl]
      have q : eat (l.drop (p1 + 1 + n)) 1 = none := by rw [List.drop_of_length_le (by omega)]; rfl
      rw [q] at hall
      simp at hall
      rw [hall] at etot
      rw [etot]; rfl
theorem rsize_k : ∀ (d k : Nat) (l : List S43) (i : Nat), l.length ≤ 1000 → l.length ≤ i + d → d + 20 < k → i ≤ 2000 → bosketref31_Size k l i = some (if i < l.length then ((tsz l i : Nat) : Int) else 0)
  | d, 0, l, i, _, _, h, _ => by omega
  | d, k + 1, l, i, hl, hd, hk, hi => by
    rw [bosketref31_Size.eq_2, if_neg (by omega)]
    by_cases b : i < l.length
    · have g : 0 ≤ (i : Int) ∧ (i : Int) < (l.length : Int) := ⟨by omega, by omega⟩
      rw [if_neg (by omega)]
      simp only [if_pos g, lget_nat l i b, if_pos b]
      have key : ∀ bb : Bool, (bb = true ↔ ¬ okn l[i]) → (some bb).bind (fun b3 => if b3 = true then some (0 : Int) else bosketref31_Size_l1 k (bosketref31_Size k) l i k 1 0) = some ((tsz l i : Nat) : Int) := by
        intro bb hb
        rw [Option.bind_some]
        by_cases ok : okn l[i]
        · rw [if_neg (fun h => hb.1 h ok)]
          have ok' := ok
          unfold okn at ok'
          obtain ⟨d', rfl⟩ : ∃ d', d = d' + 1 := ⟨d - 1, by omega⟩
          exact rsize_l k l hl i b ok (bosketref31_Size k) (fun j hj hj2 => rsize_k d' k l j hl (by omega) (by omega) hj2) l[i].f2.toNat 0 0 k (by omega) (by omega) (by omega) (eat_zero _)
        · rw [if_pos (hb.2 ok)]
          unfold tsz
          rw [List.drop_eq_getElem_cons b, eat, if_neg ok]; rfl
      by_cases a : l[i].f2 < 0
      · rw [if_pos a]; exact key true (by unfold okn; simp; omega)
      · rw [if_neg a]
        by_cases e : (12 : Int) < l[i].f2
        · rw [if_pos e]; exact key true (by unfold okn; simp; omega)
        · rw [if_neg e]
          by_cases c : l[i].f0 = true
          · rw [if_pos c]; exact key _ (by unfold okn; simp [c]; omega)
          · rw [if_neg c]; exact key false (by unfold okn; simp [c]; omega)
    · rw [if_pos (by omega), Option.bind_some, if_pos rfl, if_neg b]
theorem rsize_eq {k : Nat} (l : List S43) (hl : l.length ≤ 1000) (hk : l.length + 20 < k) (i : Int) : bosketref31_Size k l i = some (if 0 ≤ i ∧ i < l.length then ((tsz l i.toNat : Nat) : Int) else 0) := by
  by_cases a : 0 ≤ i ∧ i < l.length
  · obtain ⟨j, rfl⟩ : ∃ j : Nat, i = j := ⟨i.toNat, by omega⟩
    rw [rsize_k l.length k l j hl (by omega) (by omega) (by omega), if_pos a, if_pos (by omega), Int.toNat_natCast]
  · obtain ⟨k, rfl⟩ : ∃ k', k = k' + 1 := ⟨k - 1, by omega⟩
    rw [if_neg a, bosketref31_Size.eq_2]
    by_cases b : i < 0
    · rw [if_pos b, Option.bind_some, if_pos rfl]
    · rw [if_neg b, if_pos (by omega), Option.bind_some, if_pos rfl]
/-- Is it one tree? -/
def rgt (l : List S43) : Bool := decide (0 < l.length ∧ l.length ≤ 2000 ∧ eat l 1 = some l.length)
theorem tsz_all {l : List S43} (h : 0 < l.length) : tsz l 0 = l.length ↔ eat l 1 = some l.length := by
  unfold tsz
  rw [List.drop_zero]
  cases e : eat l 1 with
  | none => simp; omega
  | some n => simp
theorem right_l {k : Nat} (l : List S43) (hl : l.length ≤ 1000) (hk : l.length + 20 < k) : ast_Right k l = some (rgt l) ∧ bosketref31_Right k l = some (rgt l) := by
  unfold ast_Right bosketref31_Right
  rw [size_eq l hl (by omega), rsize_eq l hl hk, if_pos (by omega)]
  by_cases a : 0 < l.length
  · have ha := tsz_all a
    rw [if_pos (show (0 : Int) < (l.length : Int) by omega), if_pos (show (1 : Int) ≤ (l.length : Int) by omega), if_pos (show 0 ≤ (0 : Int) ∧ (0 : Int) < (l.length : Int) from ⟨by omega, by omega⟩), Option.bind_some, Option.bind_some, if_pos (show (l.length : Int) ≤ 2000 by omega), Option.bind_some, show (0 : Int).toNat = 0 from rfl]
    have e : decide (((tsz l 0 : Nat) : Int) = (l.length : Int)) = rgt l := by
      unfold rgt
      rw [decide_eq_decide]
      constructor
      · intro h; exact ⟨a, by omega, ha.1 (by omega)⟩
      · intro h; have := ha.2 h.2.2; omega
    rw [e]; exact ⟨rfl, rfl⟩
  · rw [if_neg (by omega), if_neg (by omega)]
    simp only [Option.bind_some]
    have e : rgt l = false := by unfold rgt; simp; omega
    rw [e]; exact ⟨rfl, rfl⟩
end Go.Avl.T2
/- Trees as lists: what they are made of. -/
namespace Go.Avl.T2
open Go Go.RowKit Go.Proofs Go.Avl
set_option linter.all false
set_option maxRecDepth 10000

/-- Trees, side by side: the first one's node, its trees, the others. -/
inductive Fo where
  | nil
  | cons (x : S43) (ks nx : Fo)
def fl : Fo → List S43
  | .nil => []
  | .cons x k n => x :: (fl k ++ fl n)
def cnt' : Fo → Nat
  | .nil => 0
  | .cons _ _ n => cnt' n + 1
def WF : Fo → Prop
  | .nil => True
  | .cons x k n => okn x ∧ x.f2 = cnt' k ∧ WF k ∧ WF n
theorem eat_fl : ∀ (F : Fo), WF F → ∀ (rest : List S43) (m : Nat), eat (fl F ++ rest) (cnt' F + m) = (eat rest m).map ((fl F).length + ·)
  | .nil, _, rest, m => by
    show eat rest (0 + m) = _
    rw [Nat.zero_add]; cases eat rest m <;> simp [fl]
  | .cons x k n, h, rest, m => by
    obtain ⟨h1, h2, h3, h4⟩ := h
    have e : x.f2.toNat = cnt' k := by omega
    show eat (x :: (fl k ++ fl n) ++ rest) (cnt' n + 1 + m) = _
    rw [show cnt' n + 1 + m = (cnt' n + m) + 1 by omega, List.cons_append, eat, if_pos h1, e, List.append_assoc, show cnt' n + m + cnt' k = cnt' k + (cnt' n + m) by omega, eat_fl k h3, eat_fl n h4]
    cases eat rest m with
    | none => rfl
    | some q => simp [fl]; omega
theorem eat_one {F : Fo} (h : WF F) : eat (fl F) (cnt' F) = some (fl F).length := by
  have := eat_fl F h [] 0
  simpa [eat_zero] using this
theorem split_fo : ∀ (F : Fo) (a b : Nat), WF F → cnt' F = a + b → ∃ A B, WF A ∧ WF B ∧ cnt' A = a ∧ cnt' B = b ∧ fl F = fl A ++ fl B
  | F, 0, b, h, e => ⟨.nil, F, trivial, h, rfl, by omega, rfl⟩
  | .nil, a + 1, b, h, e => by simp [cnt'] at e; omega
  | .cons x k n, a + 1, b, h, e => by
    obtain ⟨h1, h2, h3, h4⟩ := h
    simp only [cnt'] at e
    obtain ⟨A, B, p1, p2, p3, p4, p5⟩ := split_fo n a b h4 (by omega)
    exact ⟨.cons x k A, B, ⟨h1, h2, h3, p1⟩, p2, by simp [cnt', p3], p4, by simp [fl, p5]⟩
theorem of_eat : ∀ (l : List S43) (n k : Nat), eat l n = some k → ∃ F, WF F ∧ cnt' F = n ∧ fl F = l.take k
  | l, 0, k, h => by rw [eat_zero] at h; cases h; exact ⟨.nil, trivial, rfl, by simp [fl]⟩
  | [], n + 1, k, h => by cases h
  | x :: l, n + 1, k, h => by
    rw [eat] at h
    split at h
    · rename_i ok
      obtain ⟨k', h1, rfl⟩ := Option.map_eq_some_iff.1 h
      obtain ⟨F, f1, f2, f3⟩ := of_eat l _ k' h1
      obtain ⟨A, B, p1, p2, p3, p4, p5⟩ := split_fo F x.f2.toNat n f1 (by omega)
      have ok' := ok
      unfold okn at ok'
      exact ⟨.cons x A B, ⟨ok, by omega, p1, p2⟩, by simp [cnt', p4], by simp [fl, ← p5, f3]⟩
    · cases h
/-- A tree's own text of nodes. -/
theorem rgt_iff {l : List S43} (hl : l.length ≤ 1000) : rgt l = true ↔ ∃ x ks, WF (.cons x ks .nil) ∧ l = x :: fl ks := by
  unfold rgt
  rw [decide_eq_true_iff]
  constructor
  · rintro ⟨h1, h2, h3⟩
    obtain ⟨F, f1, f2, f3⟩ := of_eat l 1 _ h3
    rw [List.take_of_length_le (Nat.le_refl _)] at f3
    cases F with
    | nil => simp [cnt'] at f2
    | cons x k n =>
      cases n with
      | nil => exact ⟨x, k, f1, by rw [← f3]; simp [fl]⟩
      | cons y a b => simp [cnt'] at f2
  · rintro ⟨x, ks, h, rfl⟩
    have := eat_one h
    simp only [fl, cnt', List.append_nil] at this
    exact ⟨by simp, by omega, this⟩
/-- The trees, each by itself. -/
def pcs : Fo → List (List S43)
  | .nil => []
  | .cons x k n => (x :: fl k) :: pcs n
theorem pcs_len : ∀ F, (pcs F).length = cnt' F
  | .nil => rfl
  | .cons x k n => by simp [pcs, cnt', pcs_len n]
theorem pcs_fl : ∀ F, (pcs F).flatten = fl F
  | .nil => rfl
  | .cons x k n => by simp [pcs, fl, pcs_fl n]
theorem cnt_le : ∀ F, cnt' F ≤ (fl F).length
  | .nil => Nat.le_refl _
  | .cons x k n => by have := cnt_le n; simp [cnt', fl]; omega
theorem tsz_at {pre : List S43} {y : S43} {k n : Fo} (h : WF (.cons y k n)) : tsz (pre ++ fl (.cons y k n)) pre.length = (fl k).length + 1 := by
  obtain ⟨h1, h2, h3, h4⟩ := h
  have := eat_fl (.cons y k .nil) ⟨h1, h2, h3, trivial⟩ (fl n) 0
  simp only [fl, cnt', List.append_nil, Nat.zero_add, Nat.add_zero, eat_zero, Option.map_some, List.cons_append] at this
  unfold tsz
  rw [List.drop_left]
  simp only [fl]
  rw [this]; simp
theorem lcut_mid {α : Type} (a b c : List α) : lcut (a ++ (b ++ c)) (a.length : Int) ((a.length + b.length : Nat) : Int) = b := by
  unfold lcut
  rw [Int.toNat_natCast, Int.toNat_natCast, ← List.append_assoc, show a.length + b.length = (a ++ b).length by simp, List.take_left, List.drop_left]
theorem clone_eq (k : Nat) (l : List S43) (h : l.length ≤ 1000) : slices_Clone_api_Node_api_Node_ k l = some l := by
  unfold slices_Clone_api_Node_api_Node_
  rw [List.nil_append, if_pos (by omega)]
theorem kids_l (k : Nat) (l : List S43) (hl : l.length ≤ 1000) (hk : l.length < k) : ∀ (F : Fo) (pre : List S43) (acc : List (List S43)) (fuel : Nat), WF F → l = pre ++ fl F → cnt' F < fuel → acc.length + cnt' F ≤ 1000 → ast_Kids_l1 k l fuel acc pre.length = some (acc ++ pcs F)
  | .nil, pre, acc, f + 1, _, e, _, _ => by
    have : l.length = pre.length := by rw [e]; simp [fl]
    rw [ast_Kids_l1.eq_2, if_neg (by omega), ast_Kids_c0, pcs, List.append_nil]
  | .cons y ks n, pre, acc, f + 1, h, e, hf, ha => by
    have hlen : l.length = pre.length + ((fl ks).length + (fl n).length + 1) := by rw [e]; simp [fl]
    have ht : tsz l pre.length = (fl ks).length + 1 := by rw [e]; exact tsz_at h
    have hcut : lcut l (pre.length : Int) ((pre.length + ((fl ks).length + 1) : Nat) : Int) = y :: fl ks := by
      have := lcut_mid pre (y :: fl ks) (fl n)
      simp only [List.length_cons] at this
      rw [e]; simp only [fl]
      exact this
    have e1 : w64 ((pre.length : Int) + (((fl ks).length + 1 : Nat) : Int)) = ((pre.length + ((fl ks).length + 1) : Nat) : Int) := by rw [w64_id (by omega) (by omega)]; omega
    simp only [cnt'] at hf ha
    rw [ast_Kids_l1.eq_2, if_pos (by omega), size_eq l hl hk, if_pos ⟨by omega, by omega⟩, Option.bind_some, Int.toNat_natCast, ht, e1, if_pos ⟨by omega, by omega, by omega⟩, hcut, clone_eq _ _ (by simp; omega), Option.bind_some, if_pos (by simp; omega)]
    have ih := kids_l k l hl hk n (pre ++ (y :: fl ks)) (acc ++ [y :: fl ks]) f h.2.2.2 (by rw [e]; simp [fl]) (by omega) (by simp; omega)
    rw [List.length_append, List.length_cons] at ih
    rw [ih, pcs]; simp
theorem kids_eq {k : Nat} {x : S43} {ks : Fo} (h : WF (.cons x ks .nil)) (hl : (x :: fl ks).length ≤ 1000) (hk : (x :: fl ks).length + 20 < k) : ast_Kids k (x :: fl ks) = some (pcs ks) := by
  have hr : rgt (x :: fl ks) = true := (rgt_iff hl).2 ⟨x, ks, h, rfl⟩
  unfold ast_Kids
  have hc := cnt_le ks
  rw [(right_l _ hl hk).1, hr, Option.bind_some, if_neg (by decide)]
  have := kids_l k (x :: fl ks) hl (by omega) ks [x] [] k h.2.2.1 rfl (by simp at hk; omega) (by simp at hl ⊢; omega)
  exact this
theorem rkids_l (k : Nat) (x : S43) (ks : Fo) (l : List S43) (hx : x.f2 = cnt' ks) (h12 : cnt' ks ≤ 2000) (hl : l.length ≤ 1000) (hk : l.length + 20 < k) (hh : ∃ t, l = x :: t) : ∀ (F : Fo) (pre : List S43) (acc : List (List S43)) (fuel : Nat) (c : Nat), WF F → l = pre ++ fl F → cnt' F < fuel → c + cnt' F = cnt' ks → acc.length + cnt' F ≤ 1000 → bosketref31_Kids_l1 k l fuel acc pre.length c = some (acc ++ pcs F)
  | .nil, pre, acc, f + 1, c, _, e, _, hc, _ => by
    obtain ⟨t, rfl⟩ := hh
    have g : 0 ≤ (0 : Int) ∧ (0 : Int) < ((x :: t).length : Int) := ⟨by omega, by simp only [List.length_cons]; omega⟩
    have e0 : lget (x :: t) 0 = x := rfl
    simp only [cnt'] at hc
    rw [bosketref31_Kids_l1.eq_2, if_pos g, e0, if_neg (by omega), bosketref31_Kids_c0, pcs, List.append_nil]
  | .cons y q n, pre, acc, f + 1, c, h, e, hf, hc, ha => by
    have hlen : l.length = pre.length + ((fl q).length + (fl n).length + 1) := by rw [e]; simp [fl]
    have ht : tsz l pre.length = (fl q).length + 1 := by rw [e]; exact tsz_at h
    have hcut : lcut l (pre.length : Int) ((pre.length + ((fl q).length + 1) : Nat) : Int) = y :: fl q := by
      have := lcut_mid pre (y :: fl q) (fl n)
      simp only [List.length_cons] at this
      rw [e]; simp only [fl]
      exact this
    have e1 : w64 ((pre.length : Int) + (((fl q).length + 1 : Nat) : Int)) = ((pre.length + ((fl q).length + 1) : Nat) : Int) := by rw [w64_id (by omega) (by omega)]; omega
    simp only [cnt'] at hf ha hc
    have e0 : lget l 0 = x := by obtain ⟨t, rfl⟩ := hh; rfl
    have hck := h12
    have g : 0 ≤ (0 : Int) ∧ (0 : Int) < (l.length : Int) := ⟨by omega, by omega⟩
    rw [bosketref31_Kids_l1.eq_2, if_pos g, e0, if_pos (by omega), rsize_eq l hl hk, if_pos ⟨by omega, by omega⟩, Option.bind_some, Int.toNat_natCast, ht, e1, if_pos ⟨by omega, by omega, by omega⟩, hcut, if_pos (by simp; omega)]
    have ih := rkids_l k x ks l hx h12 hl hk hh n (pre ++ (y :: fl q)) (acc ++ [y :: fl q]) f (c + 1) h.2.2.2 (by rw [e]; simp [fl]) (by omega) (by omega) (by simp; omega)
    rw [List.length_append, List.length_cons] at ih
    rw [w64_id (by omega) (by omega), show (c : Int) + 1 = ((c + 1 : Nat) : Int) by omega, ih, pcs]; simp
theorem rkids_eq {k : Nat} {x : S43} {ks : Fo} (h : WF (.cons x ks .nil)) (hl : (x :: fl ks).length ≤ 1000) (hk : (x :: fl ks).length + 20 < k) : bosketref31_Kids k (x :: fl ks) = some (pcs ks) := by
  have hc := cnt_le ks
  unfold bosketref31_Kids
  exact rkids_l k x ks (x :: fl ks) h.2.1 (by have := h.1.2.1; have := h.2.1; omega) hl hk ⟨_, rfl⟩ ks [x] [] k 0 h.2.2.1 rfl (by simp at hk; omega) (by omega) (by simp at hl ⊢; omega)
/-! How deep. -/
def dep : Fo → Nat
  | .nil => 0
  | .cons _ k n => max (dep k + 1) (dep n)
theorem dep_le : ∀ F, dep F ≤ (fl F).length
  | .nil => Nat.le_refl _
  | .cons x k n => by have := dep_le k; have := dep_le n; simp [dep, fl]; omega
theorem lget_app {α : Type} [Inhabited α] (A : List α) (y : α) (B : List α) : lget (A ++ y :: B) (A.length : Int) = y := by
  unfold lget
  simp [List.getD]
theorem depth_l : ∀ (F : Fo), WF F → ∀ (k kk : Nat) (p0 : List S43) (A : List (List S43)) (acc fuel : Nat), (fl F).length + 1 ≤ 1000 → (fl F).length + 100 < k → cnt' F < fuel → A.length + cnt' F ≤ 2000 →
    ast_Depth_l1 kk (ast_Depth k) p0 (A ++ pcs F) fuel acc A.length = ast_Depth_c0 kk p0 ((max acc (dep F) : Nat) : Int) ∧ ∀ c0 : Nat, bosketref31_Depth_l1 kk (bosketref31_Depth k) (A ++ pcs F) fuel acc A.length = bosketref31_Depth_c0 kk ((max acc (dep F) : Nat) : Int)
  | .nil, _, k, kk, p0, A, acc, f + 1, _, _, _, _ => by
    rw [ast_Depth_l1.eq_2, bosketref31_Depth_l1.eq_2, if_neg (by simp [pcs]), if_neg (by simp [pcs])]
    simp [dep]
  | .cons y q n, h, k, kk, p0, A, acc, f + 1, hl, hk, hf, hA => by
    simp only [cnt'] at hf hA
    have hlen : (fl (.cons y q n)).length = (fl q).length + (fl n).length + 1 := by simp [fl]
    have hwf : WF (.cons y q .nil) := ⟨h.1, h.2.1, h.2.2.1, trivial⟩
    have hz : (y :: fl q).length = (fl q).length + 1 := by simp
    have hcq := cnt_le q
    have hdq := dep_le q
    obtain ⟨k1, rfl⟩ : ∃ k1, k = k1 + 1 := ⟨k - 1, by omega⟩
    have hr : rgt (y :: fl q) = true := (rgt_iff (by omega)).2 ⟨y, q, hwf, rfl⟩
    have ih1 := depth_l q h.2.2.1 k1 k1 (y :: fl q) [] 0 k1 (by omega) (by omega) (by omega) (by simp; omega)
    have d1 : ast_Depth (k1 + 1) (y :: fl q) = some ((dep q + 1 : Nat) : Int) := by
      rw [ast_Depth.eq_2, kids_eq hwf (by omega) (by omega), Option.bind_some]
      have := ih1.1
      simp only [List.nil_append, List.length_nil] at this
      rw [show ((0 : Nat) : Int) = 0 from rfl] at this
      rw [this]
      unfold ast_Depth_c0
      rw [(right_l _ (by omega) (by omega)).1, hr, Option.bind_some, if_neg (by decide), w64_id (by omega) (by omega)]
      congr 1 <;> omega
    have d2 : bosketref31_Depth (k1 + 1) (y :: fl q) = some ((dep q + 1 : Nat) : Int) := by
      rw [bosketref31_Depth.eq_2, rkids_eq hwf (by omega) (by omega), Option.bind_some]
      have := ih1.2 0
      simp only [List.nil_append, List.length_nil] at this
      rw [show ((0 : Nat) : Int) = 0 from rfl] at this
      rw [this]
      unfold bosketref31_Depth_c0
      rw [w64_id (by omega) (by omega)]
      congr 1 <;> omega
    have hcn := cnt_le n
    have g1 : (A.length : Int) < ((A ++ pcs (.cons y q n)).length : Int) := by simp [pcs]; omega
    have g : 0 ≤ (A.length : Int) ∧ (A.length : Int) < ((A ++ pcs (.cons y q n)).length : Int) := ⟨by omega, g1⟩
    have eg : lget (A ++ pcs (.cons y q n)) (A.length : Int) = y :: fl q := lget_app A _ _
    have ih2 := depth_l n h.2.2.2 (k1 + 1) kk p0 (A ++ [y :: fl q]) (max acc (dep q + 1)) f (by omega) (by omega) (by omega) (by simp; omega)
    have eA : A ++ [y :: fl q] ++ pcs n = A ++ pcs (.cons y q n) := by simp [pcs]
    have eL : ((A ++ [y :: fl q]).length : Int) = (A.length : Int) + 1 := by simp
    have em : (max (acc : Int) ((dep q + 1 : Nat) : Int)) = ((max acc (dep q + 1) : Nat) : Int) := by omega
    have em2 : max (max acc (dep q + 1)) (dep n) = max acc (dep (.cons y q n)) := by simp only [dep]; omega
    rw [eA, eL, em2] at ih2
    rw [ast_Depth_l1.eq_2, bosketref31_Depth_l1.eq_2, if_pos g1, if_pos g1, if_pos g, if_pos g, eg, d1, d2, Option.bind_some, Option.bind_some, w64_id (by omega) (by omega), em]
    exact ih2
theorem depth_eq {k : Nat} {x : S43} {ks : Fo} (h : WF (.cons x ks .nil)) (hl : (x :: fl ks).length ≤ 999) (hk : (x :: fl ks).length + 200 < k) : ast_Depth k (x :: fl ks) = some ((dep ks + 1 : Nat) : Int) ∧ bosketref31_Depth k (x :: fl ks) = some ((dep ks + 1 : Nat) : Int) := by
  have hz : (x :: fl ks).length = (fl ks).length + 1 := by simp
  have hcq := cnt_le ks
  have hdq := dep_le ks
  obtain ⟨k1, rfl⟩ : ∃ k1, k = k1 + 1 := ⟨k - 1, by omega⟩
  have hr : rgt (x :: fl ks) = true := (rgt_iff (by omega)).2 ⟨x, ks, h, rfl⟩
  have ih1 := depth_l ks h.2.2.1 k1 k1 (x :: fl ks) [] 0 k1 (by omega) (by omega) (by omega) (by simp; omega)
  simp only [List.nil_append, List.length_nil] at ih1
  rw [show ((0 : Nat) : Int) = 0 from rfl] at ih1
  rw [ast_Depth.eq_2, kids_eq h (by omega) (by omega), Option.bind_some, bosketref31_Depth.eq_2, rkids_eq h (by omega) (by omega), Option.bind_some, ih1.1, ih1.2 0]
  unfold ast_Depth_c0 bosketref31_Depth_c0
  rw [(right_l _ (by omega) (by omega)).1, hr, Option.bind_some, if_neg (by decide), w64_id (by omega) (by omega)]
  constructor <;> (congr 1 <;> omega)
end Go.Avl.T2
/- Trees as lists: joined, compared; which are tried. -/
namespace Go.Avl.T2
open Go Go.RowKit Go.Proofs Go.Avl
set_option linter.all false
set_option maxRecDepth 10000

theorem few_l (k : Nat) (l : List S43) (hl : l.length ≤ 60) : ∀ (m i fuel : Nat), i + m = l.length → m < fuel → (∀ j, (h : j < l.length) → j < i → l[j].f3.size ≤ 40) →
    ∃ b, bosketlaw31_Few_l1 k l fuel i = some b ∧ (b = true → ∀ j, (h : j < l.length) → l[j].f3.size ≤ 40)
  | 0, i, f + 1, h, _, hx => by
    rw [bosketlaw31_Few_l1.eq_2, if_neg (by omega), bosketlaw31_Few_c0]
    exact ⟨_, rfl, fun _ j hj => hx j hj (by omega)⟩
  | m + 1, i, f + 1, h, hf, hx => by
    have hi : i < l.length := by omega
    rw [bosketlaw31_Few_l1.eq_2, if_pos (by omega), if_pos ⟨by omega, by omega⟩, lget_nat l i hi]
    by_cases a : (40 : Int) < (l[i].f3.size : Int)
    · rw [if_pos a]; exact ⟨_, rfl, fun h => by cases h⟩
    · rw [if_neg a, w64_id (by omega) (by omega)]
      exact_mod_cast few_l k l hl m (i + 1) f (by omega) (by omega) (fun j hj hj2 => by
        by_cases b : j < i
        · exact hx j hj b
        · have : j = i := by omega
          subst this; omega)
theorem few_eq (l : List S43) : ∃ b, bosketlaw31_Few 2000 l = some b ∧ (b = true → l.length ≤ 60 ∧ ∀ j, (h : j < l.length) → l[j].f3.size ≤ 40) := by
  unfold bosketlaw31_Few
  by_cases a : (60 : Int) < (l.length : Int)
  · rw [if_pos a]; exact ⟨_, rfl, fun h => by cases h⟩
  · obtain ⟨b, b1, b2⟩ := few_l 2000 l (by omega) l.length 0 2000 (by omega) (by omega) (fun j _ h => by omega)
    rw [if_neg a]
    exact ⟨b, b1, fun h => ⟨by omega, b2 h⟩⟩
theorem grow_eq (k : Nat) (n : Int) (h : 0 ≤ n ∧ n ≤ 1000000) : slices_Grow_api_Node_api_Node_ k n = some [] := by
  unfold slices_Grow_api_Node_api_Node_ slices_Grow_api_Node_api_Node__c0
  have e : w64 (n - w64 ((0 : Int) - (0 : Int))) = n := by
    have : w64 ((0 : Int) - (0 : Int)) = 0 := by decide
    rw [this, w64_id (by omega) (by omega)]; omega
  rw [if_neg (by omega), e]
  by_cases a : 0 < n
  · rw [if_pos a, if_pos ⟨a, by omega, by omega⟩]
  · rw [if_neg a]
theorem flat_take (ls : List (List S43)) (i : Nat) (h : i < ls.length) : (ls.take (i + 1)).flatten = (ls.take i).flatten ++ ls[i] := by
  rw [← List.take_append_getElem h, List.flatten_append]
  congr 1
  exact List.append_nil _
theorem flat_len_le (ls : List (List S43)) (i : Nat) : (ls.take i).flatten.length ≤ ls.flatten.length := by
  have : ls.flatten = (ls.take i).flatten ++ (ls.drop i).flatten := by rw [← List.flatten_append, List.take_append_drop]
  rw [this, List.length_append]; omega
theorem lget_nat' (l : List (List S43)) (i : Nat) (h : i < l.length) : lget l (i : Int) = l[i] := by
  unfold lget
  rw [show (i : Int).toNat = i by omega, List.getD, List.getElem?_eq_getElem h]; rfl
theorem concat_l1 (k : Nat) (ls : List (List S43)) (hz : ls.flatten.length ≤ 100000) (hn : ls.length ≤ 100000) : ∀ (m i fuel : Nat), i + m = ls.length → m < fuel →
    slices_Concat_api_Node_api_Node__l1 k ls fuel (ls.take i).flatten i = some ls.flatten
  | 0, i, f + 1, h, _ => by
    rw [slices_Concat_api_Node_api_Node__l1.eq_2, if_neg (by omega), slices_Concat_api_Node_api_Node__c0, List.take_of_length_le (by omega)]
  | m + 1, i, f + 1, h, hf => by
    have hi : i < ls.length := by omega
    have h1 := flat_take ls i hi
    have h2 := flat_len_le ls (i + 1)
    rw [slices_Concat_api_Node_api_Node__l1.eq_2, if_pos (by omega), if_pos ⟨by omega, by omega⟩, lget_nat' ls i hi, ← h1, if_pos (by omega), w64_id (by omega) (by omega)]
    exact_mod_cast concat_l1 k ls hz hn m (i + 1) f (by omega) (by omega)
theorem concat_l3 (k : Nat) (hk : 2000 ≤ k) (ls : List (List S43)) (hz : ls.flatten.length ≤ 100000) (hn : ls.length ≤ 1000) : ∀ (m i fuel : Nat), i + m = ls.length → m < fuel →
    slices_Concat_api_Node_api_Node__l3 k ls fuel ((ls.take i).flatten.length : Int) i = some ls.flatten
  | 0, i, f + 1, h, _ => by
    have h2 := flat_len_le ls i
    rw [slices_Concat_api_Node_api_Node__l3.eq_2, if_neg (by omega)]
    unfold slices_Concat_api_Node_api_Node__c2
    rw [grow_eq _ _ (by omega), Option.bind_some]
    exact concat_l1 k ls hz (by omega) ls.length 0 k (by omega) (by omega)
  | m + 1, i, f + 1, h, hf => by
    have hi : i < ls.length := by omega
    have h1 := flat_take ls i hi
    have h2 := flat_len_le ls (i + 1)
    have h3 := congrArg List.length h1
    rw [List.length_append] at h3
    rw [slices_Concat_api_Node_api_Node__l3.eq_2, if_pos (by omega), if_pos ⟨by omega, by omega⟩, lget_nat' ls i hi]
    have e : w64 (((ls.take i).flatten.length : Int) + (ls[i].length : Int)) = ((ls.take (i + 1)).flatten.length : Int) := by rw [w64_id (by omega) (by omega)]; omega
    rw [e, if_neg (by omega), w64_id (by omega) (by omega)]
    exact_mod_cast concat_l3 k hk ls hz hn m (i + 1) f (by omega) (by omega)
theorem concat_eq {k : Nat} (hk : 2000 ≤ k) (ls : List (List S43)) (hz : ls.flatten.length ≤ 100000) (hn : ls.length ≤ 1000) : slices_Concat_api_Node_api_Node_ k ls = some ls.flatten :=
  concat_l3 k hk ls hz hn ls.length 0 k (by omega) (by omega)
theorem join_eq {k : Nat} (hk : 2000 ≤ k) (x : S43) (ls : List (List S43)) (hz : ls.flatten.length ≤ 10000) (hn : ls.length ≤ 1000) : ast_Join k x ls = some (⟨x.f0, x.f1, (ls.length : Int), x.f3⟩ :: ls.flatten) := by
  unfold ast_Join
  rw [concat_eq hk ls (by omega) hn, Option.bind_some, concat_eq hk _ (by rw [List.flatten_cons, List.flatten_cons, List.flatten_nil, List.append_nil, List.length_append]; simp only [List.length_cons, List.length_nil]; omega) (by simp), Option.bind_some]
  simp
theorem same_l (k : Nat) (l : List S43) (hl : l.length ≤ 1000) : ∀ (m i fuel : Nat), i + m = l.length → m < fuel → bosketref31_Same_l1 k l l fuel i = some true ∧ slices_Equal_api_Node_api_Node__l1 k l l fuel i = some true
  | 0, i, f + 1, h, _ => by
    rw [bosketref31_Same_l1.eq_2, slices_Equal_api_Node_api_Node__l1.eq_2, if_neg (by omega), if_neg (by omega)]; exact ⟨rfl, rfl⟩
  | m + 1, i, f + 1, h, hf => by
    have g : 0 ≤ (i : Int) ∧ (i : Int) < (l.length : Int) := ⟨by omega, by omega⟩
    have ih := same_l k l hl m (i + 1) f (by omega) (by omega)
    rw [bosketref31_Same_l1.eq_2, slices_Equal_api_Node_api_Node__l1.eq_2, if_pos g.2, if_pos g, if_pos g, if_pos g.2, if_pos g, if_pos g, if_neg (by simp), if_neg (by simp), w64_id (by omega) (by omega)]
    exact_mod_cast ih
theorem same_eq (l : List S43) (hl : l.length ≤ 1000) : bosketref31_Same 2000 l l = some true ∧ ast_Same 2000 l l = some true := by
  obtain ⟨h1, h2⟩ := same_l 2000 l hl l.length 0 2000 (by omega) (by omega)
  unfold bosketref31_Same ast_Same slices_Equal_api_Node_api_Node_
  rw [if_neg (by simp), if_neg (by simp)]
  refine ⟨h1, ?_⟩
  rw [show (0 : Int) = ((0 : Nat) : Int) from rfl, h2, Option.bind_some]
end Go.Avl.T2
/- AstTells: the plain law. -/
namespace Go.Avl.T2
open Go Go.RowKit Go.Proofs Go.Avl
set_option linter.all false
set_option maxRecDepth 10000

theorem awake31 : bosketlaw31_awake 2000 = some true := by decide +kernel
theorem tells_l (l : List S43) (P' : List (List S43)) (hP : ∀ x ∈ P', x.length ≤ 1000) (hn : P'.length ≤ 1000) (hfin : bosketlaw31_AstTells_c0 2000 l P' = some true) : ∀ (m i fuel : Nat), i + m = P'.length → m < fuel → bosketlaw31_AstTells_l1 2000 l P' P' fuel i = some true
  | 0, i, f + 1, h, _ => by rw [bosketlaw31_AstTells_l1.eq_2, if_neg (by omega)]; exact hfin
  | m + 1, i, f + 1, h, hf => by
    have hi : i < P'.length := by omega
    have g : 0 ≤ (i : Int) ∧ (i : Int) < (P'.length : Int) := ⟨by omega, by omega⟩
    rw [bosketlaw31_AstTells_l1.eq_2, if_pos g.2, if_pos g, if_pos g, lget_nat' P' i hi, (same_eq _ (hP _ (List.getElem_mem hi))).1, Option.bind_some, if_neg (by decide), w64_id (by omega) (by omega)]
    exact_mod_cast tells_l l P' hP hn hfin m (i + 1) f (by omega) (by omega)
theorem pcs_mem : ∀ (F : Fo) (x : List S43), x ∈ pcs F → x.length ≤ (fl F).length
  | .nil, x, h => by cases h
  | .cons y k n, x, h => by
    rcases List.mem_cons.1 h with e | e
    · subst e; simp only [fl, List.length_cons, List.length_append]; omega
    · have := pcs_mem n x e; simp only [fl, List.length_cons, List.length_append]; omega

theorem bosketlaw31_AstTells_true (a0 : (List S43)) (a1 : Int) (h0 : wf37 a0) (h1 : wf3 a1) : ∃ k, bosketlaw31_AstTells k a0 a1 = some true := by
  refine ⟨2000, ?_⟩
  unfold bosketlaw31_AstTells
  rw [awake31, Option.bind_some, if_neg (by decide)]
  obtain ⟨b, b1, b2⟩ := few_eq a0
  rw [b1, Option.bind_some]
  by_cases z : (!b) = true
  · rw [if_pos z]
  rw [if_neg z]
  obtain ⟨hl, -⟩ := b2 (by simpa using z)
  obtain ⟨r1, r2⟩ := right_l (k := 2000) a0 (by omega) (by omega)
  have s1 := size_eq (k := 2000) a0 (by omega) (by omega) a1
  have s2 := rsize_eq (k := 2000) a0 (by omega) (by omega) a1
  rw [r2, Option.bind_some, r1, Option.bind_some, s1, s2, if_neg (by simp), Option.bind_some, Option.bind_some, Option.bind_some, if_neg (by simp)]
  cases hr : rgt a0
  · have k1 : ast_Kids 2000 a0 = some [] := by unfold ast_Kids; rw [r1, hr, Option.bind_some, if_pos (show (!false) = true from rfl)]
    have d1 : ast_Depth 2000 a0 = some 0 := by
      show ast_Depth (1999 + 1) a0 = _
      have k2 : ast_Kids 1999 a0 = some [] := by unfold ast_Kids; rw [(right_l (k := 1999) a0 (by omega) (by omega)).1, hr, Option.bind_some, if_pos (show (!false) = true from rfl)]
      rw [ast_Depth.eq_2, k2, Option.bind_some]
      show ast_Depth_l1 1999 _ a0 [] (1998 + 1) 0 0 = _
      rw [ast_Depth_l1.eq_2, if_neg (by simp), ast_Depth_c0, (right_l (k := 1999) a0 (by omega) (by omega)).1, hr, Option.bind_some, if_pos (show (!false) = true from rfl)]
    rw [k1, Option.bind_some, if_pos (show (!false) = true from rfl), if_pos (by simp), d1, Option.bind_some, Option.bind_some]
    simp
  · obtain ⟨x, ks, w, rfl⟩ := (rgt_iff (by omega)).1 hr
    have hz : (x :: fl ks).length = (fl ks).length + 1 := by simp
    have hc := cnt_le ks
    obtain ⟨d1, d2⟩ := depth_eq (k := 2000) w (by omega) (by omega)
    rw [kids_eq w (by omega) (by omega), Option.bind_some, if_neg (by decide), rkids_eq w (by omega) (by omega), Option.bind_some, if_neg (by simp), d1, d2, Option.bind_some, Option.bind_some, Option.bind_some, if_neg (by simp)]
    refine tells_l (x :: fl ks) (pcs ks) (fun y hy => by have := pcs_mem ks y hy; omega) (by rw [pcs_len]; omega) ?_ (pcs ks).length 0 2000 (by omega) (by rw [pcs_len]; omega)
    unfold bosketlaw31_AstTells_c0
    have e0 : lget (x :: fl ks) 0 = x := rfl
    rw [if_pos ⟨by omega, by simp⟩, e0, join_eq (by omega) _ _ (by rw [pcs_fl]; omega) (by rw [pcs_len]; omega), Option.bind_some, pcs_fl, pcs_len]
    dsimp only
    rw [← w.2.1]
    have := (same_eq (x :: fl ks) (by omega)).2
    have e : (S43.mk x.f0 x.f1 x.f2 x.f3) = x := rfl
    rw [e, this, Option.bind_some]
end Go.Avl.T2
