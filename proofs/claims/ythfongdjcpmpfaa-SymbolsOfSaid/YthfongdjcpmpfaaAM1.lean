/- Parts: T4W, T4M1, T4M2, T4PureSymbolsOf. -/
import Derived.Test.YthfongdjcpmpfaaAF1
import Derived.Test.YthfongdjcpmpfaaAv3
import Derived.Test.YthfongdjcpmpfaaAF2
/- Opening of the arguments; printed by avlaw.py. -/
namespace Go.Avl.T4
open Go Go.RowKit Go.Proofs Go.Avl
set_option linter.unusedVariables false
set_option maxRecDepth 100000
theorem ag3 : tyAgg Try.prog 3 = some false := by rfl
abbrev wf9 : ByteArray → Prop := (fun s : ByteArray => s.size ≤ 9223372036854775807)
theorem op9 : Opens Try.prog 9 eStr wf9 := opens_string Try.underlying9
abbrev wf37 : (List ByteArray) → Prop := (fun l : List ByteArray => l.length ≤ 9223372036854775807 ∧ ∀ a ∈ l, wf9 a)
theorem op37 : Opens Try.prog 37 e37 wf37 := opens_slice Try.underlying37 sz9 op9
abbrev wf3 : Int → Prop := (fun n : Int => (Lit.int .i64 n).wf = true)
theorem op3 : Opens Try.prog 3 eI64 wf3 := opens_int Try.underlying3
end Go.Avl.T4
/- Names: what both answer. -/
namespace Go.Avl.T4
open Go Go.RowKit Go.Proofs Go.Avl
set_option linter.all false
set_option maxRecDepth 10000

def cls (n : Nat) : Int := (escape_Class 2000 (n : Int)).getD 9
theorem cls_code_nat : ∀ n : Nat, n < 256 → escape_Class 2000 (n : Int) = some (cls n) := by decide +kernel
theorem cls_ref_nat : ∀ n : Nat, n < 256 → bosketref03_Class 2000 (n : Int) = some (cls n) := by decide +kernel
theorem cls_code (c : Int) (h0 : 0 ≤ c) (h1 : c ≤ 255) : escape_Class 2000 c = some (cls c.toNat) := by
  obtain ⟨n, rfl⟩ := Int.eq_ofNat_of_zero_le h0
  exact cls_code_nat n (by omega)
theorem cls_ref (c : Int) (h0 : 0 ≤ c) (h1 : c ≤ 255) : bosketref03_Class 2000 c = some (cls c.toNat) := by
  obtain ⟨n, rfl⟩ := Int.eq_ofNat_of_zero_le h0
  exact cls_ref_nat n (by omega)
/-- Are the bytes from i on letters and digits? -/
def tail (s : ByteArray) : Nat → Nat → Bool
  | 0, _ => true
  | d + 1, i => (cls (byteAt s i).toNat == 3 || cls (byteAt s i).toNat == 2) && tail s d (i + 1)
theorem code_loop (s : ByteArray) (hn : s.size ≤ 100) : ∀ (d i m : Nat), i + d = s.size → d < m →
    escape_Name_l1 2000 s m (i : Int) = some (tail s d i)
  | 0, i, m + 1, hi, _ => by rw [escape_Name_l1.eq_2, if_neg (by omega)]; rfl
  | d + 1, i, m + 1, hi, hm => by
    have hr := byteAt_u8 s (i : Int)
    rw [escape_Name_l1.eq_2, if_pos (by omega), if_pos ⟨by omega, by omega⟩, cls_code _ hr.1 hr.2, Option.bind_some, w64_id (by omega) (by omega)]
    have ih := code_loop s hn d (i + 1) m (by omega) (by omega)
    rw [show (i : Int) + 1 = ((i + 1 : Nat) : Int) by omega, ih, tail]
    by_cases h2 : cls (byteAt s i).toNat = 2
    · simp [h2]
    · by_cases h3 : cls (byteAt s i).toNat = 3
      · simp [h3]
      · simp [h2, h3]
def name (s : ByteArray) : Bool := decide (1 ≤ s.size ∧ s.size ≤ 40) && cls (byteAt s 0).toNat == 3 && tail s s.size 0
theorem ref_loop (s : ByteArray) (hn : s.size ≤ 100) : ∀ (d i m : Nat), i + d = s.size → d < m →
    bosketref03_Name_l1 2000 s m (i : Int) = some (decide (1 ≤ s.size ∧ s.size ≤ 40) && (decide (i ≠ 0 ∨ d = 0) || cls (byteAt s 0).toNat != 2) && tail s d i)
  | 0, i, m + 1, hi, _ => by
    rw [bosketref03_Name_l1.eq_2, if_neg (by omega), bosketref03_Name_c0]
    by_cases h : 1 ≤ s.size
    · rw [if_pos (by omega)]; simp [tail, h]; omega
    · rw [if_neg (by omega)]; simp [h]
  | d + 1, i, m + 1, hi, hm => by
    have hr := byteAt_u8 s (i : Int)
    rw [bosketref03_Name_l1.eq_2, if_pos (by omega), if_pos ⟨by omega, by omega⟩, cls_ref _ hr.1 hr.2, Option.bind_some, w64_id (by omega) (by omega)]
    have ih := ref_loop s hn d (i + 1) m (by omega) (by omega)
    rw [show (i : Int) + 1 = ((i + 1 : Nat) : Int) by omega, ih, tail]
    by_cases h3 : cls (byteAt s i).toNat = 3
    · by_cases hz : i = 0
      · subst hz; simp at h3; simp [h3]
      · simp [h3, hz]
    · by_cases h2 : cls (byteAt s i).toNat = 2
      · by_cases hz : i = 0
        · subst hz; simp at h2; simp [h2]
        · simp [h2, hz]
      · simp [h2, h3]
theorem ref_name (s : ByteArray) (hn : s.size ≤ 100) : bosketref03_Name 2000 s = some (name s) := by
  unfold bosketref03_Name
  have := ref_loop s hn s.size 0 2000 (by omega) (by omega)
  simp only [Int.natCast_zero] at this
  refine this.trans ?_
  unfold name
  by_cases h0 : s.size = 0
  · simp [h0]
  · obtain ⟨d, hd⟩ : ∃ d, s.size = d + 1 := ⟨s.size - 1, by omega⟩
    rw [hd]
    simp only [tail]
    by_cases h2 : cls (byteAt s 0).toNat = 2
    · simp [h2]
    · by_cases h3 : cls (byteAt s 0).toNat = 3
      · simp [h3]
      · simp [beq_eq_false_iff_ne.mpr h2, beq_eq_false_iff_ne.mpr h3]
theorem emp_iff (s : ByteArray) : s = ByteArray.mk #[] ↔ s.size = 0 := by
  constructor
  · intro h; subst h; rfl
  · intro h
    obtain ⟨a⟩ := s
    have : a = #[] := Array.eq_empty_of_size_eq_zero h
    rw [this]
theorem code_name (s : ByteArray) (hn : s.size ≤ 100) : escape_Name 2000 s = some (name s) := by
  unfold escape_Name
  have hl := code_loop s hn s.size 0 2000 (by omega) (by omega)
  simp only [Int.natCast_zero] at hl
  unfold name
  by_cases h40 : (40 : Int) < (s.size : Int)
  · rw [if_pos h40]
    have : ¬ s.size ≤ 40 := by omega
    simp [this]
  · rw [if_neg h40]
    by_cases h0 : s.size = 0
    · rw [if_pos ((emp_iff s).2 h0)]
      simp [h0]
    · rw [if_neg (fun h => h0 ((emp_iff s).1 h)), if_pos ⟨by omega, by omega⟩]
      have hr := byteAt_u8 s 0
      rw [cls_code _ hr.1 hr.2]
      simp only [Option.bind_some]
      rw [hl]
      have h1 : 1 ≤ s.size := by omega
      have h2 : s.size ≤ 40 := by omega
      by_cases h3 : cls (byteAt s 0).toNat = 3
      · simp [h3, h1, h2]
      · simp [h3]
end Go.Avl.T4
/- Tables of names: as lists. -/
namespace Go.Avl.T4
open Go Go.RowKit Go.Proofs Go.Avl
set_option linter.all false
set_option maxRecDepth 10000

theorem lget_lt {α : Type} [Inhabited α] (l : List α) (i : Nat) (h : i < l.length) : lget l (i : Int) = l[i] := by simp [lget, List.getD, List.getElem?_eq_getElem h]
theorem awake16 : bosketlaw16_awake 2000 = some true := by decide +kernel
/-- The place of a name, from a number on. -/
def fo : List ByteArray → ByteArray → Int → Option Int
  | [], _, _ => none
  | x :: l, s, i => if x = s then some i else fo l s (i + 1)
/-- The map of a list of names. -/
def mpF : List ByteArray → Int → List (ByteArray × Int)
  | [], _ => []
  | x :: l, i => (x, i) :: mpF l (i + 1)
theorem mget_mpF (s : ByteArray) : ∀ (l : List ByteArray) (i : Int), mget (mpF l i) s = fo l s i
  | [], _ => rfl
  | x :: l, i => by rw [mpF, mget, fo, mget_mpF s l (i + 1)]
theorem mput_mpF (s : ByteArray) : ∀ (l : List ByteArray) (i : Int), fo l s i = none → mput (mpF l i) s (i + l.length) = mpF (l ++ [s]) i
  | [], i, _ => by simp [mpF, mput]
  | x :: l, i, h => by
    rw [fo] at h
    by_cases a : x = s
    · rw [if_pos a] at h; cases h
    · rw [if_neg a] at h
      have := mput_mpF s l (i + 1) h
      rw [mpF, mput, if_neg a, List.cons_append, mpF, ← this, List.length_cons]
      congr 2; omega
theorem fo_ge (s : ByteArray) : ∀ (l : List ByteArray) (i v : Int), fo l s i = some v → i ≤ v
  | [], _, _, h => by cases h
  | x :: l, i, v, h => by
    rw [fo] at h
    split at h
    · cases h; omega
    · have := fo_ge s l (i + 1) v h; omega
theorem rfind_l (l : List ByteArray) (s : ByteArray) (hl : l.length ≤ 1000) : ∀ (d i m : Nat), i + d = l.length → d < m →
    bosketref16_Find_l1 2000 l s m (i : Int) = some ((fo (l.drop i) s i).getD (-1))
  | 0, i, m + 1, hi, _ => by
    rw [bosketref16_Find_l1.eq_2, if_neg (by omega), List.drop_of_length_le (by omega)]; rfl
  | d + 1, i, m + 1, hi, hm => by
    have ih := rfind_l l s hl d (i + 1) m (by omega) (by omega)
    have hi' : i < l.length := by omega
    rw [bosketref16_Find_l1.eq_2, if_pos (by omega), if_pos ⟨by omega, by omega⟩, lget_lt l i hi', List.drop_eq_getElem_cons hi', fo, w64_id (by omega) (by omega)]
    split
    · rfl
    · exact_mod_cast ih
theorem rfind (l : List ByteArray) (s : ByteArray) (hl : l.length ≤ 1000) : bosketref16_Find 2000 l s = some ((fo l s 0).getD (-1)) := by
  have := rfind_l l s hl l.length 0 2000 (by omega) (by omega)
  simpa [bosketref16_Find] using this
abbrev tb (l : List ByteArray) : S85 := S85.mk l (mpF l 0)
theorem find_eq (l : List ByteArray) (s : ByteArray) : symbols_Table_Find 2000 (tb l) s = some ((fo l s 0).getD (-1)) := by
  unfold symbols_Table_Find
  show (if (mget (mpF l 0) s).isSome = true then some ((mget (mpF l 0) s).getD 0) else some (-1)) = _
  rw [mget_mpF]
  cases fo l s 0 <;> rfl
/-- What a name more does. -/
def add (l : List ByteArray) (s : ByteArray) : List ByteArray × Int × Int :=
  if name s = true then match fo l s 0 with
    | some v => (l, v, 9)
    | none => if 300 ≤ l.length then (l, 0, 6) else (l ++ [s], l.length, 0)
  else (l, 0, 8)
theorem radd_eq (l : List ByteArray) (s : ByteArray) (hl : l.length ≤ 1000) (hs : s.size ≤ 100) : bosketref16_Add 2000 l s = some (add l s) := by
  unfold bosketref16_Add add
  rw [ref_name s hs, Option.bind_some, rfind l s hl]
  cases name s
  · simp
  · simp only [Bool.not_true, Option.bind_some]
    rw [if_neg (by decide), if_pos trivial]
    cases e : fo l s 0 with
    | some v =>
      have := fo_ge s l 0 v e
      simp only [Option.getD_some]
      rw [if_pos this]
    | none =>
      simp only [Option.getD_none]
      rw [if_neg (by decide), List.nil_append]
      by_cases a : 300 ≤ l.length
      · rw [if_pos (by omega), if_pos a]
      · rw [if_neg (by omega), if_pos (by omega), if_pos (by simp; omega), if_neg a]
theorem add_eq (l : List ByteArray) (s : ByteArray) (hl : l.length ≤ 1000) (hs : s.size ≤ 100) : symbols_Table_Add 2000 (tb l) s = some ((add l s).2.1, (add l s).2.2, tb (add l s).1) := by
  unfold symbols_Table_Add add
  simp only [tb]
  rw [code_name s hs, Option.bind_some, mget_mpF]
  cases name s
  · simp
  · rw [if_neg (by decide), if_pos rfl]
    cases e : fo l s 0 with
    | some v => simp
    | none =>
      have hp := mput_mpF s l 0 e
      rw [Int.zero_add] at hp
      simp only [Option.isSome_none, Bool.false_eq_true, if_false]
      by_cases a : 300 ≤ l.length
      · rw [if_pos (by omega), if_pos a]
      · rw [if_neg (by omega), if_pos (by simp; omega), if_neg a, Option.bind_some, hp, w64_id (by simp <;> omega) (by simp <;> omega)]
        simp
theorem add_len (l : List ByteArray) (s : ByteArray) (hl : l.length ≤ 300) : (add l s).1.length ≤ 300 := by
  unfold add
  split
  · split
    · exact hl
    · split
      · exact hl
      · simp; omega
  · exact hl
theorem names_eq (l : List ByteArray) (hl : l.length ≤ 1000) (m : List (ByteArray × Int)) : symbols_Table_Names 2000 (S85.mk l m) = some l := by
  unfold symbols_Table_Names
  simp only [List.nil_append]
  rw [if_pos (by omega)]
theorem same_l (l : List ByteArray) (hl : l.length ≤ 1000) : ∀ (d i m : Nat), i + d = l.length → d < m → bosketref16_Same_l1 2000 l l m (i : Int) = some true
  | 0, i, m + 1, hi, _ => by rw [bosketref16_Same_l1.eq_2, if_neg (by omega)]; rfl
  | d + 1, i, m + 1, hi, hm => by
    have ih := same_l l hl d (i + 1) m (by omega) (by omega)
    rw [bosketref16_Same_l1.eq_2, if_pos (by omega), if_pos ⟨by omega, by omega⟩, if_pos ⟨by omega, by omega⟩, if_neg (by simp), w64_id (by omega) (by omega)]
    exact_mod_cast ih
theorem same_eq (l : List ByteArray) (hl : l.length ≤ 1000) : bosketref16_Same 2000 l l = some true := by
  unfold bosketref16_Same
  rw [if_neg (by simp)]
  exact_mod_cast same_l l hl l.length 0 2000 (by omega) (by omega)
theorem few_l (l : List ByteArray) (hl : l.length ≤ 400) : ∀ (d i m : Nat), i + d = l.length → d < m →
    ∃ b, bosketlaw16_few_l1 2000 l m (i : Int) = some b ∧ (b = true → ∀ j (h : j < l.length), i ≤ j → l[j].size ≤ 100)
  | 0, i, m + 1, hi, _ => by rw [bosketlaw16_few_l1.eq_2, if_neg (by omega)]; exact ⟨true, rfl, fun _ j h h' => by omega⟩
  | d + 1, i, m + 1, hi, hm => by
    obtain ⟨b, ih, ih2⟩ := few_l l hl d (i + 1) m (by omega) (by omega)
    have hi' : i < l.length := by omega
    rw [bosketlaw16_few_l1.eq_2, if_pos (by omega), if_pos ⟨by omega, by omega⟩, lget_lt l i hi', w64_id (by omega) (by omega)]
    split
    · exact ⟨false, rfl, fun e => by cases e⟩
    · refine ⟨b, by exact_mod_cast ih, fun e j h h' => ?_⟩
      by_cases q : j = i
      · subst q; omega
      · exact ih2 e j h (by omega)
theorem few_eq (l : List ByteArray) : ∃ b, bosketlaw16_few 2000 l = some b ∧ (b = true → l.length ≤ 400 ∧ ∀ j (h : j < l.length), l[j].size ≤ 100) := by
  unfold bosketlaw16_few
  by_cases a : (400 : Int) < (l.length : Int)
  · rw [if_pos a]; exact ⟨false, rfl, fun e => by cases e⟩
  · rw [if_neg a]
    obtain ⟨b, h1, h2⟩ := few_l l (by omega) l.length 0 2000 (by omega) (by omega)
    exact ⟨b, h1, fun e => ⟨by omega, fun j h => h2 e j h (by omega)⟩⟩
end Go.Avl.T4
/- SymbolsOf: the plain law. -/
namespace Go.Avl.T4
open Go Go.RowKit Go.Proofs Go.Avl
set_option linter.all false

theorem add_ok {l : List ByteArray} {s : ByteArray} (h : (add l s).2.2 = 0) : (add l s).1 = l ++ [s] := by
  unfold add at h ⊢
  split at h
  · rename_i a
    rw [if_pos a]
    split at h
    · cases h
    · rename_i e
      split at h
      · cases h
      · rename_i b
        simp only [if_neg b]
  · cases h
/-- All names added, or the first that cannot be. -/
theorem of_l (p : List ByteArray) (hp : p.length ≤ 400) (hs : ∀ j (h : j < p.length), p[j].size ≤ 100) : ∀ (d i : Nat), i + d = p.length → i ≤ 300 →
    ((∀ m, d < m → symbols_Of_l1 2000 p m (p.take i) (mpF (p.take i) 0) (i : Int) = some (some (tb p), (p.length : Int), 0)) ∧
      (∀ t x m, d < m → bosketlaw16_SymbolsOf_l5 2000 p t x m (p.take i) (i : Int) = bosketlaw16_SymbolsOf_c4 2000 p t x) ∧ p.length ≤ 300) ∨
    ∃ (j c : Int), (∀ m, d < m → symbols_Of_l1 2000 p m (p.take i) (mpF (p.take i) 0) (i : Int) = some (none, j, c)) ∧
      (∀ m, d < m → bosketlaw16_SymbolsOf_l1 2000 p (none, j, c) m (p.take i) (i : Int) = some true)
  | 0, i, hi, h3 => by
    refine .inl ⟨fun m hm => ?_, fun t x m hm => ?_, by omega⟩
    · obtain ⟨m, rfl⟩ : ∃ n, m = n + 1 := ⟨m - 1, by omega⟩
      rw [symbols_Of_l1.eq_2, if_neg (by omega), symbols_Of_c0, List.take_of_length_le (by omega)]
    · obtain ⟨m, rfl⟩ : ∃ n, m = n + 1 := ⟨m - 1, by omega⟩
      rw [bosketlaw16_SymbolsOf_l5.eq_2, if_neg (by omega)]
  | d + 1, i, hi, h3 => by
    have hi' : i < p.length := by omega
    have g : 0 ≤ (i : Int) ∧ (i : Int) < (p.length : Int) := ⟨by omega, by omega⟩
    have hz : (p.take i).length = i := by simp; omega
    have e1 := add_eq (p.take i) p[i] (by omega) (hs i hi')
    have e2 := radd_eq (p.take i) p[i] (by omega) (hs i hi')
    by_cases q : (add (p.take i) p[i]).2.2 = 0
    · have e3 := add_ok q
      have e4 : (add (p.take i) p[i]).1 = p.take (i + 1) := by rw [e3]; exact List.take_append_getElem hi'
      have e5 := add_len (p.take i) p[i] (by omega)
      rw [e4] at e5
      have hz' : (p.take (i + 1)).length = i + 1 := by simp; omega
      rw [e4] at e1
      rcases of_l p hp hs d (i + 1) (by omega) (by omega) with ⟨k1, k2, k3⟩ | ⟨j, c, k1, k2⟩
      · refine .inl ⟨fun m hm => ?_, fun t x m hm => ?_, k3⟩
        · obtain ⟨m, rfl⟩ : ∃ n, m = n + 1 := ⟨m - 1, by omega⟩
          have := k1 m (by omega)
          rw [symbols_Of_l1.eq_2, if_pos g.2, if_pos g, lget_lt p i hi', e1, Option.bind_some, if_neg (by simp [q]), w64_id (by omega) (by omega)]
          exact_mod_cast this
        · obtain ⟨m, rfl⟩ : ∃ n, m = n + 1 := ⟨m - 1, by omega⟩
          have := k2 t x m (by omega)
          rw [bosketlaw16_SymbolsOf_l5.eq_2, if_pos g.2, if_pos g, lget_lt p i hi', e2, Option.bind_some, if_neg (by simp [q]), w64_id (by omega) (by omega), e4]
          exact_mod_cast this
      · refine .inr ⟨j, c, fun m hm => ?_, fun m hm => ?_⟩
        · obtain ⟨m, rfl⟩ : ∃ n, m = n + 1 := ⟨m - 1, by omega⟩
          have := k1 m (by omega)
          rw [symbols_Of_l1.eq_2, if_pos g.2, if_pos g, lget_lt p i hi', e1, Option.bind_some, if_neg (by simp [q]), w64_id (by omega) (by omega)]
          exact_mod_cast this
        · obtain ⟨m, rfl⟩ : ∃ n, m = n + 1 := ⟨m - 1, by omega⟩
          have := k2 m (by omega)
          rw [bosketlaw16_SymbolsOf_l1.eq_2, if_pos g.2, if_pos g, lget_lt p i hi', e2, Option.bind_some, if_neg (by simp [q]), w64_id (by omega) (by omega), e4]
          exact_mod_cast this
    · refine .inr ⟨i, (add (p.take i) p[i]).2.2, fun m hm => ?_, fun m hm => ?_⟩
      · obtain ⟨m, rfl⟩ : ∃ n, m = n + 1 := ⟨m - 1, by omega⟩
        rw [symbols_Of_l1.eq_2, if_pos g.2, if_pos g, lget_lt p i hi', e1, Option.bind_some, if_pos q]
      · obtain ⟨m, rfl⟩ : ∃ n, m = n + 1 := ⟨m - 1, by omega⟩
        rw [bosketlaw16_SymbolsOf_l1.eq_2, if_pos g.2, if_pos g, lget_lt p i hi', e2, Option.bind_some, if_pos q]
        simp
theorem over_l (p : List ByteArray) (x : S85) (N : Nat) (hN : N ≤ 1000) : ∀ (d i m : Nat) (l : List ByteArray), l.length = N → i + d = N → d < m →
    bosketlaw16_SymbolsOf_l3 2000 p x m l (i : Int) = bosketlaw16_SymbolsOf_c2 2000 p x
  | 0, i, m + 1, l, hl, hi, _ => by rw [bosketlaw16_SymbolsOf_l3.eq_2, if_neg (by omega)]
  | d + 1, i, m + 1, l, hl, hi, hm => by
    have ih := over_l p x N hN d (i + 1) m (lset l (i : Int) (ByteArray.mk #[120])) (by simp [lset, hl]) (by omega) (by omega)
    rw [bosketlaw16_SymbolsOf_l3.eq_2, if_pos (by omega), if_pos ⟨by omega, by omega⟩, w64_id (by omega) (by omega)]
    exact_mod_cast ih
theorem of_new (p : List ByteArray) {r : Option S85 × Int × Int} (h : symbols_Of_l1 2000 p 2000 (p.take 0) (mpF (p.take 0) 0) ((0 : Nat) : Int) = some r) : symbols_Of 2000 p = some r := by
  rw [Int.natCast_zero, List.take_zero] at h
  unfold symbols_Of
  rw [show symbols_New 2000 = some (S85.mk [] []) from rfl, Option.bind_some]
  exact h
theorem bosketlaw16_SymbolsOf_true (a0 : (List ByteArray)) (h0 : wf37 a0) : ∃ k, bosketlaw16_SymbolsOf k a0 = some true := by
  refine ⟨2000, ?_⟩
  unfold bosketlaw16_SymbolsOf
  obtain ⟨b, f1, f2⟩ := few_eq a0
  rw [awake16, Option.bind_some, if_neg (by decide), f1, Option.bind_some]
  cases b with
  | false => rfl
  | true =>
    rw [if_neg (by decide)]
    obtain ⟨g1, g2⟩ := f2 rfl
    rcases of_l a0 g1 g2 a0.length 0 (by omega) (by omega) with ⟨k1, k2, k3⟩ | ⟨j, c, k1, k2⟩
    · have e : symbols_Of 2000 a0 = some (some (tb a0), (a0.length : Int), 0) := of_new a0 (k1 2000 (by omega))
      rw [e, Option.bind_some]
      show bosketlaw16_SymbolsOf_l5 2000 a0 (some (tb a0), (a0.length : Int), 0) (tb a0) 2000 [] 0 = _
      have k3' := k2 (some (tb a0), (a0.length : Int), 0) (tb a0) 2000 (by omega)
      rw [Int.natCast_zero, List.take_zero] at k3'
      rw [k3']
      unfold bosketlaw16_SymbolsOf_c4
      simp only [ne_eq, not_true_eq_false, if_false, decide_false, Option.bind_some, Bool.false_eq_true]
      rw [names_eq a0 (by omega), Option.bind_some]
      have := over_l a0 (tb a0) a0.length (by omega) a0.length 0 2000 a0 rfl (by omega) (by omega)
      refine Eq.trans (by exact_mod_cast this) ?_
      unfold bosketlaw16_SymbolsOf_c2
      rw [names_eq a0 (by omega), Option.bind_some, same_eq _ (by omega)]; rfl
    · have e : symbols_Of 2000 a0 = some (none, j, c) := of_new a0 (k1 2000 (by omega))
      rw [e, Option.bind_some]
      have k3' := k2 2000 (by omega)
      rw [Int.natCast_zero, List.take_zero] at k3'
      exact k3'
end Go.Avl.T4
