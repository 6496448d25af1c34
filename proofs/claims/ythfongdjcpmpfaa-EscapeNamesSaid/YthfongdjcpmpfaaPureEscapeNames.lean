/- What any byte is, and which texts are names, is the same in the program and in the reference: the printed pure statement of EscapeNames, for every byte and every text of at most 140737488351232 bytes. -/
import Derived.Test.YthfongdjcpmpfaaPEscapeNamesx3
namespace Go.Proofs.Ythfongdjcpmpfaa.Pure
open Go.RowKit Go.Proofs.Ythfongdjcpmpfaa.PEscapeNames Go.Proofs.YthfongdjcpmpfaaW.PrintWords Go.Proofs.YthfongdjcpmpfaaW.PrintLast

theorem awake_at : bosketlaw03_awake.f 20 = some true := by decide +kernel
/-- Both classes of each byte, by trying all. -/
def cls (n : Nat) : Int := (escape_Class.f 10 (n : Int)).getD 9
theorem cls_code_nat : ∀ n : Nat, n < 256 → escape_Class.f 10 (n : Int) = some (cls n) := by decide +kernel
theorem cls_ref_nat : ∀ n : Nat, n < 256 → bosketref03_Class.f 80 (n : Int) = some (cls n) := by decide +kernel

theorem cls_code (k : Nat) (c : Int) (h0 : 0 ≤ c) (h1 : c ≤ 255) (hk : 10 ≤ k) : escape_Class.f k c = some (cls c.toNat) := by
  obtain ⟨n, rfl⟩ := Int.eq_ofNat_of_zero_le h0
  exact at_rounds (escape_Class.mono _) hk (cls_code_nat n (by omega))
theorem cls_ref (k : Nat) (c : Int) (h0 : 0 ≤ c) (h1 : c ≤ 255) (hk : 80 ≤ k) : bosketref03_Class.f k c = some (cls c.toNat) := by
  obtain ⟨n, rfl⟩ := Int.eq_ofNat_of_zero_le h0
  exact at_rounds (bosketref03_Class.mono _) hk (cls_ref_nat n (by omega))

/-- Are the bytes from i on letters and digits? -/
def tail (s : ByteArray) : Nat → Nat → Bool
  | 0, _ => true
  | d + 1, i => (cls (bt s i).toNat == 3 || cls (bt s i).toNat == 2) && tail s d (i + 1)

theorem w_next {i n : Nat} (h : i < n) (hn : n ≤ 140737488351232) : wrap64 ((i : Int) + 1) = ((i + 1 : Nat) : Int) := by unfold wrap64; omega

theorem code_loop (s : ByteArray) (hn : s.size ≤ 140737488351232) : ∀ (d i k : Nat), i + d = s.size → d + 20 ≤ k →
    escape_Name.l0 k s (s.size : Int) (i : Int) = some (tail s d i) := by
  intro d
  induction d with
  | zero =>
    intro i k hi hk
    obtain ⟨k, rfl⟩ : ∃ m, k = m + 1 := ⟨k - 1, by omega⟩
    simp only [escape_Name.l0]
    rw [if_neg (by omega)]; rfl
  | succ d ih =>
    intro i k hi hk
    obtain ⟨k, rfl⟩ : ∃ m, k = m + 1 := ⟨k - 1, by omega⟩
    have hr := bt_range s (i : Int)
    simp only [escape_Name.l0]
    rw [if_pos (by omega), if_pos (by omega), if_pos (by omega), cls_code k _ hr.1 hr.2 (by omega)]
    simp only [Option.bind_some, tail]
    rw [w_next (by omega) hn, ih (i + 1) k (by omega) (by omega)]
    by_cases h2 : cls (bt s i).toNat = 2
    · rw [if_pos h2]; simp [h2]
    · rw [if_neg h2]
      by_cases h3 : cls (bt s i).toNat = 3
      · rw [if_pos h3]; simp [h3]
      · rw [if_neg h3]; simp [h2, h3]

def name (s : ByteArray) : Bool := decide (1 ≤ s.size ∧ s.size ≤ 40) && cls (bt s 0).toNat == 3 && tail s s.size 0

theorem ref_loop (s : ByteArray) (hn : s.size ≤ 140737488351232) : ∀ (d i k : Nat), i + d = s.size → d + 90 ≤ k →
    bosketref03_Name.l0 k s (i : Int) = some (decide (1 ≤ s.size ∧ s.size ≤ 40) && (decide (i ≠ 0 ∨ d = 0) || cls (bt s 0).toNat != 2) && tail s d i) := by
  intro d
  induction d with
  | zero =>
    intro i k hi hk
    obtain ⟨k, rfl⟩ : ∃ m, k = m + 1 := ⟨k - 1, by omega⟩
    simp only [bosketref03_Name.l0]
    rw [if_neg (by omega)]
    by_cases h : 1 ≤ s.size
    · rw [if_pos (by omega)]; simp [tail, h]; omega
    · rw [if_neg (by omega)]; simp [h]
  | succ d ih =>
    intro i k hi hk
    obtain ⟨k, rfl⟩ : ∃ m, k = m + 1 := ⟨k - 1, by omega⟩
    have hr := bt_range s (i : Int)
    simp only [bosketref03_Name.l0]
    rw [if_pos (by omega), if_pos (by omega), cls_ref k _ hr.1 hr.2 (by omega)]
    simp only [Option.bind_some, tail]
    rw [w_next (by omega) hn, ih (i + 1) k (by omega) (by omega)]
    by_cases h3 : cls (bt s i).toNat = 3
    · rw [if_pos h3]
      by_cases hz : i = 0
      · subst hz; simp at h3; simp [h3]
      · simp [h3, hz]
    · rw [if_neg h3]
      by_cases h2 : cls (bt s i).toNat = 2
      · rw [if_pos h2]
        by_cases hz : i = 0
        · subst hz; simp at h2; simp [h2]
        · rw [if_neg (by omega)]; simp [h2, hz]
      · rw [if_neg h2]; simp [h2, h3]

theorem ref_name (s : ByteArray) (hn : s.size ≤ 140737488351232) (k : Nat) (hk : s.size + 90 ≤ k) : bosketref03_Name.f k s = some (name s) := by
  unfold bosketref03_Name.f
  have := ref_loop s hn s.size 0 k (by omega) hk
  simp only [Int.natCast_zero] at this
  rw [this]
  unfold name
  by_cases h0 : s.size = 0
  · simp [h0]
  · obtain ⟨d, hd⟩ : ∃ d, s.size = d + 1 := ⟨s.size - 1, by omega⟩
    rw [hd]
    simp only [tail]
    by_cases h2 : cls (bt s 0).toNat = 2
    · simp [h2]
    · by_cases h3 : cls (bt s 0).toNat = 3
      · simp [h3]
      · simp [beq_eq_false_iff_ne.mpr h2, beq_eq_false_iff_ne.mpr h3]

theorem code_name (s : ByteArray) (hn : s.size ≤ 140737488351232) (k : Nat) (hk : s.size + 30 ≤ k) : escape_Name.f k s = some (name s) := by
  unfold escape_Name.f
  obtain ⟨k, rfl⟩ : ∃ m, k = m + 1 := ⟨k - 1, by omega⟩
  have hl := code_loop s hn s.size 0 k (by omega) (by omega)
  simp only [Int.natCast_zero] at hl
  unfold name
  by_cases h40 : (s.size : Int) > 40
  · rw [if_pos h40]; simp only [escape_Name.j0]
    have : ¬ s.size ≤ 40 := by omega
    simp [this]
  · rw [if_neg h40]
    by_cases h0 : s.size = 0
    · rw [if_pos (by rw [List.eq_nil_iff_length_eq_zero, ByteArray.toList_eq]; simpa using h0)]
      simp [escape_Name.j0, h0]
    · rw [if_neg (by rw [List.eq_nil_iff_length_eq_zero]; intro h; apply h0; simpa [ByteArray.toList_eq] using h), if_pos (by omega)]
      have hr := bt_range s 0
      rw [cls_code (k + 1) _ hr.1 hr.2 (by omega)]
      simp only [Option.bind_some, escape_Name.j0]
      rw [hl]
      have h1 : 1 ≤ s.size := by omega
      have h2 : s.size ≤ 40 := by omega
      by_cases h3 : cls (bt s 0).toNat = 3
      · simp [h3, h1, h2]
      · simp [h3]

theorem EscapeNames : bosketlaw03_EscapeNames.Pure := by
  intro c s hc hn
  have hc' : 0 ≤ c ∧ c ≤ 255 := by simp [Lit.wf, show IntKind.u8.min = 0 from rfl, show IntKind.u8.max = 255 from rfl] at hc; omega
  refine ⟨s.size + 100, ?_⟩
  unfold bosketlaw03_EscapeNames.f escape_Check.f
  rw [at_rounds (bosketlaw03_awake.mono) (show 20 ≤ s.size + 100 by omega) awake_at]
  simp only [Option.bind_some, if_true]
  by_cases h : (s.size : Int) > 300
  · rw [if_pos h]
  · rw [if_neg h, ref_name s hn _ (by omega), code_name s hn _ (by omega), cls_code _ c hc'.1 hc'.2 (by omega), cls_ref _ c hc'.1 hc'.2 (by omega)]
    cases name s <;> simp
end Go.Proofs.Ythfongdjcpmpfaa.Pure
