/- Parts: T2P1, T2PureOpScripts. -/
import Derived.Test.YtmgiffbobkgcmaaAM1
import Derived.Test.YtmgiffbobkgcmaaAF3
import Derived.Test.YtmgiffbobkgcmaaAF4
import Derived.Test.YtmgiffbobkgcmaaAF2
/- Lines of a text. -/
namespace Go.Avl.T2
open Go Go.RowKit Go.Proofs Go.Avl
set_option linter.all false
set_option maxRecDepth 10000

/-- What the search for a line's end finds. -/
theorem nl_findL (s : ByteArray) (a : Nat) (ha : a ≤ s.size) : (idxByte (s.extract a s.size) 10 = -1 ∧ ∀ j : Nat, j < s.size - a → byteAt s ((a + j : Nat) : Int) ≠ 10) ∨
    ∃ i : Nat, idxByte (s.extract a s.size) 10 = i ∧ a + i < s.size ∧ byteAt s ((a + i : Nat) : Int) = 10 ∧ ∀ j : Nat, j < i → byteAt s ((a + j : Nat) : Int) ≠ 10 := by
  have hz : (s.extract a s.size).size = s.size - a := by rw [ByteArray.size_extract]; omega
  have hb : ∀ j : Nat, j < s.size - a → byteAt (s.extract a s.size) (j : Int) = byteAt s ((a + j : Nat) : Int) := by
    intro j hj
    have := byteAt_extract s a (s.size : Int) (j : Int) (by omega) (by omega) (by omega) (by omega) (by omega)
    simp only [Int.toNat_natCast] at this
    rw [this]; congr 1
  rcases find_idx (s.extract a s.size) 10 (by omega) with ⟨h1, h2⟩ | ⟨i, h1, h2, h3, h4⟩
  · left; exact ⟨h1, fun j hj => by rw [← hb j hj]; exact h2 j (by omega)⟩
  · right
    rw [hz] at h2
    refine ⟨i, h1, by omega, by rw [← hb i h2]; exact h3, fun j hj => by rw [← hb j (by omega)]; exact h4 j hj⟩

theorem w6 {x : Int} (h0 : -1000000000000 ≤ x) (h1 : x ≤ 1000000000000) : w64 x = x := w64_id (by omega) (by omega)
/-- The lines from a place on; the last begins there. -/
def LN (s : ByteArray) : Nat → Nat → Nat → List ByteArray
  | 0, from_, _ => [s.extract from_ s.size]
  | m + 1, from_, i => if byteAt s (i : Int) = 10 then s.extract from_ i :: LN s m (i + 1) (i + 1) else LN s m from_ (i + 1)
theorem LN_len (s : ByteArray) : ∀ (m from_ i : Nat), i + m = s.size → (LN s m from_ i).length + cnt s i = cnt s s.size + 1
  | 0, f, i, h => by rw [LN]; have : i = s.size := by omega
                     subst this; simp; omega
  | m + 1, f, i, h => by
    rw [LN]
    by_cases a : byteAt s (i : Int) = 10
    · have ih := LN_len s m (i + 1) (i + 1) (by omega)
      rw [cnt, if_pos a] at ih
      rw [if_pos a, List.length_cons]; omega
    · have ih := LN_len s m f (i + 1) (by omega)
      rw [cnt, if_neg a] at ih
      rw [if_neg a]; omega
theorem LN_skip (s : ByteArray) : ∀ (d m from_ i : Nat), i + m = s.size → d ≤ m → (∀ z, z < d → byteAt s ((i + z : Nat) : Int) ≠ 10) → LN s m from_ i = LN s (m - d) from_ (i + d)
  | 0, m, f, i, _, _, _ => rfl
  | d + 1, m, f, i, h, hd, hz => by
    obtain ⟨m, rfl⟩ : ∃ q, m = q + 1 := ⟨m - 1, by omega⟩
    have h0 := hz 0 (by omega)
    rw [Nat.add_zero] at h0
    rw [LN, if_neg h0, LN_skip s d m f (i + 1) (by omega) (by omega) (fun z hz' => by have := hz (z + 1) (by omega); rwa [show i + 1 + z = i + (z + 1) by omega])]
    rw [show m + 1 - (d + 1) = m - d by omega, show i + 1 + d = i + (d + 1) by omega]
theorem cnt_le (s : ByteArray) : ∀ i, cnt s i ≤ i
  | 0 => Nat.le_refl _
  | i + 1 => by have := cnt_le s i; rw [cnt]; split <;> omega
theorem cnt_mono (s : ByteArray) (i : Nat) : ∀ d, cnt s i ≤ cnt s (i + d)
  | 0 => Nat.le_refl _
  | d + 1 => by have := cnt_mono s i d; rw [show i + (d + 1) = (i + d) + 1 by omega, cnt]; omega
/-! The document's lines. -/
theorem rl_l (s : ByteArray) (hs : s.size ≤ 1000) : ∀ (m i fuel from_ : Nat) (x : List ByteArray), i + m = s.size → m < fuel → from_ ≤ i → x.length ≤ i → bosketref13_Lines_l2 2000 s fuel x (from_ : Int) (i : Int) = some (x ++ LN s m from_ i)
  | 0, i, f + 1, from_, x, h, _, hfi, hx => by
    have hi : i = s.size := by omega
    rw [bosketref13_Lines_l2.eq_2, if_neg (by omega)]
    unfold bosketref13_Lines_c0
    rw [if_pos ⟨by omega, by omega, by omega⟩, if_pos (by simp; omega)]
    simp [LN]
  | m + 1, i, f + 1, from_, x, h, hf, hfi, hx => by
    rw [bosketref13_Lines_l2.eq_2, if_pos (by omega), if_pos ⟨by omega, by omega⟩, LN]
    unfold bosketref13_Lines_c1
    rw [w6 (x := (i : Int) + 1) (by omega) (by omega)]
    by_cases a : byteAt s (i : Int) = 10
    · have ih := rl_l s hs m (i + 1) f (i + 1) (x ++ [s.extract from_ i]) (by omega) (by omega) (by omega) (by simp; omega)
      rw [if_pos a, if_pos a, if_pos ⟨by omega, by omega, by omega⟩, if_pos (by simp; omega), Int.toNat_natCast, Int.toNat_natCast]
      rw [List.append_assoc] at ih
      exact_mod_cast ih
    · have ih := rl_l s hs m (i + 1) f from_ x (by omega) (by omega) (by omega) (by omega)
      rw [if_neg a, if_neg a]
      exact_mod_cast ih
theorem ex_ex (s : ByteArray) (a b : Nat) (h : a + b ≤ s.size) : (s.extract a s.size).extract b (s.extract a s.size).size = s.extract (a + b) s.size := by
  have hz : (s.extract a s.size).size = s.size - a := by rw [ByteArray.size_extract]; omega
  rw [hz]
  apply ByteArray.ext
  rw [ByteArray.data_extract, ByteArray.data_extract, ByteArray.data_extract, Array.extract_extract]
  congr 1; omega
theorem ex_pre (s : ByteArray) (a b : Nat) (h : a + b ≤ s.size) : (s.extract a s.size).extract 0 b = s.extract a (a + b) := by
  apply ByteArray.ext
  rw [ByteArray.data_extract, ByteArray.data_extract, ByteArray.data_extract, Array.extract_extract]
  congr 1; omega
def NL : ByteArray := ByteArray.mk #[10]
theorem index_eqL (t : ByteArray) : internal_stringslite_Index 2000 t NL = some (if t = NL then 0 else idxByte t 10) := by
  unfold internal_stringslite_Index
  rw [if_neg (by decide), Option.bind_some]
  by_cases a : t = NL
  · rw [if_pos a, decide_eq_true a.symm, if_pos rfl]
  · rw [if_neg a, decide_eq_false (fun e => a e.symm), if_neg (by decide), if_pos (by decide), if_pos (by decide)]; rfl
theorem idx_NL : idxByte NL 10 = 0 := by decide +kernel
theorem index_eqL' (t : ByteArray) : internal_stringslite_Index 2000 t NL = some (idxByte t 10) := by
  rw [index_eqL]
  by_cases a : t = NL
  · rw [if_pos a, a, idx_NL]
  · rw [if_neg a]

theorem cut_L (s : ByteArray) (hs : s.size ≤ 1000000) (a : Nat) (ha : a ≤ s.size) : (strings_Cut 2000 (s.extract a s.size) NL = some (s.extract a s.size, ByteArray.mk #[], false) ∧ ∀ j : Nat, j < s.size - a → byteAt s ((a + j : Nat) : Int) ≠ 10) ∨
    ∃ d : Nat, a + d < s.size ∧ byteAt s ((a + d : Nat) : Int) = 10 ∧ (∀ j : Nat, j < d → byteAt s ((a + j : Nat) : Int) ≠ 10) ∧ strings_Cut 2000 (s.extract a s.size) NL = some (s.extract a (a + d), s.extract (a + d + 1) s.size, true) := by
  have hz : (s.extract a s.size).size = s.size - a := by rw [ByteArray.size_extract]; omega
  rcases nl_findL s a ha with ⟨h1, h2⟩ | ⟨d, h1, h2, h3, h4⟩
  · left
    refine ⟨?_, h2⟩
    unfold strings_Cut internal_stringslite_Cut
    rw [index_eqL', h1, Option.bind_some, if_neg (by decide), Option.bind_some]
  · right
    refine ⟨d, h2, h3, h4, ?_⟩
    unfold strings_Cut internal_stringslite_Cut
    rw [index_eqL', h1, Option.bind_some, if_pos (by omega), if_pos ⟨by omega, by omega, by omega⟩, show ((NL.size : Nat) : Int) = 1 from rfl, w6 (x := (d : Int) + 1) (by omega) (by omega), if_pos ⟨by omega, by omega, by omega⟩, Option.bind_some, show ((d : Int) + 1).toNat = d + 1 by omega, Int.toNat_natCast, Int.toNat_natCast, ex_ex s a (d + 1) (by omega), show (0 : Int).toNat = 0 from rfl, ex_pre s a d (by omega)]
    rfl
end Go.Avl.T2
/- OpScripts: the plain law. -/
namespace Go.Avl.T2
open Go Go.RowKit Go.Proofs Go.Avl
set_option linter.all false
set_option maxRecDepth 10000

theorem awake47s : bosketlaw47_awake 2000 = some true := by decide +kernel
theorem bget (t : List ByteArray) (i : Nat) (h : i < t.length) : lget t (i : Int) = t[i] := by simp [lget, List.getD, List.getElem?_eq_getElem h]
theorem oget (l : List S55) (i : Nat) (h : i < l.length) : lget l (i : Int) = l[i] := by simp [lget, List.getD, List.getElem?_eq_getElem h]
theorem rget (l : List S60) (i : Nat) (h : i < l.length) : lget l (i : Int) = l[i] := by simp [lget, List.getD, List.getElem?_eq_getElem h]
theorem same_l (l : List S55) (hz : l.length ≤ 1000) : ∀ (m i fuel : Nat), i + m = l.length → m < fuel → bosketlaw47_Same_l1 2000 l (l.map ref) fuel (i : Int) = some true
  | 0, i, f + 1, h, _ => by rw [bosketlaw47_Same_l1.eq_2, if_neg (by omega)]; rfl
  | m + 1, i, f + 1, h, hf => by
    have hi : i < l.length := by omega
    have ih := same_l l hz m (i + 1) f (by omega) (by omega)
    have hr : lget (l.map ref) (i : Int) = ref l[i] := by rw [rget _ i (by simpa using hi), List.getElem_map]
    rw [bosketlaw47_Same_l1.eq_2, if_pos (by omega), if_pos ⟨by omega, by omega⟩, oget l i hi, bosketlaw47_Ref, Option.bind_some, if_pos ⟨by omega, by simp; omega⟩, hr, decide_eq_true (by rfl), if_neg (by decide), w6 (by omega) (by omega)]
    exact_mod_cast ih
theorem same_eq (l : List S55) (hz : l.length ≤ 1000) : bosketlaw47_Same 2000 l (l.map ref) = some true := by
  unfold bosketlaw47_Same
  rw [if_neg (by simp)]
  exact same_l l hz l.length 0 2000 (by omega) (by omega)
/-- Both come out alike. -/
def Alike (r : List S55 × Int × Int) (w : List S60 × Int) : Prop := r.2.1 = w.2 ∧ w.1 = r.1.map ref ∧ r.1.length ≤ 1000 ∧ (w.2 ≠ 0 → r.2.2 = 24) ∧ (w.2 = 0 → r.2.2 = 0)
theorem scr_l (s : ByteArray) (hs : s.size ≤ 600) (t : List ByteArray) (htl : t.length ≤ 601) : ∀ (m from_ i f1 f2 : Nat) (out : List S55), from_ ≤ s.size → m = s.size - from_ → t.drop i = LN s m from_ from_ → i < t.length → t.length - i < f1 → t.length - i < f2 → out.length ≤ i →
    ∃ r w, op_Script_l 2000 f1 (s.extract from_ s.size) ((i + 1 : Nat) : Int) out = some r ∧ bosketref47_Script_l2 2000 t f2 (out.map ref) (i : Int) = some w ∧ Alike r w := by
  intro m
  induction m using Nat.strongRecOn with
  | ind m ih =>
    intro from_ i f1 f2 out hf hm hd hi h1 h2 ho
    obtain ⟨f1, rfl⟩ : ∃ q, f1 = q + 1 := ⟨f1 - 1, by omega⟩
    obtain ⟨f2, rfl⟩ : ∃ q, f2 = q + 1 := ⟨f2 - 1, by omega⟩
    have hz : (s.extract from_ s.size).size = s.size - from_ := by rw [ByteArray.size_extract]; omega
    -- the line, what is behind it
    have main : ∀ (line rest : ByteArray) (more : Bool), strings_Cut 2000 (s.extract from_ s.size) NL = some (line, rest, more) → t[i]? = some line → line.size ≤ 1000 →
        (∀ out' : List S55, out'.length ≤ i + 1 → ∃ r w, op_Script_c (op_Script_l 2000 f1) (line, rest, more) ((i + 1 : Nat) : Int) out' = some r ∧ bosketref47_Script_c1 2000 (bosketref47_Script_l2 2000 t f2) (i : Int) (out'.map ref) = some w ∧ Alike r w) →
        ∃ r w, op_Script_l 2000 (f1 + 1) (s.extract from_ s.size) ((i + 1 : Nat) : Int) out = some r ∧ bosketref47_Script_l2 2000 t (f2 + 1) (out.map ref) (i : Int) = some w ∧ Alike r w := by
      intro line rest more hc hl hls hn
      have hg : lget t (i : Int) = line := by
        rw [bget t i hi]; rw [List.getElem?_eq_getElem hi] at hl; exact Option.some.inj hl
      have hc' : strings_Cut 2000 (s.extract from_ s.size) (ByteArray.mk #[10]) = _ := hc
      have hin : 0 ≤ (i : Int) ∧ (i : Int) < (t.length : Int) := ⟨by omega, by omega⟩
      have hR : bosketref47_Script_l2 2000 t (f2 + 1) (out.map ref) (i : Int) = Option.bind (α := Bool) (if line = ByteArray.mk #[] then some true else if 0 ≤ (0 : Int) ∧ (0 : Int) < (line.size : Int) then some (decide (byteAt line 0 = (35 : Int))) else none) (fun b13 => if b13 = true then bosketref47_Script_c1 2000 (bosketref47_Script_l2 2000 t f2) (i : Int) (out.map ref) else (bosketref47_Read 2000 line).bind fun t21 => if (!t21.2) = true then some ([], (w64 ((i : Int) + 1))) else if ((out.map ref) ++ ([t21.1] : List S60)).length * 32 ≤ 140737488355328 then bosketref47_Script_c1 2000 (bosketref47_Script_l2 2000 t f2) (i : Int) ((out.map ref) ++ ([t21.1] : List S60)) else none) := by
        rw [bosketref47_Script_l2.eq_2, if_pos hin.2, if_pos hin, if_pos hin, if_pos hin, hg]
      rw [hR, op_Script_l, hc', Option.bind_some]
      dsimp only
      have go : ∀ b : Bool, b = false → ¬ (line = ByteArray.mk #[] ∨ byteAt line 0 = 35) → ∃ r w, (if line = ByteArray.mk #[] ∨ byteAt line 0 = 35 then op_Script_c (op_Script_l 2000 f1) (line, rest, more) ((i + 1 : Nat) : Int) out
          else (op_Read 2000 line).bind fun r => if r.2 ≠ (0 : Int) then some ([], ((i + 1 : Nat) : Int), r.2) else if (out ++ [r.1]).length * 32 ≤ 140737488355328 then op_Script_c (op_Script_l 2000 f1) (line, rest, more) ((i + 1 : Nat) : Int) (out ++ [r.1]) else none) = some r ∧
          (if b = true then bosketref47_Script_c1 2000 (bosketref47_Script_l2 2000 t f2) (i : Int) (out.map ref) else (bosketref47_Read 2000 line).bind fun t21 => if (!t21.2) = true then some ([], (w64 ((i : Int) + 1))) else if ((out.map ref) ++ ([t21.1] : List S60)).length * 32 ≤ 140737488355328 then bosketref47_Script_c1 2000 (bosketref47_Script_l2 2000 t f2) (i : Int) ((out.map ref) ++ ([t21.1] : List S60)) else none) = some w ∧ Alike r w := by
        intro b hb hq
        rw [hb, if_neg hq, if_neg (by decide)]
        rcases reads line hls with ⟨o, e1, e2⟩ | ⟨e1, e2⟩
        · obtain ⟨r, w, k1, k2, k3⟩ := hn (out ++ [o]) (by simp; omega)
          rw [List.map_append] at k2
          refine ⟨r, w, ?_, ?_, k3⟩
          · rw [e1, Option.bind_some, if_neg (by simp), if_pos (by simp; omega)]; exact k1
          · rw [e2, Option.bind_some, if_neg (by simp), if_pos (by simp; omega)]; exact k2
        · refine ⟨([], ((i + 1 : Nat) : Int), 24), ([], ((i + 1 : Nat) : Int)), ?_, ?_, ⟨rfl, rfl, by simp, fun _ => rfl, fun k => ?_⟩⟩
          · rw [e1, Option.bind_some]; rfl
          · rw [e2, Option.bind_some, w6 (by omega) (by omega)]; rfl
          · have k' : ((i + 1 : Nat) : Int) = 0 := k
            omega
      by_cases q1 : line = ByteArray.mk #[]
      · rw [if_pos (.inl q1), if_pos q1, Option.bind_some, if_pos rfl]
        exact hn out (by omega)
      · have hpos : 0 < line.size := by
          rcases Nat.eq_zero_or_pos line.size with h | h
          · exact absurd (by apply ByteArray.ext; apply Array.ext'; exact List.eq_nil_of_length_eq_zero (by rw [Array.length_toList]; exact h)) q1
          · exact h
        rw [if_neg q1, if_pos (show 0 ≤ (0 : Int) ∧ (0 : Int) < (line.size : Int) from ⟨by omega, by omega⟩), Option.bind_some]
        by_cases q2 : byteAt line 0 = 35
        · rw [if_pos (.inr q2), decide_eq_true q2, if_pos rfl]
          exact hn out (by omega)
        · exact go _ (decide_eq_false q2) (fun k => k.elim q1 q2)
    rcases cut_L s (by omega) from_ hf with ⟨c1, c2⟩ | ⟨d, c1, c2, c3, c4⟩
    · have hL : LN s m from_ from_ = [s.extract from_ s.size] := by
        rw [LN_skip s m m from_ from_ (by omega) (Nat.le_refl _) (fun z hz' => c2 z (by omega)), Nat.sub_self]; rfl
      have hlen : t.length = i + 1 := by
        have := congrArg List.length (hd.trans hL)
        simp at this; omega
      have hti : t[i]? = some (s.extract from_ s.size) := by
        have := congrArg (fun l : List ByteArray => l[0]?) (hd.trans hL)
        simpa [List.getElem?_drop] using this
      refine main _ _ _ c1 hti (by omega) (fun out' ho' => ⟨(out', 0, 0), (out'.map ref, 0), rfl, ?_, ⟨rfl, rfl, show out'.length ≤ 1000 by omega, fun k => absurd rfl k, fun _ => rfl⟩⟩)
      obtain ⟨g, rfl⟩ : ∃ g, f2 = g + 1 := ⟨f2 - 1, by omega⟩
      unfold bosketref47_Script_c1
      rw [w6 (by omega) (by omega), bosketref47_Script_l2.eq_2, if_neg (by omega)]; rfl
    · have hL : LN s m from_ from_ = s.extract from_ (from_ + d) :: LN s (m - d - 1) (from_ + d + 1) (from_ + d + 1) := by
        obtain ⟨q, hq⟩ : ∃ q, m - d = q + 1 := ⟨m - d - 1, by omega⟩
        rw [LN_skip s d m from_ from_ (by omega) (by omega) c3, hq, LN, if_pos c2]; rfl
      have hti : t[i]? = some (s.extract from_ (from_ + d)) := by
        have := congrArg (fun l : List ByteArray => l[0]?) (hd.trans hL)
        simpa [List.getElem?_drop] using this
      have htd : t.drop (i + 1) = LN s (m - d - 1) (from_ + d + 1) (from_ + d + 1) := by
        have := congrArg List.tail (hd.trans hL)
        rwa [List.tail_drop] at this
      have hpos : 0 < (LN s (m - d - 1) (from_ + d + 1) (from_ + d + 1)).length := by
        have := LN_len s (m - d - 1) (from_ + d + 1) (from_ + d + 1) (by omega)
        have := cnt_mono s (from_ + d + 1) (m - d - 1)
        rw [show from_ + d + 1 + (m - d - 1) = s.size by omega] at this
        omega
      have hi2 : i + 1 < t.length := by
        rw [← htd, List.length_drop] at hpos; omega
      refine main _ _ _ c4 hti (by rw [ByteArray.size_extract]; omega) (fun out' ho' => ?_)
      obtain ⟨r, w, k1, k2, k3⟩ := ih (m - d - 1) (by omega) (from_ + d + 1) (i + 1) f1 f2 out' (by omega) (by omega) htd hi2 (by omega) (by omega) ho'
      refine ⟨r, w, ?_, ?_, k3⟩
      · unfold op_Script_c
        rw [if_pos rfl, w6 (by omega) (by omega)]
        exact_mod_cast k1
      · unfold bosketref47_Script_c1
        rw [w6 (by omega) (by omega)]
        exact_mod_cast k2
theorem bosketlaw47_OpScripts_true (a0 : ByteArray) (h0 : wf9 a0) (h1 : a0.size ≤ 140737488351232) : ∃ k, bosketlaw47_OpScripts k a0 = some true := by
  refine ⟨2000, ?_⟩
  unfold bosketlaw47_OpScripts
  rw [awake47s, Option.bind_some, if_neg (by decide)]
  by_cases z : (600 : Int) < (a0.size : Int)
  · rw [if_pos z]
  have hlen := LN_len a0 a0.size 0 0 (by omega)
  have hc := cnt_le a0 a0.size
  rw [show cnt a0 0 = 0 from rfl, Nat.add_zero] at hlen
  have e1 : bosketref13_Lines 2000 a0 = some (LN a0 a0.size 0 0) := rl_l a0 (by omega) a0.size 0 2000 0 [] (by omega) (by omega) (by omega) (by simp)
  have e0 : a0.extract 0 a0.size = a0 := by
    apply ByteArray.ext
    rw [ByteArray.data_extract]
    exact Array.extract_size
  obtain ⟨r, w, r1, r2, k1, k2, k3, k4, k5⟩ := scr_l a0 (by omega) (LN a0 a0.size 0 0) (by omega) a0.size 0 0 2000 2000 [] (by omega) (by omega) (by simp) (by omega) (by omega) (by omega) (by simp)
  rw [e0] at r1
  have s1 : op_Script 2000 a0 = some r := r1
  have s2 : bosketref47_Script 2000 a0 = some w := by
    unfold bosketref47_Script
    rw [e1, Option.bind_some]; exact r2
  rw [if_neg z, s1, Option.bind_some, s2, Option.bind_some, if_neg (by simpa using k1), k2, same_eq r.1 k3, Option.bind_some, Option.bind_some, if_neg (by decide)]
  by_cases q : w.2 = 0
  · rw [if_neg (by simpa using q), k5 q]; rfl
  · rw [if_pos q, k4 q]; rfl
end Go.Avl.T2
