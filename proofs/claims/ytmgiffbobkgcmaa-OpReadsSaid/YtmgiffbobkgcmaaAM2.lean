/- Parts: T2PureOpReads. -/
import Derived.Test.YtmgiffbobkgcmaaAM1
/- OpReads: the plain law. -/
namespace Go.Avl.T2
open Go Go.RowKit Go.Proofs Go.Avl
set_option linter.all false
set_option maxRecDepth 10000

theorem awake47r : bosketlaw47_awake 2000 = some true := by decide +kernel
def ref (o : S55) : S60 := ⟨o.f0, o.f1, o.f2⟩
theorem ref_inj {o p : S55} (h : ref o = ref p) : o = p := by
  cases o; cases p; simp [ref] at h; simp [h]
def RErr : S60 × Bool := (⟨0, 0, ByteArray.empty⟩, false)
/-- What the reference finds from a kind on. -/
def RGot (line : ByteArray) (i : Int) (r : S60 × Bool) : Prop :=
  (∃ o : S55, r = (ref o, true) ∧ rt o = true ∧ ln o = line ∧ I64 o.f1 ∧ o.f2.size ≤ 1000) ∨ (r = RErr ∧ ∀ o : S55, rt o = true → I64 o.f1 → o.f2.size ≤ 1000 → ln o = line → i ≤ o.f0 → False)
theorem RGot.step {line : ByteArray} {i : Int} {r : S60 × Bool} (h : RGot line (i + 1) r) (hn : ∀ o : S55, rt o = true → I64 o.f1 → o.f2.size ≤ 1000 → ln o = line → o.f0 = i → False) : RGot line i r := by
  rcases h with h | ⟨h1, h2⟩
  · exact .inl h
  · refine .inr ⟨h1, fun o a b c d e => ?_⟩
    by_cases f : o.f0 = i
    · exact hn o a b c d f
    · exact h2 o a b c d (by omega)
theorem c2_got {line : ByteArray} {i : Nat} (hi : 1 ≤ i ∧ i ≤ 11) (rec4 : Int → Option (S60 × Bool)) (x15 : ByteArray) (x17 : Int) (hx : x15.size ≤ 1000) (hn : I64 x17)
    (hrec : ∃ r, rec4 ((i + 1 : Nat) : Int) = some r ∧ RGot line ((i : Int) + 1) r) (hne : 0 < line.size)
    (hu : ∀ o : S55, rt o = true → I64 o.f1 → o.f2.size ≤ 1000 → ln o = line → o.f0 = i → o.f1 = x17 ∧ o.f2 = x15) :
    ∃ r, bosketref47_Read_c2 2000 rec4 line i x15 x17 = some r ∧ RGot line i r := by
  unfold bosketref47_Read_c2 bosketref47_Read_c1
  have hl := (line_eq (o := ⟨i, x17, x15⟩) hn hx).2
  dsimp only at hl
  rw [hl, Option.bind_some]
  by_cases a : ln ⟨i, x17, x15⟩ = line
  · rw [if_pos a]
    have hr : rt ⟨i, x17, x15⟩ = true := by
      cases b : rt ⟨i, x17, x15⟩
      · unfold ln at a; rw [b, if_neg (by decide)] at a; rw [← a, emp_size] at hne; omega
      · rfl
    exact ⟨_, rfl, .inl ⟨⟨i, x17, x15⟩, rfl, hr, a, hn, hx⟩⟩
  · obtain ⟨r, r1, r2⟩ := hrec
    rw [if_neg a, w64_id (by omega) (by omega)]
    refine ⟨r, by exact_mod_cast r1, r2.step fun o h1 h2 h3 h4 h5 => ?_⟩
    obtain ⟨e1, e2⟩ := hu o h1 h2 h3 h4 h5
    apply a
    rw [← e1, ← e2, ← h5]
    exact h4
theorem c3_got {line : ByteArray} {i : Nat} (hi : 1 ≤ i ∧ i ≤ 11) (rec4 : Int → Option (S60 × Bool)) (x15 x16 : ByteArray) (hx : x15.size ≤ 1000) (hz : x16.size ≤ 1000)
    (hrec : ∃ r, rec4 ((i + 1 : Nat) : Int) = some r ∧ RGot line ((i : Int) + 1) r) (hne : 0 < line.size)
    (hu : ∀ o : S55, rt o = true → I64 o.f1 → o.f2.size ≤ 1000 → ln o = line → o.f0 = i → x16 = numt o ∧ o.f2 = x15) :
    ∃ r, bosketref47_Read_c3 2000 rec4 line i x15 x16 = some r ∧ RGot line i r := by
  unfold bosketref47_Read_c3
  by_cases a : (0 : Int) < (x16.size : Int)
  · have hz2 : (x16.extract (1 : Int).toNat (x16.size : Int).toNat).size ≤ 1000 := by rw [ByteArray.size_extract]; omega
    rw [if_pos a, if_pos ⟨by omega, by omega, by omega⟩, (num_all (by omega)).2, Option.bind_some]
    refine c2_got hi rec4 x15 _ hx (sn_i64 _) hrec hne fun o h1 h2 h3 h4 h5 => ?_
    obtain ⟨e1, e2⟩ := hu o h1 h2 h3 h4 h5
    refine ⟨?_, e2⟩
    have hn : (fm o.f0).2.2 = true := by
      cases b : (fm o.f0).2.2
      · unfold numt at e1; rw [b, if_neg (by decide)] at e1; rw [e1, emp_size] at a; omega
      · rfl
    have e3 : x16 = B32 ++ strOfNums (D o.f1) := by rw [e1]; unfold numt; rw [if_pos hn]
    have e4 : x16.extract (1 : Int).toNat (x16.size : Int).toNat = strOfNums (D o.f1) := by
      rw [e3]
      have := extract_right B32 (strOfNums (D o.f1))
      rw [B32_size] at this
      rw [show (1 : Int).toNat = 1 from rfl, Int.toNat_natCast]; exact this
    rw [e4]
    have hb := num_all (s := strOfNums (D o.f1)) (by rw [strOfNums_size]; have := D_len h2; omega)
    have hc := num_eq (D_byt h2) (by have := D_len h2; omega)
    rw [hb.1, sn_D h2] at hc
    have := Option.some.inj hc
    rw [this]
  · rw [if_neg a]
    have e0 : x16 = ByteArray.mk #[] := size0 (by omega)
    refine c2_got hi rec4 x15 0 hx (by unfold I64; omega) hrec hne fun o h1 h2 h3 h4 h5 => ?_
    obtain ⟨e1, e2⟩ := hu o h1 h2 h3 h4 h5
    refine ⟨?_, e2⟩
    have hn : (fm o.f0).2.2 = false := by
      cases b : (fm o.f0).2.2
      · rfl
      · unfold numt at e1; rw [b, if_pos rfl] at e1; rw [e0] at e1
        have := congrArg ByteArray.size e1
        rw [emp_size, ByteArray.size_append, B32_size] at this; omega
    exact rt_num h1 hn
theorem ref_l (line : ByteArray) (hz : line.size ≤ 1000) : ∀ (m i fuel : Nat), i + m = 12 → m < fuel → 1 ≤ i → ∃ r, bosketref47_Read_l4 2000 line fuel i = some r ∧ RGot line i r
  | 0, i, f + 1, h, _, _ => by
    rw [bosketref47_Read_l4.eq_2, if_neg (by omega)]
    refine ⟨_, rfl, .inr ⟨rfl, fun o h1 _ _ _ h5 => ?_⟩⟩
    have := rt_kind h1; omega
  | m + 1, i, f + 1, h, hf, h1 => by
    obtain ⟨r, r1, r2⟩ := ref_l line hz m (i + 1) f (by omega) (by omega) (by omega)
    have hk : 1 ≤ (i : Int) ∧ (i : Int) ≤ 11 := by omega
    have hi : 1 ≤ i ∧ i ≤ 11 := by omega
    obtain ⟨w1, w2, w3⟩ := word_ok hk
    have r2' : RGot line ((i : Int) + 1) r := by exact_mod_cast r2
    have hrec : ∃ r, (bosketref47_Read_l4 2000 line f) ((i + 1 : Nat) : Int) = some r ∧ RGot line ((i : Int) + 1) r := ⟨r, r1, r2'⟩
    have lno : ∀ o : S55, rt o = true → ln o = line → o.f0 = i → line = (fm i).1 ++ tail o := by
      intro o a b c
      rw [← b, ← c]; unfold ln; rw [if_pos a]
    have next : ∀ (hn : ∀ o : S55, rt o = true → I64 o.f1 → o.f2.size ≤ 1000 → ln o = line → o.f0 = i → False), ∃ r, bosketref47_Read_c1 2000 (bosketref47_Read_l4 2000 line f) i = some r ∧ RGot line i r := by
      intro hn
      unfold bosketref47_Read_c1
      rw [w64_id (by omega) (by omega)]
      exact ⟨r, by exact_mod_cast r1, r2'.step hn⟩
    rw [bosketref47_Read_l4.eq_2, if_pos (by omega), (form_eq i).2, Option.bind_some]
    by_cases a : (line.size : Int) < ((fm i).1.size : Int)
    · rw [if_pos a, Option.bind_some, if_pos rfl]
      refine next fun o h1 h2 h3 h4 h5 => ?_
      have := lno o h1 h4 h5
      have := congrArg ByteArray.size this
      rw [ByteArray.size_append] at this; omega
    · rw [if_neg a, if_pos ⟨by omega, by omega, by omega⟩, Option.bind_some]
      by_cases b : line.extract (0 : Int).toNat ((fm i).1.size : Int).toNat ≠ (fm i).1
      · rw [if_pos (decide_eq_true b)]
        refine next fun o h1 h2 h3 h4 h5 => b ?_
        rw [lno o h1 h4 h5, show (0 : Int).toNat = 0 from rfl, Int.toNat_natCast]; exact extract_left _ _
      · rw [if_neg (by simpa using b), if_pos ⟨by omega, by omega, by omega⟩]
        have hne : 0 < line.size := by omega
        generalize hR : line.extract ((fm i).1.size : Int).toNat (line.size : Int).toNat = R
        have hRz : R.size ≤ 1000 := by rw [← hR, ByteArray.size_extract]; omega
        have lnR : ∀ o : S55, rt o = true → ln o = line → o.f0 = i → R = tail o := by
          intro o x y z
          rw [← hR, lno o x y z, Int.toNat_natCast, Int.toNat_natCast]; exact extract_right _ _
        by_cases c : (fm i).2.1 = true
        · rw [if_pos c, Option.bind_some]
          by_cases d : (0 : Int) < (R.size : Int)
          · rw [if_pos (decide_eq_true d), if_pos ⟨by omega, by omega, by omega⟩]
            generalize hU : R.extract (1 : Int).toNat (R.size : Int).toNat = U
            have hUz : U.size ≤ 1000 := by rw [← hU, ByteArray.size_extract]; omega
            have hUz2 : U.size = R.size - 1 := by rw [← hU, ByteArray.size_extract]; simp
            obtain ⟨t, t1, t2, t3⟩ := unq_some (q := 34) (by decide) U hUz
            have lnU : ∀ o : S55, rt o = true → I64 o.f1 → o.f2.size ≤ 1000 → ln o = line → o.f0 = i → R = B32 ++ (Q o.f2 ++ numt o) ∧ t = (o.f2, ((Q o.f2).size : Int), true) := by
              intro o x1 x2 x3 y z
              have e1 : R = B32 ++ (Q o.f2 ++ numt o) := by rw [lnR o x1 y z]; unfold tail; rw [z, if_pos c]
              refine ⟨e1, ?_⟩
              have e2 : U = Q o.f2 ++ numt o := by
                rw [← hU, e1]
                have := extract_right B32 (Q o.f2 ++ numt o)
                rw [B32_size] at this
                rw [show (1 : Int).toNat = 1 from rfl, Int.toNat_natCast]; exact this
              have hns := numt_size x2
              rw [e2, Q_back x3 (by omega)] at t1
              exact (Option.some.inj t1).symm
            rw [t2, Option.bind_some]
            by_cases g : (!t.2.2) = true
            · rw [if_pos g]
              refine next fun o x1 x2 x3 y z => ?_
              rw [(lnU o x1 x2 x3 y z).2] at g; cases g
            · have t3 := t3 (by simpa using g)
              rw [if_neg g, w64_id (by omega) (by omega), if_pos ⟨by omega, by omega, by omega⟩, Option.bind_some]
              refine c3_got hi _ t.1 _ (by omega) (by rw [ByteArray.size_extract]; omega) hrec hne fun o x1 x2 x3 y z => ?_
              obtain ⟨e1, e2⟩ := lnU o x1 x2 x3 y z
              rw [e2]; dsimp only
              refine ⟨?_, rfl⟩
              rw [e1]
              have := extract_right (B32 ++ Q o.f2) (numt o)
              rw [app_assoc, ByteArray.size_append, B32_size] at this
              rw [show ((1 : Int) + ((Q o.f2).size : Int)).toNat = 1 + (Q o.f2).size by omega, Int.toNat_natCast]; exact this
          · rw [if_neg (by simpa using d)]
            refine c3_got hi _ _ R (by decide) hRz hrec hne fun o x1 x2 x3 y z => ?_
            have e1 : R = B32 ++ (Q o.f2 ++ numt o) := by rw [lnR o x1 y z]; unfold tail; rw [z, if_pos c]
            have := congrArg ByteArray.size e1
            rw [ByteArray.size_append, B32_size] at this; omega
        · rw [if_neg c, Option.bind_some, if_neg (by decide)]
          refine c3_got hi _ _ R (by decide) hRz hrec hne fun o x1 x2 x3 y z => ?_
          refine ⟨by rw [lnR o x1 y z]; unfold tail; rw [z, if_neg c], rt_text x1 (by rw [z]; simpa using c)⟩
theorem ref_eq (line : ByteArray) (hz : line.size ≤ 1000) : ∃ r, bosketref47_Read 2000 line = some r ∧ RGot line 1 r := ref_l line hz 11 1 2000 (by omega) (by omega) (by omega)
/-- Both read alike. -/
theorem reads (line : ByteArray) (hz : line.size ≤ 1000) : (∃ o : S55, op_Read 2000 line = some (o, 0) ∧ bosketref47_Read 2000 line = some (ref o, true)) ∨ (op_Read 2000 line = some Err ∧ bosketref47_Read 2000 line = some RErr) := by
  obtain ⟨r, r1, r2⟩ := read_got line hz
  obtain ⟨s, s1, s2⟩ := ref_eq line hz
  rcases s2 with ⟨o, o1, o2, o3, o4, o5⟩ | ⟨o1, o2⟩
  · left
    refine ⟨o, ?_, by rw [s1, o1]⟩
    rw [← o3]; exact read_line o2 o4 o5
  · right
    refine ⟨?_, by rw [s1, o1]⟩
    rcases r2 with e | ⟨e1, e2, e3, e4, e5⟩
    · rw [r1, e]
    · exact (o2 r.1 e2 e4 e5 e3 (rt_kind e2).1).elim
theorem kinds_l (w : ByteArray) : ∀ (m i fuel : Nat) (x : Int), i + m = 12 → m < fuel → 1 ≤ i → ((1 ≤ x ∧ x < i ∧ (fm x).1 = w) ∨ (x = 0 ∧ ∀ j : Int, 1 ≤ j → j < i → (fm j).1 ≠ w)) → bosketlaw47_OpReads_l2 2000 w fuel x i = some true
  | 0, i, f + 1, x, h, _, _, hx => by
    obtain ⟨r, k1, k2⟩ := kind_eq w
    rw [bosketlaw47_OpReads_l2.eq_2, if_neg (by omega), bosketlaw47_OpReads_c0, k1, Option.bind_some]
    have : r = x := by
      rcases hx with ⟨h1, h2, h3⟩ | ⟨h1, h2⟩
      · exact k2.one ⟨h1, by omega⟩ h3
      · rcases k2 with ⟨g1, g2, g3⟩ | ⟨g1, _⟩
        · exact absurd g3 (h2 r g1 (by omega))
        · omega
    rw [this]; simp
  | m + 1, i, f + 1, x, h, hf, h1, hx => by
    rw [bosketlaw47_OpReads_l2.eq_2, if_pos (by omega), (form_eq i).2, Option.bind_some]
    have hi : 1 ≤ (i : Int) ∧ (i : Int) ≤ 11 := by omega
    by_cases a : (fm i).1 = w
    · rw [if_pos a, bosketlaw47_OpReads_c1, w64_id (by omega) (by omega)]
      exact_mod_cast kinds_l w m (i + 1) f i (by omega) (by omega) (by omega) (.inl ⟨by omega, by omega, a⟩)
    · rw [if_neg a, bosketlaw47_OpReads_c1, w64_id (by omega) (by omega)]
      refine kinds_l w m (i + 1) f x (by omega) (by omega) (by omega) ?_
      rcases hx with ⟨h1, h2, h3⟩ | ⟨h1, h2⟩
      · exact .inl ⟨h1, by omega, h3⟩
      · refine .inr ⟨h1, fun j j1 j2 => ?_⟩
        by_cases b : j < i
        · exact h2 j j1 b
        · have : j = i := by omega
          subst this; exact a

theorem bosketlaw47_OpReads_true (a0 : ByteArray) (a1 : ByteArray) (h0 : wf9 a0) (h1 : a0.size ≤ 140737488351232) (h2 : wf9 a1) (h3 : a1.size ≤ 140737488351232) : ∃ k, bosketlaw47_OpReads k a0 a1 = some true := by
  refine ⟨2000, ?_⟩
  unfold bosketlaw47_OpReads
  rw [awake47r, Option.bind_some, if_neg (by decide)]
  by_cases z1 : (600 : Int) < (a0.size : Int)
  · rw [if_pos z1, Option.bind_some, if_pos rfl]
  rw [if_neg z1, Option.bind_some]
  by_cases z2 : (600 : Int) < (a1.size : Int)
  · rw [if_pos (decide_eq_true z2)]
  rw [if_neg (by simpa using z2)]
  have fin' : bosketlaw47_OpReads_l2 2000 a1 2000 0 1 = some true := kinds_l a1 11 1 2000 0 (by omega) (by omega) (by omega) (.inr ⟨rfl, fun j h1 h2 => by omega⟩)
  rcases reads a0 (by omega) with ⟨o, r1, r2⟩ | ⟨r1, r2⟩
  · rw [r1, Option.bind_some, r2, Option.bind_some]
    unfold bosketlaw47_Ref
    rw [Option.bind_some]
    simp only [ref, decide_true, Bool.not_true, Bool.false_eq_true, if_false, bne_self_eq_false, Option.bind_some]
    exact fin'
  · rw [r1, Option.bind_some, r2, Option.bind_some]
    unfold bosketlaw47_Ref Err RErr
    rw [Option.bind_some]
    simp only [decide_true, Bool.not_true, Bool.false_eq_true, if_false, show ¬ (24 : Int) = 0 by decide, decide_false, bne_self_eq_false, Bool.not_false, if_true, ne_eq, not_true, Option.bind_some]
    exact fin'
end Go.Avl.T2
