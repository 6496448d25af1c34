/- Parts: T2Q, T2M10, T2M11, T2M12, T2M13, T2M14, T2M15, T2PureAstReads. -/
import Derived.Test.YtmgiffbobkgcmaaAM1
import Derived.Test.YtmgiffbobkgcmaaAF3
import Derived.Test.YtmgiffbobkgcmaaAF4
import Derived.Test.YtmgiffbobkgcmaaAF5
import Derived.Test.YtmgiffbobkgcmaaAF6
import Derived.Test.YtmgiffbobkgcmaaAF7
import Derived.Test.YtmgiffbobkgcmaaAF8
/- Texts between quotes, and what is left of one. -/
namespace Go.Avl.T2
open Go Go.RowKit Go.Proofs Go.Avl
set_option linter.all false
set_option maxRecDepth 10000

theorem size0 {s : ByteArray} (h : s.size = 0) : s = ByteArray.mk #[] := by rw [as_bytes s, h]; rfl
abbrev B32 : ByteArray := ByteArray.mk #[32]
theorem B32_size : B32.size = 1 := rfl
theorem app_nil (s : ByteArray) : s ++ ByteArray.mk #[] = s := by apply ByteArray.ext; apply Array.ext'; simp
theorem nil_app (s : ByteArray) : ByteArray.mk #[] ++ s = s := by apply ByteArray.ext; apply Array.ext'; simp
theorem D_len {n : Int} (h : I64 n) : (D n).length ≤ 20 := by
  have hl := dg_len 19 n.natAbs (by unfold I64 at h; omega) (by omega)
  unfold D; split
  · rw [List.length_cons]; omega
  · omega
/-- A text between quotes. -/
def Q (t : ByteArray) : ByteArray := strOfNums [34] ++ catn 34 t 0 t.size ++ strOfNums [34]
theorem quo34 : quo 34 := by unfold quo sign; omega
theorem Q_size (t : ByteArray) : (Q t).size ≤ 4 * t.size + 2 := by
  have := catn_size quo34 t t.size 0
  have hz1 : (strOfNums [(34 : Int)]).size = 1 := strOfNums_size _
  unfold Q; rw [ByteArray.size_append, ByteArray.size_append]; omega
theorem Q_eq {t : ByteArray} (h : t.size ≤ 1000) : escape_Quote 2000 t 34 = some (Q t) ∧ bosketref03_Quote 2000 t 34 = some (Q t) := by
  have hz1 : (strOfNums [(34 : Int)]).size = 1 := strOfNums_size _
  exact quote_l quo34 t (by omega) t.size 0 2000 (strOfNums [(34 : Int)]) (by omega) (by omega) (by omega)
theorem Q_back {t p : ByteArray} (h : t.size ≤ 1000) (hp : p.size ≤ 1000000) : escape_Unquote 2000 (Q t ++ p) 34 = some (t, ((Q t).size : Int), true) := by
  have hz1 : (strOfNums [(34 : Int)]).size = 1 := strOfNums_size _
  have x := unquote_l quo34 t p (by omega) (by omega) t.size 0 2000 (strOfNums [(34 : Int)]) [] (by omega) (by omega) (by omega) (by simp; omega)
  have eX : Q t ++ p = strOfNums [(34 : Int)] ++ (catn 34 t 0 t.size ++ (strOfNums [(34 : Int)] ++ p)) := by unfold Q; rw [app_assoc, app_assoc]
  have sX : (strOfNums [(34 : Int)] ++ (catn 34 t 0 t.size ++ (strOfNums [(34 : Int)] ++ p))).size = 1 + ((catn 34 t 0 t.size).size + (1 + p.size)) := by rw [ByteArray.size_append, ByteArray.size_append, ByteArray.size_append, hz1]
  have hs : (Q t).size = 1 + (catn 34 t 0 t.size).size + 1 := by unfold Q; rw [ByteArray.size_append, ByteArray.size_append, hz1]
  have g : 0 ≤ (0 : Int) ∧ (0 : Int) < ((strOfNums [(34 : Int)] ++ (catn 34 t 0 t.size ++ (strOfNums [(34 : Int)] ++ p))).size : Int) := ⟨by omega, by omega⟩
  have hq : byteAt (strOfNums [(34 : Int)] ++ (catn 34 t 0 t.size ++ (strOfNums [(34 : Int)] ++ p))) 0 = 34 := by
    have := byteAt_app (strOfNums [(34 : Int)]) (catn 34 t 0 t.size ++ (strOfNums [(34 : Int)] ++ p)) 0 (by omega)
    rw [show (0 : Int) = ((0 : Nat) : Int) from rfl, this, byteAt_strOf [(34 : Int)] (by simp) 0 (by simp)]; rfl
  rw [eX, hs]
  unfold escape_Unquote
  rw [if_neg (ne_nil (by omega)), if_pos g, Option.bind_some, if_neg (by simpa using hq)]
  rw [hz1, List.nil_append, lst_all] at x
  exact x
theorem extract_left (a b : ByteArray) : (a ++ b).extract 0 a.size = a := by
  have ha : a.data.toList.length = a.size := Array.length_toList
  have hb : b.data.toList.length = b.size := Array.length_toList
  apply ByteArray.ext; apply Array.ext'
  rw [ByteArray.data_extract]
  simp
  exact List.take_of_length_le (by omega)
/-! What Unquote leaves. -/
theorem unq_bound (p : ByteArray) (hp : p.size ≤ 1000) (q : Int) : ∀ (fuel i : Nat) (acc : List Int) (t : ByteArray × Int × Bool), i ≤ 5000 → acc.length ≤ i → escape_Unquote_l1 2000 p q fuel acc i = some t → t.2.2 = true → 0 ≤ t.2.1 ∧ t.2.1 ≤ p.size ∧ t.1.size ≤ p.size
  | 0, i, acc, t, _, _, h, _ => by cases h
  | f + 1, i, acc, t, hi, ha, h, ok => by
    rw [escape_Unquote_l1.eq_2] at h
    by_cases a : (i : Int) < (p.size : Int)
    · have g : 0 ≤ (i : Int) ∧ (i : Int) < (p.size : Int) := ⟨by omega, a⟩
      rw [if_pos a, if_pos g] at h
      by_cases b : byteAt p i = q
      · rw [if_pos b, w64_id (by omega) (by omega)] at h
        cases h
        dsimp only
        rw [strOfNums_size]; omega
      · rw [if_neg b, if_pos ⟨by omega, by omega, by omega⟩] at h
        obtain ⟨u, hu, h⟩ := Option.bind_eq_some_iff.1 h
        obtain ⟨b18, hb18, h⟩ := Option.bind_eq_some_iff.1 h
        by_cases c : b18 = true
        · rw [if_pos c] at h; cases h; cases ok
        · rw [if_neg c] at h
          have h := (of_guard h).2
          have uok : u.2.2 = true := by
            cases d : u.2.2
            · rw [d, if_pos (by rfl)] at hb18; cases hb18; exact absurd rfl c
            · rfl
          have un := read_n _ u hu uok
          obtain ⟨n, hn⟩ : ∃ n : Nat, u.2.1 = n := ⟨u.2.1.toNat, by omega⟩
          rw [hn, w64_id (by omega) (by omega)] at h
          exact unq_bound p hp q f (i + n) (acc ++ [u.1]) t (by omega) (by simp; omega) (by exact_mod_cast h) ok
    · rw [if_neg a] at h; unfold escape_Unquote_c0 at h; cases h; cases ok
theorem unq_some {q : Int} (hq : q ≠ 10) (p : ByteArray) (hp : p.size ≤ 1000) : ∃ t, escape_Unquote 2000 p q = some t ∧ bosketref03_Unquote 2000 p q = some t ∧ (t.2.2 = true → 0 ≤ t.2.1 ∧ t.2.1 ≤ p.size ∧ t.1.size ≤ p.size) := by
  obtain ⟨t, t1, t2⟩ := unq_eq hq p hp
  refine ⟨t, t1, t2, fun ok => ?_⟩
  unfold escape_Unquote at t1
  obtain ⟨b3, _, h⟩ := Option.bind_eq_some_iff.1 t1
  by_cases c : b3 = true
  · rw [if_pos c] at h; cases h; cases ok
  · rw [if_neg c] at h
    exact unq_bound p hp q 2000 1 [] t (by omega) (by simp) h ok
end Go.Avl.T2
/- Trees as lists: their texts. -/
namespace Go.Avl.T2
open Go Go.RowKit Go.Proofs Go.Avl
set_option linter.all false
set_option maxRecDepth 10000

def NOK (x : S43) : Prop := I64 x.f1 ∧ x.f3.size ≤ 1000
def FOK : Fo → Prop
  | .nil => True
  | .cons x k n => NOK x ∧ FOK k ∧ FOK n
theorem fok_of : ∀ F, (∀ x ∈ fl F, NOK x) → FOK F
  | .nil, _ => trivial
  | .cons x k n, h => ⟨h x (by simp [fl]), fok_of k (fun y hy => h y (by simp [fl, hy])), fok_of n (fun y hy => h y (by simp [fl, hy]))⟩
abbrev B40 : ByteArray := ByteArray.mk #[40]
abbrev B41 : ByteArray := ByteArray.mk #[41]
abbrev B58 : ByteArray := ByteArray.mk #[58]
theorem B40_size : B40.size = 1 := rfl
theorem B41_size : B41.size = 1 := rfl
theorem B58_size : B58.size = 1 := rfl
def leafT (x : S43) : ByteArray := strOfNums (D x.f1) ++ (B58 ++ Q x.f3)
/-- The texts of trees, each with a blank ahead. -/
def shf : Fo → ByteArray
  | .nil => ByteArray.mk #[]
  | .cons x k n => B32 ++ ((if x.f0 = true then leafT x else B40 ++ (strOfNums (D x.f1) ++ (shf k ++ B41))) ++ shf n)
def sht (x : S43) (k : Fo) : ByteArray := if x.f0 = true then leafT x else B40 ++ (strOfNums (D x.f1) ++ (shf k ++ B41))
theorem shf_cons (x : S43) (k n : Fo) : shf (.cons x k n) = B32 ++ (sht x k ++ shf n) := rfl
theorem leafT_size {x : S43} (h : NOK x) : (leafT x).size ≤ 4030 := by
  have h1 := D_len h.1
  have h2 := Q_size x.f3
  have h3 := h.2
  unfold leafT; rw [ByteArray.size_append, ByteArray.size_append, strOfNums_size, B58_size]; omega
theorem shf_size : ∀ F, FOK F → (shf F).size ≤ 5000 * (fl F).length
  | .nil, _ => by rw [shf, emp_size]; omega
  | .cons x k n, h => by
    have i1 := shf_size k h.2.1
    have i2 := shf_size n h.2.2
    have h1 := D_len h.1.1
    have h2 := leafT_size h.1
    rw [shf_cons, sht, ByteArray.size_append, ByteArray.size_append, B32_size]
    simp only [fl, List.length_cons, List.length_append]
    split
    · omega
    · rw [ByteArray.size_append, ByteArray.size_append, ByteArray.size_append, strOfNums_size, B40_size, B41_size]; omega
theorem sht_size {x : S43} {k : Fo} (h : NOK x) (hk : FOK k) : (sht x k).size ≤ 5000 * ((fl k).length + 1) := by
  have i1 := shf_size k hk
  have h1 := D_len h.1
  have h2 := leafT_size h
  rw [sht]
  split
  · omega
  · rw [ByteArray.size_append, ByteArray.size_append, ByteArray.size_append, strOfNums_size, B40_size, B41_size]; omega
theorem sd_eq {n : Int} (h : I64 n) : spot_Digits 2000 n = some (strOfNums (D n)) := by unfold spot_Digits; rw [digits_eq h, Option.bind_some]
theorem show_l : ∀ (F : Fo), WF F → FOK F → ∀ (k : Nat) (A : List (List S43)) (acc : ByteArray) (fuel : Nat), (fl F).length + 1 ≤ 999 → (fl F).length < k → cnt' F < fuel → A.length + cnt' F ≤ 2000 → acc.size + (shf F).size ≤ 100000000 →
    ast_Show_l1 2000 (ast_Show_r 2000 k) (A ++ pcs F) fuel acc A.length = ast_Show_c0 2000 (acc ++ shf F) ∧ bosketref31_Show_l1 2000 (bosketref31_Show_r 2000 k) (A ++ pcs F) fuel acc A.length = bosketref31_Show_c0 2000 (acc ++ shf F)
  | .nil, _, _, k, A, acc, f + 1, _, _, _, _, _ => by
    rw [ast_Show_l1.eq_2, bosketref31_Show_l1.eq_2, if_neg (by simp [pcs]), if_neg (by simp [pcs])]
    rw [shf, app_nil]; exact ⟨rfl, rfl⟩
  | .cons y q n, h, ho, k, A, acc, f + 1, hl, hk, hf, hA, hz => by
    simp only [cnt'] at hf hA
    have hlen : (fl (.cons y q n)).length = (fl q).length + (fl n).length + 1 := by simp [fl]
    have hwf : WF (.cons y q .nil) := ⟨h.1, h.2.1, h.2.2.1, trivial⟩
    have hyl : (y :: fl q).length = (fl q).length + 1 := by simp
    have hcq := cnt_le q
    have hcn := cnt_le n
    have hsq := shf_size q ho.2.1
    have hst := sht_size ho.1 ho.2.1
    have hD := D_len ho.1.1
    have hQ := Q_size y.f3
    have hy3 := ho.1.2
    obtain ⟨k1, rfl⟩ : ∃ k1, k = k1 + 1 := ⟨k - 1, by omega⟩
    have hr : rgt (y :: fl q) = true := (rgt_iff (by omega)).2 ⟨y, q, hwf, rfl⟩
    have e0 : lget (y :: fl q) 0 = y := rfl
    have g0 : 0 ≤ (0 : Int) ∧ (0 : Int) < ((y :: fl q).length : Int) := ⟨by omega, by omega⟩
    obtain ⟨q1, q2⟩ := Q_eq hy3
    have sD : (strOfNums (D y.f1)).size ≤ 20 := by rw [strOfNums_size]; exact hD
    have ih1 := show_l q h.2.2.1 ho.2.1 k1 [] (B40 ++ strOfNums (D y.f1)) 2000 (by omega) (by omega) (by omega) (by simp; omega) (by rw [ByteArray.size_append, B40_size]; omega)
    simp only [List.nil_append, List.length_nil] at ih1
    rw [show ((0 : Nat) : Int) = 0 from rfl] at ih1
    have fin40 : (B40 ++ strOfNums (D y.f1) ++ shf q).size + B41.size ≤ 9223372036854775807 := by rw [ByteArray.size_append, ByteArray.size_append, B40_size, B41_size]; omega
    have c40 : B40.size + (strOfNums (D y.f1)).size ≤ 9223372036854775807 := by rw [B40_size]; omega
    have c58 : (strOfNums (D y.f1)).size + B58.size ≤ 9223372036854775807 := by rw [B58_size]; omega
    have c58b : (strOfNums (D y.f1) ++ B58).size + (Q y.f3).size ≤ 9223372036854775807 := by rw [ByteArray.size_append, B58_size]; omega
    have s1 : ast_Show_r 2000 (k1 + 1) (y :: fl q) = some (sht y q) := by
      rw [ast_Show_r.eq_2, (right_l _ (by omega) (by omega)).1, hr, Option.bind_some, if_neg (by decide), if_pos g0, e0]
      unfold sht leafT
      by_cases a : y.f0 = true
      · rw [if_pos a, if_pos a, if_pos g0, sd_eq ho.1.1, Option.bind_some, if_pos c58, if_pos g0, q1, Option.bind_some, if_pos c58b, app_assoc]
      · rw [if_neg a, if_neg a, if_pos g0, sd_eq ho.1.1, Option.bind_some, if_pos c40, kids_eq hwf (by omega) (by omega), Option.bind_some, ih1.1]
        unfold ast_Show_c0
        rw [if_pos fin40, app_assoc, app_assoc]
    have s2 : bosketref31_Show_r 2000 (k1 + 1) (y :: fl q) = some (sht y q) := by
      rw [bosketref31_Show_r.eq_2, if_pos g0, e0]
      unfold sht leafT
      by_cases a : y.f0 = true
      · rw [if_pos a, if_pos a, if_pos g0, rdigits_eq ho.1.1, Option.bind_some, if_pos c58, if_pos g0, q2, Option.bind_some, if_pos c58b, app_assoc]
      · rw [if_neg a, if_neg a, if_pos g0, rdigits_eq ho.1.1, Option.bind_some, if_pos c40, rkids_eq hwf (by omega) (by omega), Option.bind_some, ih1.2]
        unfold bosketref31_Show_c0
        rw [if_pos fin40, app_assoc, app_assoc]
    have g1 : (A.length : Int) < ((A ++ pcs (.cons y q n)).length : Int) := by simp [pcs]; omega
    have g : 0 ≤ (A.length : Int) ∧ (A.length : Int) < ((A ++ pcs (.cons y q n)).length : Int) := ⟨by omega, g1⟩
    have eg : lget (A ++ pcs (.cons y q n)) (A.length : Int) = y :: fl q := lget_app A _ _
    have hsc : (shf (.cons y q n)).size = 1 + ((sht y q).size + (shf n).size) := by rw [shf_cons, ByteArray.size_append, ByteArray.size_append, B32_size]
    have hac : (acc ++ (B32 ++ sht y q)).size = acc.size + (1 + (sht y q).size) := by rw [ByteArray.size_append, ByteArray.size_append, B32_size]
    have ih2 := show_l n h.2.2.2 ho.2.2 (k1 + 1) (A ++ [y :: fl q]) (acc ++ (B32 ++ sht y q)) f (by omega) (by omega) (by omega) (by simp; omega) (by omega)
    have eA : A ++ [y :: fl q] ++ pcs n = A ++ pcs (.cons y q n) := by simp [pcs]
    have eL : ((A ++ [y :: fl q]).length : Int) = (A.length : Int) + 1 := by simp
    have eS : acc ++ (B32 ++ sht y q) ++ shf n = acc ++ shf (.cons y q n) := by rw [shf_cons, app_assoc, app_assoc]
    rw [eA, eL, eS] at ih2
    have d1 : B32.size + (sht y q).size ≤ 9223372036854775807 := by rw [B32_size]; omega
    have d2 : acc.size + (B32 ++ sht y q).size ≤ 9223372036854775807 := by rw [ByteArray.size_append, B32_size]; omega
    have d3 : acc.size + B32.size ≤ 9223372036854775807 := by rw [B32_size]; omega
    have d4 : (acc ++ B32).size + (sht y q).size ≤ 9223372036854775807 := by rw [ByteArray.size_append, B32_size]; omega
    rw [ast_Show_l1.eq_2, bosketref31_Show_l1.eq_2, if_pos g1, if_pos g1, if_pos g, if_pos d3, if_pos g, eg, s1, s2, Option.bind_some, Option.bind_some, if_pos d1, if_pos d2, if_pos d4, w64_id (by omega) (by omega), app_assoc acc B32]
    exact ih2
theorem show_tree {x : S43} {ks : Fo} (h : WF (.cons x ks .nil)) (ho : FOK (.cons x ks .nil)) (hl : (x :: fl ks).length ≤ 998) : ast_Show 2000 (x :: fl ks) = some (sht x ks) ∧ bosketref31_Show 2000 (x :: fl ks) = some (sht x ks) := by
  have hxl : (x :: fl ks).length = (fl ks).length + 1 := by simp
  have hcq := cnt_le ks
  have hsq := shf_size ks ho.2.1
  have hD := D_len ho.1.1
  have hQ := Q_size x.f3
  have hy3 := ho.1.2
  have hr : rgt (x :: fl ks) = true := (rgt_iff (by omega)).2 ⟨x, ks, h, rfl⟩
  have e0 : lget (x :: fl ks) 0 = x := rfl
  have g0 : 0 ≤ (0 : Int) ∧ (0 : Int) < ((x :: fl ks).length : Int) := ⟨by omega, by omega⟩
  obtain ⟨q1, q2⟩ := Q_eq hy3
  have sD : (strOfNums (D x.f1)).size ≤ 20 := by rw [strOfNums_size]; exact hD
  have ih1 := show_l ks h.2.2.1 ho.2.1 1999 [] (B40 ++ strOfNums (D x.f1)) 2000 (by omega) (by omega) (by omega) (by simp; omega) (by rw [ByteArray.size_append, B40_size]; omega)
  simp only [List.nil_append, List.length_nil] at ih1
  rw [show ((0 : Nat) : Int) = 0 from rfl] at ih1
  have fin40 : (B40 ++ strOfNums (D x.f1) ++ shf ks).size + B41.size ≤ 9223372036854775807 := by rw [ByteArray.size_append, ByteArray.size_append, B40_size, B41_size]; omega
  have c40 : B40.size + (strOfNums (D x.f1)).size ≤ 9223372036854775807 := by rw [B40_size]; omega
  have c58 : (strOfNums (D x.f1)).size + B58.size ≤ 9223372036854775807 := by rw [B58_size]; omega
  have c58b : (strOfNums (D x.f1) ++ B58).size + (Q x.f3).size ≤ 9223372036854775807 := by rw [ByteArray.size_append, B58_size]; omega
  constructor
  · show ast_Show_r 2000 (1999 + 1) (x :: fl ks) = _
    rw [ast_Show_r.eq_2, (right_l _ (by omega) (by omega)).1, hr, Option.bind_some, if_neg (by decide), if_pos g0, e0]
    unfold sht leafT
    by_cases a : x.f0 = true
    · rw [if_pos a, if_pos a, if_pos g0, sd_eq ho.1.1, Option.bind_some, if_pos c58, if_pos g0, q1, Option.bind_some, if_pos c58b, app_assoc]
    · rw [if_neg a, if_neg a, if_pos g0, sd_eq ho.1.1, Option.bind_some, if_pos c40, kids_eq h (by omega) (by omega), Option.bind_some, ih1.1]
      unfold ast_Show_c0
      rw [if_pos fin40, app_assoc, app_assoc]
  · show bosketref31_Show_r 2000 (1999 + 1) (x :: fl ks) = _
    rw [bosketref31_Show_r.eq_2, if_pos g0, e0]
    unfold sht leafT
    by_cases a : x.f0 = true
    · rw [if_pos a, if_pos a, if_pos g0, rdigits_eq ho.1.1, Option.bind_some, if_pos c58, if_pos g0, q2, Option.bind_some, if_pos c58b, app_assoc]
    · rw [if_neg a, if_neg a, if_pos g0, rdigits_eq ho.1.1, Option.bind_some, if_pos c40, rkids_eq h (by omega) (by omega), Option.bind_some, ih1.2]
      unfold bosketref31_Show_c0
      rw [if_pos fin40, app_assoc, app_assoc]
theorem show_none {l : List S43} (hl : l.length ≤ 1000) (h : rgt l = false) : ast_Show 2000 l = some (ByteArray.mk #[]) := by
  show ast_Show_r 2000 (1999 + 1) l = _
  rw [ast_Show_r.eq_2, (right_l _ (by omega) (by omega)).1, h, Option.bind_some, if_pos (show (!false) = true from rfl)]
end Go.Avl.T2
/- Trees as lists: their texts read, by the program and by the reference. -/
namespace Go.Avl.T2
open Go Go.RowKit Go.Proofs Go.Avl
set_option linter.all false
set_option maxRecDepth 10000

/-- A byte of a number. -/
def nb (c : Int) : Prop := c = 45 ∨ (48 ≤ c ∧ c ≤ 57)
instance (c : Int) : Decidable (nb c) := by unfold nb; infer_instance
/-- Where the bytes of a number end. -/
def Ends (s : ByteArray) (i e : Nat) : Prop := i ≤ e ∧ e ≤ s.size ∧ (∀ j, i ≤ j → j < e → nb (byteAt s (j : Int))) ∧ (e = s.size ∨ ¬ nb (byteAt s (e : Int)))
theorem ends_ex (s : ByteArray) : ∀ (m i : Nat), i + m = s.size → ∃ e, Ends s i e
  | 0, i, h => ⟨i, Nat.le_refl _, by omega, fun j h1 h2 => by omega, .inl (by omega)⟩
  | m + 1, i, h => by
    by_cases a : nb (byteAt s (i : Int))
    · obtain ⟨e, h1, h2, h3, h4⟩ := ends_ex s m (i + 1) (by omega)
      refine ⟨e, by omega, h2, fun j j1 j2 => ?_, h4⟩
      by_cases b : j = i
      · subst b; exact a
      · exact h3 j (by omega) j2
    · exact ⟨i, Nat.le_refl _, by omega, fun j h1 h2 => by omega, .inr a⟩
theorem scan_l (s : ByteArray) (hs : s.size ≤ 100000) (p0 : S88) (hp : p0.f0 = s) {e : Nat} : ∀ (m i fuel : Nat), i + m = e → m < fuel → Ends s i e → ast_reader_number_l1 2000 p0 fuel i = ast_reader_number_c0 2000 p0 e
  | 0, i, f + 1, h, _, he => by
    have : i = e := by omega
    subst this
    rw [ast_reader_number_l1.eq_2, hp]
    by_cases a : (i : Int) < (s.size : Int)
    · have g : 0 ≤ (i : Int) ∧ (i : Int) < (s.size : Int) := ⟨by omega, a⟩
      have hn : ¬ nb (byteAt s (i : Int)) := by rcases he.2.2.2 with h | h; omega; exact h
      unfold nb at hn
      rw [if_pos a, if_pos g, if_neg (fun h => hn (.inl h)), if_pos g]
      by_cases b : (48 : Int) ≤ byteAt s (i : Int)
      · rw [if_pos b, if_pos g, Option.bind_some, if_neg (by simp; omega)]
      · rw [if_neg b, Option.bind_some, if_neg (by decide)]
    · rw [if_neg a, Option.bind_some, if_neg (by decide)]
  | m + 1, i, f + 1, h, hf, he => by
    obtain ⟨h1, h2, h3, h4⟩ := he
    have a : (i : Int) < (s.size : Int) := by omega
    have g : 0 ≤ (i : Int) ∧ (i : Int) < (s.size : Int) := ⟨by omega, a⟩
    have hn := h3 i (Nat.le_refl _) (by omega)
    have ih := scan_l s hs p0 hp m (i + 1) f (by omega) (by omega) ⟨by omega, h2, fun j j1 j2 => h3 j (by omega) j2, h4⟩
    rw [ast_reader_number_l1.eq_2, hp, if_pos a, if_pos g]
    have key : ∀ b : Bool, b = true → (some b).bind (fun b8 => if b8 = true then (ast_reader_number_l1 2000 p0 f) (w64 ((i : Int) + 1)) else ast_reader_number_c0 2000 p0 (i : Int)) = ast_reader_number_c0 2000 p0 e := by
      rintro b rfl
      rw [Option.bind_some, if_pos rfl, w64_id (by omega) (by omega)]
      exact_mod_cast ih
    unfold nb at hn
    by_cases b : byteAt s (i : Int) = 45
    · rw [if_pos b]; exact key true rfl
    · have hn : 48 ≤ byteAt s (i : Int) ∧ byteAt s (i : Int) ≤ 57 := by rcases hn with h | h; exact absurd h b; exact h
      rw [if_neg b, if_pos g, if_pos hn.1, if_pos g]; exact key _ (decide_eq_true hn.2)
theorem number_any (s : ByteArray) (hs : s.size ≤ 100000) (i : Nat) (d : Int) {e : Nat} (he : Ends s i e) (hf : e - i < 2000) : ast_reader_number 2000 ⟨s, i, d⟩ = some ((sn (ints (s.extract i e))).1, (sn (ints (s.extract i e))).2, ⟨s, (e : Int), d⟩) := by
  have h1 := he.1
  have h2 := he.2.1
  unfold ast_reader_number
  dsimp only
  rw [scan_l s (by omega) ⟨s, i, d⟩ rfl (e - i) i 2000 (by omega) (by omega) he]
  unfold ast_reader_number_c0
  dsimp only
  have hz : (s.extract (i : Int).toNat (e : Int).toNat).size ≤ 100000 := by rw [ByteArray.size_extract]; omega
  rw [if_pos ⟨by omega, by omega, by omega⟩, (num_all hz).1, Option.bind_some, Int.toNat_natCast, Int.toNat_natCast]
theorem rscan_l (s : ByteArray) (hs : s.size ≤ 100000) (self : ByteArray → Int → Int → Option (List S43 × Int)) (p2 : Int) (b4 : Bool) (x8 : Int) {e : Nat} : ∀ (m i fuel : Nat), i + m = e → m < fuel → Ends s i e → bosketref31_read_l3 2000 self s p2 b4 x8 fuel i = bosketref31_read_c2 2000 self s p2 b4 x8 e
  | 0, i, f + 1, h, _, he => by
    have : i = e := by omega
    subst this
    rw [bosketref31_read_l3.eq_2]
    by_cases a : (i : Int) < (s.size : Int)
    · have g : 0 ≤ (i : Int) ∧ (i : Int) < (s.size : Int) := ⟨by omega, a⟩
      have hn : ¬ nb (byteAt s (i : Int)) := by rcases he.2.2.2 with h | h; omega; exact h
      unfold nb at hn
      rw [if_pos a, if_pos g, if_neg (fun h => hn (.inl h)), if_pos g]
      by_cases b : (48 : Int) ≤ byteAt s (i : Int)
      · rw [if_pos b, if_pos g, Option.bind_some, if_neg (by simp; omega)]
      · rw [if_neg b, Option.bind_some, if_neg (by decide)]
    · rw [if_neg a, Option.bind_some, if_neg (by decide)]
  | m + 1, i, f + 1, h, hf, he => by
    obtain ⟨h1, h2, h3, h4⟩ := he
    have a : (i : Int) < (s.size : Int) := by omega
    have g : 0 ≤ (i : Int) ∧ (i : Int) < (s.size : Int) := ⟨by omega, a⟩
    have hn := h3 i (Nat.le_refl _) (by omega)
    have ih := rscan_l s hs self p2 b4 x8 m (i + 1) f (by omega) (by omega) ⟨by omega, h2, fun j j1 j2 => h3 j (by omega) j2, h4⟩
    rw [bosketref31_read_l3.eq_2, if_pos a, if_pos g]
    have key : ∀ b : Bool, b = true → (some b).bind (fun b55 => if b55 = true then (bosketref31_read_l3 2000 self s p2 b4 x8 f) (w64 ((i : Int) + 1)) else bosketref31_read_c2 2000 self s p2 b4 x8 (i : Int)) = bosketref31_read_c2 2000 self s p2 b4 x8 e := by
      rintro b rfl
      rw [Option.bind_some, if_pos rfl, w64_id (by omega) (by omega)]
      exact_mod_cast ih
    unfold nb at hn
    by_cases b : byteAt s (i : Int) = 45
    · rw [if_pos b]; exact key true rfl
    · have hn : 48 ≤ byteAt s (i : Int) ∧ byteAt s (i : Int) ≤ 57 := by rcases hn with h | h; exact absurd h b; exact h
      rw [if_neg b, if_pos g, if_pos hn.1, if_pos g]; exact key _ (decide_eq_true hn.2)
/-! A number's own text. -/
theorem D_nb {n : Int} (h : I64 n) : ∀ c ∈ D n, nb c := by
  unfold I64 at h
  have hd := dg_dig 20 n.natAbs (by omega)
  intro c hc
  unfold D at hc
  split at hc
  · rcases List.mem_cons.1 hc with e | e
    · exact .inl e
    · exact .inr (hd c e)
  · exact .inr (hd c hc)
theorem D_pos {n : Int} (h : I64 n) : 0 < (D n).length := by
  have := dg_len 20 n.natAbs (by unfold I64 at h; omega) (by omega)
  unfold D; split
  · simp
  · exact this.2
theorem byteAt_mid (a b c : ByteArray) (j : Nat) (h : j < b.size) : byteAt (a ++ (b ++ c)) ((a.size + j : Nat) : Int) = byteAt b (j : Int) := by
  rw [byteAt_right a (b ++ c) j (by rw [ByteArray.size_append]; omega), byteAt_app b c j h]
/-- Behind a number's text stands a byte that is none of a number's. -/
theorem ends_D {a c : ByteArray} {n : Int} (h : I64 n) (hc : 0 < c.size) (hn : ¬ nb (byteAt c 0)) : Ends (a ++ (strOfNums (D n) ++ c)) a.size (a.size + (strOfNums (D n)).size) := by
  have hz : (a ++ (strOfNums (D n) ++ c)).size = a.size + ((strOfNums (D n)).size + c.size) := by rw [ByteArray.size_append, ByteArray.size_append]
  refine ⟨by omega, by omega, fun j h1 h2 => ?_, .inr ?_⟩
  · obtain ⟨q, rfl⟩ : ∃ q, j = a.size + q := ⟨j - a.size, by omega⟩
    have hq : q < (strOfNums (D n)).size := by omega
    rw [byteAt_mid a _ c q hq]
    rw [strOfNums_size] at hq
    rw [byteAt_strOf (D n) (D_byt h) q hq]
    exact D_nb h _ (List.getElem_mem hq)
  · have := byteAt_right (a ++ strOfNums (D n)) c 0 hc
    rw [app_assoc, ByteArray.size_append, Nat.add_zero] at this
    rw [this]; exact hn
theorem extract_mid (a b c : ByteArray) : (a ++ (b ++ c)).extract a.size (a.size + b.size) = b := by
  have h1 := extract_left (a ++ b) c
  have ha : a.data.toList.length = a.size := Array.length_toList
  have hb : b.data.toList.length = b.size := Array.length_toList
  have hc : c.data.toList.length = c.size := Array.length_toList
  apply ByteArray.ext; apply Array.ext'
  rw [ByteArray.data_extract]
  simp
  rw [List.drop_eq_nil_of_le (by omega), List.take_nil, List.nil_append]
  exact List.take_of_length_le (by omega)
theorem ints_strOf {l : List Int} (h : Byt l) : ints (strOfNums l) = l := by
  apply strOf_inj (ints_byt _) h
  exact strOf_ints _
theorem number_D {a c : ByteArray} {n : Int} (h : I64 n) (hc : 0 < c.size) (hn : ¬ nb (byteAt c 0)) (hz : (a ++ (strOfNums (D n) ++ c)).size ≤ 100000) (d : Int) :
    ast_reader_number 2000 ⟨a ++ (strOfNums (D n) ++ c), (a.size : Int), d⟩ = some (n, true, ⟨a ++ (strOfNums (D n) ++ c), ((a ++ strOfNums (D n)).size : Int), d⟩) := by
  have hl := D_len h
  rw [number_any _ hz a.size d (ends_D h hc hn) (by rw [strOfNums_size]; omega), extract_mid, ints_strOf (D_byt h), sn_D h, ByteArray.size_append]
end Go.Avl.T2
/- Trees as lists: a tree's text is read as it, by the program. -/
namespace Go.Avl.T2
open Go Go.RowKit Go.Proofs Go.Avl
set_option linter.all false
set_option maxRecDepth 10000

/-- A node as texts tell it. -/
def px (x : S43) : S43 := if x.f0 = true then x else ⟨x.f0, x.f1, x.f2, ByteArray.empty⟩
theorem sz_app (a b : ByteArray) : (a ++ b).size = a.size + b.size := ByteArray.size_append
def LoopP (F : Fo) : Prop := ∀ (j : Nat) (a b : ByteArray) (acc : List (List S43)) (t3 : Int × Bool × S88) (d fuel : Nat), 2 * (fl F).length < j → cnt' F < fuel → d + (fl F).length ≤ 1990 → acc.length + cnt' F ≤ 1000 → (fl F).length ≤ 900 → (a ++ (shf F ++ (B41 ++ b))).size ≤ 100000 →
  ast_reader_node_l1 2000 (ast_reader_tree_r 2000 j) t3 fuel (a ++ (shf F ++ (B41 ++ b))) (a.size : Int) (d : Int) true acc = ast_reader_node_c0 2000 t3 (a ++ (shf F ++ (B41 ++ b))) ((a ++ shf F).size : Int) (d : Int) true (acc ++ (pcs F).map (List.map px))
theorem byteAt_here (a c : ByteArray) (h : 0 < c.size) : byteAt (a ++ c) (a.size : Int) = byteAt c 0 := by
  have := byteAt_right a c 0 h
  rw [Nat.add_zero] at this; exact this
theorem byteAt_first {c : UInt8} (b : ByteArray) : byteAt (ByteArray.mk #[c] ++ b) 0 = (c.toNat : Int) := by
  have := byteAt_app (ByteArray.mk #[c]) b 0 (by show 0 < 1; omega)
  rw [show (0 : Int) = ((0 : Nat) : Int) from rfl, this]; rfl
theorem byteAt_D {n : Int} (h : I64 n) (c : ByteArray) : nb (byteAt (strOfNums (D n) ++ c) 0) := by
  have hp := D_pos h
  have := byteAt_app (strOfNums (D n)) c 0 (by rw [strOfNums_size]; exact hp)
  rw [show (0 : Int) = ((0 : Nat) : Int) from rfl, this, byteAt_strOf (D n) (D_byt h) 0 hp]
  exact D_nb h _ (List.getElem_mem hp)
theorem shf_first (F : Fo) (c : ByteArray) : ¬ nb (byteAt (shf F ++ (B41 ++ c)) 0) := by
  cases F with
  | nil => rw [shf, nil_app, byteAt_first]; decide
  | cons x k n => rw [shf_cons, app_assoc, byteAt_first]; decide
theorem map_flat (l : List (List S43)) : (l.map (List.map px)).flatten = l.flatten.map px := by
  induction l with
  | nil => rfl
  | cons x l ih => simp only [List.map_cons, List.flatten_cons, List.map_append, ih]
theorem tree_of {y : S43} {q : Fo} (hwf : WF (.cons y q .nil)) (ho : FOK (.cons y q .nil)) (hq : LoopP q) (j : Nat) (a b : ByteArray) (d : Nat) (hj : 2 * ((fl q).length + 1) < j) (hd : d + (fl q).length + 1 ≤ 1990) (hl : (fl q).length ≤ 900) (hz : (a ++ (sht y q ++ b)).size ≤ 100000) :
    ast_reader_tree_r 2000 j ⟨a ++ (sht y q ++ b), (a.size : Int), (d : Int)⟩ = some ((y :: fl q).map px, true, ⟨a ++ (sht y q ++ b), ((a ++ sht y q).size : Int), (d : Int)⟩) := by
  have hn := ho.1.1
  have hD := D_pos hn
  have hDl := D_len hn
  obtain ⟨j1, rfl⟩ : ∃ j1, j = j1 + 1 := ⟨j - 1, by omega⟩
  rw [ast_reader_tree_r.eq_2]
  dsimp only
  have hza : (a ++ (sht y q ++ b)).size = a.size + ((sht y q).size + b.size) := by rw [ByteArray.size_append, ByteArray.size_append]
  by_cases lf : y.f0 = true
  · -- a leaf
    have hq0 : y.f2 = 0 := hwf.1.2.2 lf
    have hqn : q = .nil := by
      cases q with
      | nil => rfl
      | cons z k n => have := hwf.2.1; simp [cnt'] at this; omega
    subst hqn
    have es : sht y .nil = strOfNums (D y.f1) ++ (B58 ++ Q y.f3) := by unfold sht leafT; rw [if_pos lf]
    have hQ := Q_size y.f3
    have sD : 0 < (strOfNums (D y.f1)).size := by rw [strOfNums_size]; exact hD
    rw [es] at hz hza ⊢
    have eS : a ++ ((strOfNums (D y.f1) ++ (B58 ++ Q y.f3)) ++ b) = a ++ (strOfNums (D y.f1) ++ (B58 ++ (Q y.f3 ++ b))) := by rw [app_assoc, app_assoc]
    rw [eS] at hz hza ⊢
    have hs2 : ((strOfNums (D y.f1) ++ (B58 ++ Q y.f3)).size) = (strOfNums (D y.f1)).size + (1 + (Q y.f3).size) := by rw [ByteArray.size_append, ByteArray.size_append, B58_size]
    have hnum := number_D (a := a) (c := B58 ++ (Q y.f3 ++ b)) hn (by rw [ByteArray.size_append, B58_size]; omega) (by rw [byteAt_first]; decide) hz (d : Int)
    have hat : nb (byteAt (a ++ (strOfNums (D y.f1) ++ (B58 ++ (Q y.f3 ++ b)))) (a.size : Int)) := by
      rw [byteAt_here _ _ (by rw [ByteArray.size_append]; omega)]; exact byteAt_D hn _
    have hat2 : ¬ byteAt (a ++ (strOfNums (D y.f1) ++ (B58 ++ (Q y.f3 ++ b)))) (a.size : Int) = 40 := by unfold nb at hat; omega
    have g : 0 ≤ (a.size : Int) ∧ (a.size : Int) < ((a ++ (strOfNums (D y.f1) ++ (B58 ++ (Q y.f3 ++ b)))).size : Int) := ⟨by omega, by omega⟩
    rw [if_pos g.2, if_pos g, Option.bind_some, if_neg (by simpa using hat2), hnum, Option.bind_some]
    dsimp only
    have hp1 : (a ++ strOfNums (D y.f1)).size = a.size + (strOfNums (D y.f1)).size := by rw [ByteArray.size_append]
    have g2 : 0 ≤ ((a ++ strOfNums (D y.f1)).size : Int) ∧ ((a ++ strOfNums (D y.f1)).size : Int) < ((a ++ (strOfNums (D y.f1) ++ (B58 ++ (Q y.f3 ++ b)))).size : Int) := ⟨by omega, by omega⟩
    have h58 : byteAt (a ++ (strOfNums (D y.f1) ++ (B58 ++ (Q y.f3 ++ b)))) ((a ++ strOfNums (D y.f1)).size : Int) = 58 := by
      rw [← app_assoc a, byteAt_here _ _ (by rw [ByteArray.size_append, B58_size]; omega), byteAt_first]; rfl
    have e1 : w64 (((a ++ strOfNums (D y.f1)).size : Int) + 1) = ((a ++ strOfNums (D y.f1) ++ B58).size : Int) := by
      rw [w64_id (by omega) (by omega), sz_app (a ++ strOfNums (D y.f1)), B58_size]; omega
    have hp2 : (a ++ strOfNums (D y.f1) ++ B58).size = a.size + (strOfNums (D y.f1)).size + 1 := by rw [ByteArray.size_append, ByteArray.size_append, B58_size]
    have ex : (a ++ (strOfNums (D y.f1) ++ (B58 ++ (Q y.f3 ++ b)))).extract (a ++ strOfNums (D y.f1) ++ B58).size (a ++ (strOfNums (D y.f1) ++ (B58 ++ (Q y.f3 ++ b)))).size = Q y.f3 ++ b := by
      have := extract_right (a ++ strOfNums (D y.f1) ++ B58) (Q y.f3 ++ b)
      have e : a ++ strOfNums (D y.f1) ++ B58 ++ (Q y.f3 ++ b) = a ++ (strOfNums (D y.f1) ++ (B58 ++ (Q y.f3 ++ b))) := by rw [app_assoc, app_assoc]
      rw [e] at this; exact this
    rw [if_neg (by decide), if_neg (by omega), if_pos g2, Option.bind_some, if_neg (by simpa using h58), e1, if_pos ⟨by omega, by omega, by omega⟩, Int.toNat_natCast, Int.toNat_natCast, ex, Q_back ho.1.2 (by omega), Option.bind_some]
    dsimp only
    have e3 : w64 (((a ++ strOfNums (D y.f1)).size : Int) + w64 (1 + ((Q y.f3).size : Int))) = ((a ++ (strOfNums (D y.f1) ++ (B58 ++ Q y.f3))).size : Int) := by
      rw [sz_app a (strOfNums (D y.f1) ++ (B58 ++ Q y.f3)), hs2, w64_id (n := 1 + ((Q y.f3).size : Int)) (by omega) (by omega), w64_id (by omega) (by omega)]; omega
    rw [e3]
    have ey : (y :: fl .nil).map px = [S43.mk true y.f1 0 y.f3] := by
      simp only [fl, List.map_cons, List.map_nil, px, if_pos lf]
      have : y = S43.mk true y.f1 0 y.f3 := by rw [← lf, ← hq0]
      exact congrArg (fun z => [z]) this
    rw [ey]
  · -- a node
    have es : sht y q = B40 ++ (strOfNums (D y.f1) ++ (shf q ++ B41)) := by unfold sht; rw [if_neg lf]
    rw [es] at hz hza ⊢
    have eS : a ++ ((B40 ++ (strOfNums (D y.f1) ++ (shf q ++ B41))) ++ b) = a ++ (B40 ++ (strOfNums (D y.f1) ++ (shf q ++ (B41 ++ b)))) := by rw [app_assoc, app_assoc, app_assoc]
    rw [eS] at hz hza ⊢
    have hsz : (B40 ++ (strOfNums (D y.f1) ++ (shf q ++ B41))).size = 1 + ((strOfNums (D y.f1)).size + ((shf q).size + 1)) := by rw [ByteArray.size_append, ByteArray.size_append, ByteArray.size_append, B40_size, B41_size]
    have g : 0 ≤ (a.size : Int) ∧ (a.size : Int) < ((a ++ (B40 ++ (strOfNums (D y.f1) ++ (shf q ++ (B41 ++ b))))).size : Int) := ⟨by omega, by omega⟩
    have h40 : byteAt (a ++ (B40 ++ (strOfNums (D y.f1) ++ (shf q ++ (B41 ++ b))))) (a.size : Int) = 40 := by
      rw [byteAt_here _ _ (by rw [ByteArray.size_append, B40_size]; omega), byteAt_first]; rfl
    obtain ⟨j2, rfl⟩ : ∃ j2, j1 = j2 + 1 := ⟨j1 - 1, by omega⟩
    rw [if_pos g.2, if_pos g, Option.bind_some, if_pos (decide_eq_true h40), ast_reader_node_r.eq_2]
    dsimp only
    have e1 : w64 ((a.size : Int) + 1) = ((a ++ B40).size : Int) := by rw [w64_id (by omega) (by omega), ByteArray.size_append, B40_size]; omega
    have e2 : w64 ((d : Int) + 1) = ((d + 1 : Nat) : Int) := by rw [w64_id (by omega) (by omega)]; omega
    have eS2 : a ++ (B40 ++ (strOfNums (D y.f1) ++ (shf q ++ (B41 ++ b)))) = (a ++ B40) ++ (strOfNums (D y.f1) ++ (shf q ++ (B41 ++ b))) := by rw [app_assoc]
    have hz2 := hz
    rw [eS2] at hz2
    have hnum := number_D (a := a ++ B40) (c := shf q ++ (B41 ++ b)) hn (by rw [ByteArray.size_append, ByteArray.size_append, B41_size]; omega) (shf_first q b) hz2 ((d + 1 : Nat) : Int)
    rw [e1, e2, if_neg (by omega), eS2, hnum, Option.bind_some]
    dsimp only
    have eS3 : (a ++ B40) ++ (strOfNums (D y.f1) ++ (shf q ++ (B41 ++ b))) = (a ++ B40 ++ strOfNums (D y.f1)) ++ (shf q ++ (B41 ++ b)) := by rw [app_assoc (a ++ B40)]
    rw [eS3]
    rw [eS3] at hz2
    have hcq := cnt_le q
    rw [hq j2 (a ++ B40 ++ strOfNums (D y.f1)) b [] _ (d + 1) 2000 (by omega) (by omega) (by omega) (by simp; omega) hl hz2]
    unfold ast_reader_node_c0
    have hpos : (a ++ B40 ++ strOfNums (D y.f1) ++ shf q).size = a.size + 1 + (strOfNums (D y.f1)).size + (shf q).size := by rw [ByteArray.size_append, ByteArray.size_append, ByteArray.size_append, B40_size]
    have hfull : (a ++ B40 ++ strOfNums (D y.f1) ++ (shf q ++ (B41 ++ b))).size = a.size + 1 + (strOfNums (D y.f1)).size + ((shf q).size + (1 + b.size)) := by rw [ByteArray.size_append, ByteArray.size_append, ByteArray.size_append, ByteArray.size_append, ByteArray.size_append, B40_size, B41_size]
    have g3 : 0 ≤ ((a ++ B40 ++ strOfNums (D y.f1) ++ shf q).size : Int) ∧ ((a ++ B40 ++ strOfNums (D y.f1) ++ shf q).size : Int) < ((a ++ B40 ++ strOfNums (D y.f1) ++ (shf q ++ (B41 ++ b))).size : Int) := ⟨by omega, by omega⟩
    have h41 : byteAt (a ++ B40 ++ strOfNums (D y.f1) ++ (shf q ++ (B41 ++ b))) ((a ++ B40 ++ strOfNums (D y.f1) ++ shf q).size : Int) = 41 := by
      rw [← app_assoc (a ++ B40 ++ strOfNums (D y.f1)), byteAt_here _ _ (by rw [ByteArray.size_append, B41_size]; omega), byteAt_first]; rfl
    have hpf : ((pcs q).map (List.map px)).flatten = (fl q).map px := by rw [map_flat, pcs_fl]
    rw [if_neg (by decide), if_neg (by omega), if_pos g3, Option.bind_some, if_neg (by simpa using h41), List.nil_append, join_eq (by omega) _ _ (by rw [hpf, List.length_map]; omega) (by rw [List.length_map, pcs_len]; omega), Option.bind_some, hpf, List.length_map, pcs_len, Option.bind_some]
    dsimp only
    have e4 : w64 (((a ++ B40 ++ strOfNums (D y.f1) ++ shf q).size : Int) + 1) = ((a ++ (B40 ++ (strOfNums (D y.f1) ++ (shf q ++ B41)))).size : Int) := by
      rw [w64_id (by omega) (by omega), sz_app a, hsz]; omega
    have e5 : w64 (((d + 1 : Nat) : Int) - 1) = (d : Int) := by rw [w64_id (by omega) (by omega)]; omega
    have ey : (y :: fl q).map px = S43.mk false y.f1 (cnt' q : Int) ByteArray.empty :: (fl q).map px := by
      have lf' : y.f0 = false := by simpa using lf
      simp only [List.map_cons, px, lf', Bool.false_eq_true, if_false]
      rw [hwf.2.1]
    rw [e4, e5, ey]
theorem loop_F : ∀ (F : Fo), WF F → FOK F → LoopP F
  | .nil, _, _ => by
    intro j a b acc t3 d fuel hj hf hd ha hl hz
    obtain ⟨f, rfl⟩ : ∃ f, fuel = f + 1 := ⟨fuel - 1, by omega⟩
    have h0 : a ++ (shf .nil ++ (B41 ++ b)) = a ++ (B41 ++ b) := by rw [shf, nil_app]
    have h1 : a ++ shf .nil = a := by rw [shf, app_nil]
    rw [h0] at hz ⊢
    rw [h1]
    have hza : (a ++ (B41 ++ b)).size = a.size + (1 + b.size) := by rw [ByteArray.size_append, ByteArray.size_append, B41_size]
    have g : 0 ≤ (a.size : Int) ∧ (a.size : Int) < ((a ++ (B41 ++ b)).size : Int) := ⟨by omega, by omega⟩
    have h41 : byteAt (a ++ (B41 ++ b)) (a.size : Int) = 41 := by
      rw [byteAt_here _ _ (by rw [ByteArray.size_append, B41_size]; omega), byteAt_first]; rfl
    rw [ast_reader_node_l1.eq_2, if_pos rfl, if_pos g.2, if_pos g, Option.bind_some, if_neg (by rw [h41]; decide), pcs]
    simp
  | .cons y q n, h, ho => by
    intro j a b acc t3 d fuel hj hf hd ha hl hz
    obtain ⟨f, rfl⟩ : ∃ f, fuel = f + 1 := ⟨fuel - 1, by omega⟩
    have ihq := loop_F q h.2.2.1 ho.2.1
    have ihn := loop_F n h.2.2.2 ho.2.2
    have hlen : (fl (.cons y q n)).length = (fl q).length + (fl n).length + 1 := by simp [fl]
    simp only [cnt'] at hf ha
    have eS : a ++ (shf (.cons y q n) ++ (B41 ++ b)) = (a ++ B32) ++ (sht y q ++ (shf n ++ (B41 ++ b))) := by rw [shf_cons, app_assoc, app_assoc, app_assoc]
    have eP : a ++ shf (.cons y q n) = (a ++ B32 ++ sht y q) ++ shf n := by rw [shf_cons, app_assoc, app_assoc]
    rw [eS] at hz ⊢
    rw [eP]
    have hza : ((a ++ B32) ++ (sht y q ++ (shf n ++ (B41 ++ b)))).size = a.size + 1 + ((sht y q).size + ((shf n).size + (1 + b.size))) := by rw [ByteArray.size_append, ByteArray.size_append, ByteArray.size_append, ByteArray.size_append, ByteArray.size_append, B32_size, B41_size]
    have g : 0 ≤ (a.size : Int) ∧ (a.size : Int) < (((a ++ B32) ++ (sht y q ++ (shf n ++ (B41 ++ b)))).size : Int) := ⟨by omega, by omega⟩
    have h32 : byteAt ((a ++ B32) ++ (sht y q ++ (shf n ++ (B41 ++ b)))) (a.size : Int) = 32 := by
      rw [app_assoc, byteAt_here _ _ (by rw [ByteArray.size_append, B32_size]; omega), byteAt_first]; rfl
    have e1 : w64 ((a.size : Int) + 1) = ((a ++ B32).size : Int) := by rw [w64_id (by omega) (by omega), ByteArray.size_append, B32_size]; omega
    have ht := tree_of (y := y) (q := q) ⟨h.1, h.2.1, h.2.2.1, trivial⟩ ⟨ho.1, ho.2.1, trivial⟩ ihq j (a ++ B32) (shf n ++ (B41 ++ b)) d (by omega) (by omega) (by omega) hz
    rw [ast_reader_node_l1.eq_2, if_pos rfl, if_pos g.2, if_pos g, Option.bind_some, if_pos (decide_eq_true h32), e1, ht, Option.bind_some]
    dsimp only
    have eS2 : (a ++ B32) ++ (sht y q ++ (shf n ++ (B41 ++ b))) = (a ++ B32 ++ sht y q) ++ (shf n ++ (B41 ++ b)) := by rw [app_assoc (a ++ B32)]
    rw [if_pos (by simp; omega), eS2]
    rw [eS2] at hz
    rw [ihn j (a ++ B32 ++ sht y q) b (acc ++ [(y :: fl q).map px]) t3 d f (by omega) (by omega) (by omega) (by simp; omega) (by omega) hz]
    simp [pcs]
/-- A tree's text, whole. -/
theorem read_tree {x : S43} {ks : Fo} (h : WF (.cons x ks .nil)) (ho : FOK (.cons x ks .nil)) (hl : (x :: fl ks).length ≤ 900) (hz : (sht x ks).size ≤ 100000) :
    ast_reader_tree 2000 ⟨sht x ks, 0, 0⟩ = some ((x :: fl ks).map px, true, ⟨sht x ks, ((sht x ks).size : Int), 0⟩) := by
  have e : ByteArray.mk #[] ++ (sht x ks ++ ByteArray.mk #[]) = sht x ks := by rw [nil_app, app_nil]
  have hxl : (x :: fl ks).length = (fl ks).length + 1 := by simp
  have := tree_of h ho (loop_F ks h.2.2.1 ho.2.1) 2000 (ByteArray.mk #[]) (ByteArray.mk #[]) 0 (by omega) (by omega) (by omega) (by rw [e]; exact hz)
  rw [e, nil_app] at this
  exact this
end Go.Avl.T2
/- Trees as lists: a tree's text is read as it, by the reference. -/
namespace Go.Avl.T2
open Go Go.RowKit Go.Proofs Go.Avl
set_option linter.all false
set_option maxRecDepth 10000

theorem runquote_l {q : Int} (hq : quo q) (hq10 : q ≠ 10) (s t : ByteArray) (hs : s.size ≤ 1000) (ht : t.size ≤ 200000) : ∀ (m i fuel : Nat) (a : ByteArray) (acc : List Int), i + m = s.size → m < fuel → a.size + 4 * m ≤ 100000 → acc.length + m ≤ 100000 →
    bosketref03_Unquote_l1 2000 (a ++ (catn q s i m ++ (strOfNums [q] ++ t))) q fuel (strOfNums acc) a.size = some (strOfNums (acc ++ lst s i m), ((a.size + (catn q s i m).size + 1 : Nat) : Int), true)
  | 0, i, f + 1, a, acc, h, _, hz, hl => by
    have qr : 0 ≤ q ∧ q ≤ 255 := by have := hq.1; unfold sign at this; omega
    have hz1 : (strOfNums [q]).size = 1 := strOfNums_size _
    have e : catn q s i 0 ++ (strOfNums [q] ++ t) = strOfNums [q] ++ t := by apply ByteArray.ext; apply Array.ext'; simp [catn]
    rw [e, bosketref03_Unquote_l1.eq_2]
    have h1 : (a.size : Int) < ((a ++ (strOfNums [q] ++ t)).size : Int) := by rw [ByteArray.size_append, ByteArray.size_append]; omega
    have g : 0 ≤ (a.size : Int) ∧ (a.size : Int) < ((a ++ (strOfNums [q] ++ t)).size : Int) := ⟨by omega, h1⟩
    have hb : byteAt (a ++ (strOfNums [q] ++ t)) (a.size : Int) = q := by
      have := byteAt_right a (strOfNums [q] ++ t) 0 (by rw [ByteArray.size_append]; omega)
      rw [Nat.add_zero] at this
      rw [this, byteAt_app _ _ 0 (by omega), byteAt_strOf [q] (by simp; omega) 0 (by simp)]; rfl
    rw [if_pos h1, if_pos g, if_neg (by simp [hb]), Option.bind_some, if_neg (by decide), bosketref03_Unquote_c0, if_neg (by omega), if_pos g, Option.bind_some, if_neg (by simp [hb]), w64_id (by omega) (by omega)]
    simp [catn, lst, emp_size]
  | m + 1, i, f + 1, a, acc, h, hf, hz, hl => by
    have hb := byteAt_u8 s i
    obtain ⟨b1, b2, b3, b4, b5, b6, b7⟩ := bt_ok hq (byteAt s i) hb.1 hb.2
    have hcs := catn_size hq s m (i + 1)
    have hz1 : (strOfNums [q]).size = 1 := strOfNums_size _
    have hRz : (catn q s (i + 1) m ++ (strOfNums [q] ++ t)).size = (catn q s (i + 1) m).size + (1 + t.size) := by rw [ByteArray.size_append, ByteArray.size_append, hz1]
    generalize hR : catn q s (i + 1) m ++ (strOfNums [q] ++ t) = R at hRz
    have eS : a ++ (catn q s i (m + 1) ++ (strOfNums [q] ++ t)) = a ++ (bt q (byteAt s i) ++ R) := by rw [catn, app_assoc (bt q (byteAt s i)), hR]
    rw [eS, bosketref03_Unquote_l1.eq_2]
    have sz : (a ++ (bt q (byteAt s i) ++ R)).size = a.size + ((bt q (byteAt s i)).size + R.size) := by rw [ByteArray.size_append, ByteArray.size_append]
    have h1 : (a.size : Int) < ((a ++ (bt q (byteAt s i) ++ R)).size : Int) := by omega
    have g : 0 ≤ (a.size : Int) ∧ (a.size : Int) < ((a ++ (bt q (byteAt s i) ++ R)).size : Int) := ⟨by omega, h1⟩
    have hd : byteAt (a ++ (bt q (byteAt s i) ++ R)) (a.size : Int) = byteAt (bt q (byteAt s i)) 0 := by
      have := byteAt_right a (bt q (byteAt s i) ++ R) 0 (by rw [ByteArray.size_append]; omega)
      rw [Nat.add_zero] at this
      rw [this, byteAt_app _ _ 0 (by omega)]; rfl
    have ex : (a ++ (bt q (byteAt s i) ++ R)).extract (a.size : Int).toNat (((a ++ (bt q (byteAt s i) ++ R)).size : Nat) : Int).toNat = bt q (byteAt s i) ++ R := by
      rw [Int.toNat_natCast, Int.toNat_natCast]; exact extract_right _ _
    obtain ⟨u, u1, u2⟩ := read_eq (bt q (byteAt s i) ++ R) (by rw [ByteArray.size_append]; omega)
    rw [b7] at u1
    have u1 := Option.some.inj u1
    have e2 : strOfNums acc ++ strOfNums [byteAt s i] = strOfNums (acc ++ [byteAt s i]) := by apply ByteArray.ext; apply Array.ext'; simp [strOfNums]
    have gz : (strOfNums acc).size + (strOfNums [byteAt s i]).size ≤ 9223372036854775807 := by rw [strOfNums_size, strOfNums_size]; simp; omega
    rw [if_pos h1, if_pos g, if_pos (show byteAt (a ++ (bt q (byteAt s i) ++ R)) (a.size : Int) ≠ q by rw [hd]; exact b5), if_pos g, Option.bind_some, if_pos (decide_eq_true (show byteAt (a ++ (bt q (byteAt s i) ++ R)) (a.size : Int) ≠ 10 by rw [hd]; exact b6)), if_pos ⟨by omega, by omega, by omega⟩, ex, u2, ← u1, Option.bind_some]
    dsimp only
    rw [if_neg (by simp), if_pos gz, w64_id (by omega) (by omega), e2]
    have ih := runquote_l hq hq10 s t hs ht m (i + 1) f (a ++ bt q (byteAt s i)) (acc ++ [byteAt s i]) (by omega) (by omega) (by rw [ByteArray.size_append]; omega) (by simp; omega)
    rw [app_assoc, hR, ByteArray.size_append] at ih
    push_cast at ih ⊢
    rw [ih]
    simp only [Option.some.injEq, Prod.mk.injEq, and_true]
    refine ⟨by rw [lst]; simp, ?_⟩
    rw [catn, ByteArray.size_append]; push_cast; omega
theorem Q_rback {t p : ByteArray} (h : t.size ≤ 1000) (hp : p.size ≤ 200000) : bosketref03_Unquote 2000 (Q t ++ p) 34 = some (t, ((Q t).size : Int), true) := by
  have hz1 : (strOfNums [(34 : Int)]).size = 1 := strOfNums_size _
  have x := runquote_l quo34 (by decide) t p (by omega) (by omega) t.size 0 2000 (strOfNums [(34 : Int)]) [] (by omega) (by omega) (by omega) (by simp; omega)
  have eX : Q t ++ p = strOfNums [(34 : Int)] ++ (catn 34 t 0 t.size ++ (strOfNums [(34 : Int)] ++ p)) := by unfold Q; rw [app_assoc, app_assoc]
  have sX : (strOfNums [(34 : Int)] ++ (catn 34 t 0 t.size ++ (strOfNums [(34 : Int)] ++ p))).size = 1 + ((catn 34 t 0 t.size).size + (1 + p.size)) := by rw [ByteArray.size_append, ByteArray.size_append, ByteArray.size_append, hz1]
  have hs : (Q t).size = 1 + (catn 34 t 0 t.size).size + 1 := by unfold Q; rw [ByteArray.size_append, ByteArray.size_append, hz1]
  have g : 0 ≤ (0 : Int) ∧ (0 : Int) < ((strOfNums [(34 : Int)] ++ (catn 34 t 0 t.size ++ (strOfNums [(34 : Int)] ++ p))).size : Int) := ⟨by omega, by omega⟩
  have hq : byteAt (strOfNums [(34 : Int)] ++ (catn 34 t 0 t.size ++ (strOfNums [(34 : Int)] ++ p))) 0 = 34 := by
    have := byteAt_app (strOfNums [(34 : Int)]) (catn 34 t 0 t.size ++ (strOfNums [(34 : Int)] ++ p)) 0 (by omega)
    rw [show (0 : Int) = ((0 : Nat) : Int) from rfl, this, byteAt_strOf [(34 : Int)] (by simp) 0 (by simp)]; rfl
  rw [eX, hs]
  unfold bosketref03_Unquote
  rw [if_neg (ne_nil (by omega)), if_pos g, Option.bind_some, if_neg (by simpa using hq)]
  rw [hz1, List.nil_append, lst_all] at x
  exact x
def RLoopP (F : Fo) : Prop := ∀ (j : Nat) (a b : ByteArray) (out : List S43) (d c fuel : Nat), (fl F).length < j → cnt' F < fuel → d + (fl F).length ≤ 1990 → out.length + (fl F).length ≤ 1000 → c + cnt' F ≤ 5000 → (a ++ (shf F ++ (B41 ++ b))).size ≤ 100000 →
  bosketref31_read_l1 2000 (bosketref31_read_r 2000 j) (a ++ (shf F ++ (B41 ++ b))) (d : Int) fuel (a.size : Int) out (c : Int) = bosketref31_read_c0 2000 (a ++ (shf F ++ (B41 ++ b))) ((a ++ shf F).size : Int) (out ++ (fl F).map px) ((c + cnt' F : Nat) : Int)
theorem rtree_of {y : S43} {q : Fo} (hwf : WF (.cons y q .nil)) (ho : FOK (.cons y q .nil)) (hq : RLoopP q) (j : Nat) (a b : ByteArray) (d : Nat) (hj : (fl q).length + 1 < j) (hd : d + (fl q).length ≤ 1990) (hl : (fl q).length ≤ 999) (hz : (a ++ (sht y q ++ b)).size ≤ 100000) :
    bosketref31_read_r 2000 j (a ++ (sht y q ++ b)) (a.size : Int) (d : Int) = some ((y :: fl q).map px, ((a ++ sht y q).size : Int)) := by
  have hn := ho.1.1
  have hD := D_pos hn
  have hDl := D_len hn
  obtain ⟨j1, rfl⟩ : ∃ j1, j = j1 + 1 := ⟨j - 1, by omega⟩
  rw [bosketref31_read_r.eq_2]
  have hza : (a ++ (sht y q ++ b)).size = a.size + ((sht y q).size + b.size) := by rw [ByteArray.size_append, ByteArray.size_append]
  by_cases lf : y.f0 = true
  · have hq0 : y.f2 = 0 := hwf.1.2.2 lf
    have hqn : q = .nil := by
      cases q with
      | nil => rfl
      | cons z k n => have := hwf.2.1; simp [cnt'] at this; omega
    subst hqn
    have es : sht y .nil = strOfNums (D y.f1) ++ (B58 ++ Q y.f3) := by unfold sht leafT; rw [if_pos lf]
    have hQ := Q_size y.f3
    have sD : 0 < (strOfNums (D y.f1)).size := by rw [strOfNums_size]; exact hD
    have sDl : (strOfNums (D y.f1)).size ≤ 20 := by rw [strOfNums_size]; exact hDl
    rw [es] at hz hza ⊢
    have eS : a ++ ((strOfNums (D y.f1) ++ (B58 ++ Q y.f3)) ++ b) = a ++ (strOfNums (D y.f1) ++ (B58 ++ (Q y.f3 ++ b))) := by rw [app_assoc, app_assoc]
    rw [eS] at hz hza ⊢
    have hs2 : ((strOfNums (D y.f1) ++ (B58 ++ Q y.f3)).size) = (strOfNums (D y.f1)).size + (1 + (Q y.f3).size) := by rw [ByteArray.size_append, ByteArray.size_append, B58_size]
    have hends := ends_D (a := a) (c := B58 ++ (Q y.f3 ++ b)) hn (by rw [ByteArray.size_append, B58_size]; omega) (by rw [byteAt_first]; decide)
    have hat : nb (byteAt (a ++ (strOfNums (D y.f1) ++ (B58 ++ (Q y.f3 ++ b)))) (a.size : Int)) := by
      rw [byteAt_here _ _ (by rw [ByteArray.size_append]; omega)]; exact byteAt_D hn _
    have hat2 : ¬ byteAt (a ++ (strOfNums (D y.f1) ++ (B58 ++ (Q y.f3 ++ b)))) (a.size : Int) = 40 := by unfold nb at hat; omega
    have g : 0 ≤ (a.size : Int) ∧ (a.size : Int) < ((a ++ (strOfNums (D y.f1) ++ (B58 ++ (Q y.f3 ++ b)))).size : Int) := ⟨by omega, by omega⟩
    have edec : decide (byteAt (a ++ (strOfNums (D y.f1) ++ (B58 ++ (Q y.f3 ++ b)))) (a.size : Int) = 40) = false := decide_eq_false hat2
    rw [if_pos g.2, if_pos g, Option.bind_some, edec, if_neg (by decide)]
    unfold bosketref31_read_c4
    rw [rscan_l _ (by omega) _ _ _ _ (strOfNums (D y.f1)).size a.size 2000 rfl (by omega) hends]
    unfold bosketref31_read_c2
    have hp1 : (a ++ strOfNums (D y.f1)).size = a.size + (strOfNums (D y.f1)).size := by rw [ByteArray.size_append]
    have g2 : 0 ≤ ((a.size + (strOfNums (D y.f1)).size : Nat) : Int) ∧ ((a.size + (strOfNums (D y.f1)).size : Nat) : Int) < ((a ++ (strOfNums (D y.f1) ++ (B58 ++ (Q y.f3 ++ b)))).size : Int) := ⟨by omega, by omega⟩
    have h58 : byteAt (a ++ (strOfNums (D y.f1) ++ (B58 ++ (Q y.f3 ++ b)))) ((a.size + (strOfNums (D y.f1)).size : Nat) : Int) = 58 := by
      rw [← hp1, ← app_assoc a, byteAt_here _ _ (by rw [ByteArray.size_append, B58_size]; omega), byteAt_first]; rfl
    have e1 : w64 (((a.size + (strOfNums (D y.f1)).size : Nat) : Int) + 1) = ((a ++ strOfNums (D y.f1) ++ B58).size : Int) := by
      rw [w64_id (by omega) (by omega), sz_app (a ++ strOfNums (D y.f1)), B58_size]; omega
    have hp2 : (a ++ strOfNums (D y.f1) ++ B58).size = a.size + (strOfNums (D y.f1)).size + 1 := by rw [ByteArray.size_append, ByteArray.size_append, B58_size]
    have ex : (a ++ (strOfNums (D y.f1) ++ (B58 ++ (Q y.f3 ++ b)))).extract (a ++ strOfNums (D y.f1) ++ B58).size (a ++ (strOfNums (D y.f1) ++ (B58 ++ (Q y.f3 ++ b)))).size = Q y.f3 ++ b := by
      have := extract_right (a ++ strOfNums (D y.f1) ++ B58) (Q y.f3 ++ b)
      have e : a ++ strOfNums (D y.f1) ++ B58 ++ (Q y.f3 ++ b) = a ++ (strOfNums (D y.f1) ++ (B58 ++ (Q y.f3 ++ b))) := by rw [app_assoc, app_assoc]
      rw [e] at this; exact this
    have hnum : bosketref13_Number 2000 (strOfNums (D y.f1)) = some (y.f1, true) := by rw [numbers_eq (D_byt hn) (by omega), sn_D hn]
    rw [if_pos ⟨by omega, by omega, by omega⟩, Int.toNat_natCast, Int.toNat_natCast, extract_mid, hnum, Option.bind_some]
    dsimp only
    rw [if_neg (by decide), if_neg (by omega), Option.bind_some, if_neg (by simp; omega), if_pos (by rfl), e1, if_pos ⟨by omega, by omega, by omega⟩, Int.toNat_natCast, Int.toNat_natCast, ex, Q_rback ho.1.2 (by omega), Option.bind_some, if_pos g2, if_neg (not_not_intro h58), Option.bind_some, if_neg (by simp)]
    have e3 : w64 (((a ++ strOfNums (D y.f1) ++ B58).size : Int) + ((Q y.f3).size : Int)) = ((a ++ (strOfNums (D y.f1) ++ (B58 ++ Q y.f3))).size : Int) := by
      rw [sz_app a (strOfNums (D y.f1) ++ (B58 ++ Q y.f3)), hs2, w64_id (by omega) (by omega)]; omega
    dsimp only
    rw [e3]
    have ey : (y :: fl .nil).map px = [S43.mk true y.f1 0 y.f3] := by
      simp only [fl, List.map_cons, List.map_nil, px, if_pos lf]
      have : y = S43.mk true y.f1 0 y.f3 := by rw [← lf, ← hq0]
      exact congrArg (fun z => [z]) this
    rw [ey]
  · have es : sht y q = B40 ++ (strOfNums (D y.f1) ++ (shf q ++ B41)) := by unfold sht; rw [if_neg lf]
    rw [es] at hz hza ⊢
    have sDl : (strOfNums (D y.f1)).size ≤ 20 := by rw [strOfNums_size]; exact hDl
    have eS : a ++ ((B40 ++ (strOfNums (D y.f1) ++ (shf q ++ B41))) ++ b) = a ++ (B40 ++ (strOfNums (D y.f1) ++ (shf q ++ (B41 ++ b)))) := by rw [app_assoc, app_assoc, app_assoc]
    rw [eS] at hz hza ⊢
    have hsz : (B40 ++ (strOfNums (D y.f1) ++ (shf q ++ B41))).size = 1 + ((strOfNums (D y.f1)).size + ((shf q).size + 1)) := by rw [ByteArray.size_append, ByteArray.size_append, ByteArray.size_append, B40_size, B41_size]
    have g : 0 ≤ (a.size : Int) ∧ (a.size : Int) < ((a ++ (B40 ++ (strOfNums (D y.f1) ++ (shf q ++ (B41 ++ b))))).size : Int) := ⟨by omega, by omega⟩
    have h40 : byteAt (a ++ (B40 ++ (strOfNums (D y.f1) ++ (shf q ++ (B41 ++ b))))) (a.size : Int) = 40 := by
      rw [byteAt_here _ _ (by rw [ByteArray.size_append, B40_size]; omega), byteAt_first]; rfl
    have edec : decide (byteAt (a ++ (B40 ++ (strOfNums (D y.f1) ++ (shf q ++ (B41 ++ b))))) (a.size : Int) = 40) = true := decide_eq_true h40
    have e1 : w64 ((a.size : Int) + 1) = ((a ++ B40).size : Int) := by rw [w64_id (by omega) (by omega), ByteArray.size_append, B40_size]; omega
    have hA : (a ++ B40).size = a.size + 1 := by rw [ByteArray.size_append, B40_size]
    have eS2 : a ++ (B40 ++ (strOfNums (D y.f1) ++ (shf q ++ (B41 ++ b)))) = (a ++ B40) ++ (strOfNums (D y.f1) ++ (shf q ++ (B41 ++ b))) := by rw [app_assoc]
    have hends := ends_D (a := a ++ B40) (c := shf q ++ (B41 ++ b)) hn (by rw [ByteArray.size_append, ByteArray.size_append, B41_size]; omega) (shf_first q b)
    rw [if_pos g.2, if_pos g, Option.bind_some, edec, if_pos rfl, e1]
    unfold bosketref31_read_c4
    rw [eS2] at hz hza ⊢
    rw [rscan_l _ (by omega) _ _ _ _ (strOfNums (D y.f1)).size (a ++ B40).size 2000 rfl (by omega) hends]
    unfold bosketref31_read_c2
    have hnum : bosketref13_Number 2000 (strOfNums (D y.f1)) = some (y.f1, true) := by rw [numbers_eq (D_byt hn) (by omega), sn_D hn]
    rw [if_pos ⟨by omega, by omega, by omega⟩, Int.toNat_natCast, Int.toNat_natCast, extract_mid, hnum, Option.bind_some]
    dsimp only
    have eS3 : (a ++ B40) ++ (strOfNums (D y.f1) ++ (shf q ++ (B41 ++ b))) = (a ++ B40 ++ strOfNums (D y.f1)) ++ (shf q ++ (B41 ++ b)) := by rw [app_assoc (a ++ B40)]
    have hP : (a ++ B40 ++ strOfNums (D y.f1)).size = (a ++ B40).size + (strOfNums (D y.f1)).size := by rw [ByteArray.size_append]
    rw [if_neg (by decide), if_neg (by omega), Option.bind_some, if_neg (by simp; omega), if_neg (by decide), ← hP, eS3]
    rw [eS3] at hz hza
    have hcq := cnt_le q
    have e0 : ((0 : Nat) : Int) = 0 := rfl
    have := hq j1 (a ++ B40 ++ strOfNums (D y.f1)) b [S43.mk false y.f1 0 ByteArray.empty] d 0 2000 (by omega) (by omega) hd (by simp; omega) (by omega) hz
    rw [e0] at this
    rw [this]
    unfold bosketref31_read_c0
    have hpos : (a ++ B40 ++ strOfNums (D y.f1) ++ shf q).size = a.size + 1 + (strOfNums (D y.f1)).size + (shf q).size := by rw [ByteArray.size_append, ByteArray.size_append, ByteArray.size_append, B40_size]
    have hfull : (a ++ B40 ++ strOfNums (D y.f1) ++ (shf q ++ (B41 ++ b))).size = a.size + 1 + (strOfNums (D y.f1)).size + ((shf q).size + (1 + b.size)) := by rw [ByteArray.size_append, ByteArray.size_append, ByteArray.size_append, ByteArray.size_append, ByteArray.size_append, B40_size, B41_size]
    have g3 : 0 ≤ ((a ++ B40 ++ strOfNums (D y.f1) ++ shf q).size : Int) ∧ ((a ++ B40 ++ strOfNums (D y.f1) ++ shf q).size : Int) < ((a ++ B40 ++ strOfNums (D y.f1) ++ (shf q ++ (B41 ++ b))).size : Int) := ⟨by omega, by omega⟩
    have h41 : byteAt (a ++ B40 ++ strOfNums (D y.f1) ++ (shf q ++ (B41 ++ b))) ((a ++ B40 ++ strOfNums (D y.f1) ++ shf q).size : Int) = 41 := by
      rw [← app_assoc (a ++ B40 ++ strOfNums (D y.f1)), byteAt_here _ _ (by rw [ByteArray.size_append, B41_size]; omega), byteAt_first]; rfl
    have e4 : w64 (((a ++ B40 ++ strOfNums (D y.f1) ++ shf q).size : Int) + 1) = ((a ++ (B40 ++ (strOfNums (D y.f1) ++ (shf q ++ B41)))).size : Int) := by
      rw [w64_id (by omega) (by omega), sz_app a, hsz]; omega
    have el : lget ([S43.mk false y.f1 0 ByteArray.empty] ++ (fl q).map px) 0 = S43.mk false y.f1 0 ByteArray.empty := rfl
    rw [if_neg (by omega), if_pos g3, Option.bind_some, if_neg (by rw [h41]; decide), if_pos ⟨by omega, by simp⟩, e4, el, Nat.zero_add]
    dsimp only
    have ey : lset ([S43.mk false y.f1 0 ByteArray.empty] ++ (fl q).map px) 0 (S43.mk false y.f1 (cnt' q : Int) ByteArray.empty) = (y :: fl q).map px := by
      have lf' : y.f0 = false := by simpa using lf
      simp only [List.map_cons, px, lf', Bool.false_eq_true, if_false]
      rw [hwf.2.1]; rfl
    rw [ey]
theorem rloop_F : ∀ (F : Fo), WF F → FOK F → RLoopP F
  | .nil, _, _ => by
    intro j a b out d c fuel hj hf hd ha hc hz
    obtain ⟨f, rfl⟩ : ∃ f, fuel = f + 1 := ⟨fuel - 1, by omega⟩
    have h0 : a ++ (shf .nil ++ (B41 ++ b)) = a ++ (B41 ++ b) := by rw [shf, nil_app]
    have h1 : a ++ shf .nil = a := by rw [shf, app_nil]
    rw [h0] at hz ⊢
    rw [h1]
    have hza : (a ++ (B41 ++ b)).size = a.size + (1 + b.size) := by rw [ByteArray.size_append, ByteArray.size_append, B41_size]
    have g : 0 ≤ (a.size : Int) ∧ (a.size : Int) < ((a ++ (B41 ++ b)).size : Int) := ⟨by omega, by omega⟩
    have h41 : byteAt (a ++ (B41 ++ b)) (a.size : Int) = 41 := by
      rw [byteAt_here _ _ (by rw [ByteArray.size_append, B41_size]; omega), byteAt_first]; rfl
    rw [bosketref31_read_l1.eq_2, if_pos g.2, if_pos g, Option.bind_some, if_neg (by rw [h41]; decide)]
    simp [fl, cnt']
  | .cons y q n, h, ho => by
    intro j a b out d c fuel hj hf hd ha hc hz
    obtain ⟨f, rfl⟩ : ∃ f, fuel = f + 1 := ⟨fuel - 1, by omega⟩
    have ihq := rloop_F q h.2.2.1 ho.2.1
    have ihn := rloop_F n h.2.2.2 ho.2.2
    have hlen : (fl (.cons y q n)).length = (fl q).length + (fl n).length + 1 := by simp [fl]
    simp only [cnt'] at hf hc
    have eS : a ++ (shf (.cons y q n) ++ (B41 ++ b)) = (a ++ B32) ++ (sht y q ++ (shf n ++ (B41 ++ b))) := by rw [shf_cons, app_assoc, app_assoc, app_assoc]
    have eP : a ++ shf (.cons y q n) = (a ++ B32 ++ sht y q) ++ shf n := by rw [shf_cons, app_assoc, app_assoc]
    rw [eS] at hz ⊢
    rw [eP]
    have hza : ((a ++ B32) ++ (sht y q ++ (shf n ++ (B41 ++ b)))).size = a.size + 1 + ((sht y q).size + ((shf n).size + (1 + b.size))) := by rw [ByteArray.size_append, ByteArray.size_append, ByteArray.size_append, ByteArray.size_append, ByteArray.size_append, B32_size, B41_size]
    have g : 0 ≤ (a.size : Int) ∧ (a.size : Int) < (((a ++ B32) ++ (sht y q ++ (shf n ++ (B41 ++ b)))).size : Int) := ⟨by omega, by omega⟩
    have h32 : byteAt ((a ++ B32) ++ (sht y q ++ (shf n ++ (B41 ++ b)))) (a.size : Int) = 32 := by
      rw [app_assoc, byteAt_here _ _ (by rw [ByteArray.size_append, B32_size]; omega), byteAt_first]; rfl
    have e1 : w64 ((a.size : Int) + 1) = ((a ++ B32).size : Int) := by rw [w64_id (by omega) (by omega), ByteArray.size_append, B32_size]; omega
    have e2 : w64 ((d : Int) + 1) = ((d + 1 : Nat) : Int) := by rw [w64_id (by omega) (by omega)]; omega
    have e3 : w64 ((c : Int) + 1) = ((c + 1 : Nat) : Int) := by rw [w64_id (by omega) (by omega)]; omega
    have ht := rtree_of (y := y) (q := q) ⟨h.1, h.2.1, h.2.2.1, trivial⟩ ⟨ho.1, ho.2.1, trivial⟩ ihq j (a ++ B32) (shf n ++ (B41 ++ b)) (d + 1) (by omega) (by omega) (by omega) hz
    rw [bosketref31_read_l1.eq_2, if_pos g.2, if_pos g, Option.bind_some, if_pos (decide_eq_true h32), e1, e2, ht, Option.bind_some]
    dsimp only
    have eS2 : (a ++ B32) ++ (sht y q ++ (shf n ++ (B41 ++ b))) = (a ++ B32 ++ sht y q) ++ (shf n ++ (B41 ++ b)) := by rw [app_assoc (a ++ B32)]
    rw [if_neg (by omega), if_pos (by simp; omega), eS2, e3]
    rw [eS2] at hz
    rw [ihn j (a ++ B32 ++ sht y q) b (out ++ (y :: fl q).map px) d (c + 1) f (by omega) (by omega) (by omega) (by simp; omega) (by omega) hz]
    simp [fl, cnt', Nat.add_assoc, Nat.add_comm 1]
theorem rread_tree {x : S43} {ks : Fo} (h : WF (.cons x ks .nil)) (ho : FOK (.cons x ks .nil)) (hl : (x :: fl ks).length ≤ 900) (hz : (sht x ks).size ≤ 100000) :
    bosketref31_read 2000 (sht x ks) 0 1 = some ((x :: fl ks).map px, ((sht x ks).size : Int)) := by
  have e : ByteArray.mk #[] ++ (sht x ks ++ ByteArray.mk #[]) = sht x ks := by rw [nil_app, app_nil]
  have hxl : (x :: fl ks).length = (fl ks).length + 1 := by simp
  have := rtree_of h ho (rloop_F ks h.2.2.1 ho.2.1) 2000 (ByteArray.mk #[]) (ByteArray.mk #[]) 1 (by omega) (by omega) (by omega) (by rw [e]; exact hz)
  rw [e, nil_app] at this
  exact this
end Go.Avl.T2
/- Trees as lists: what texts tell of them. -/
namespace Go.Avl.T2
open Go Go.RowKit Go.Proofs Go.Avl
set_option linter.all false
set_option maxRecDepth 10000

def pxF : Fo → Fo
  | .nil => .nil
  | .cons x k n => .cons (px x) (pxF k) (pxF n)
theorem px_f (x : S43) : (px x).f0 = x.f0 ∧ (px x).f1 = x.f1 ∧ (px x).f2 = x.f2 ∧ (x.f0 = true → (px x).f3 = x.f3) ∧ (px x).f3.size ≤ x.f3.size := by
  unfold px
  by_cases h : x.f0 = true
  · rw [if_pos h]; exact ⟨rfl, rfl, rfl, fun _ => rfl, Nat.le_refl _⟩
  · rw [if_neg h]; exact ⟨rfl, rfl, rfl, fun e => absurd e h, Nat.zero_le _⟩
theorem pxF_cnt : ∀ F, cnt' (pxF F) = cnt' F
  | .nil => rfl
  | .cons x k n => by simp [pxF, cnt', pxF_cnt n]
theorem pxF_fl : ∀ F, fl (pxF F) = (fl F).map px
  | .nil => rfl
  | .cons x k n => by simp [pxF, fl, pxF_fl k, pxF_fl n]
theorem pxF_WF : ∀ F, WF F → WF (pxF F)
  | .nil, _ => trivial
  | .cons x k n, h => by
    obtain ⟨p0, p1, p2, p3, p4⟩ := px_f x
    obtain ⟨h1, h2, h3, h4⟩ := h
    refine ⟨?_, by rw [p2, pxF_cnt]; exact h2, pxF_WF k h3, pxF_WF n h4⟩
    unfold okn at h1 ⊢
    rw [p0, p2]; exact h1
theorem pxF_FOK : ∀ F, FOK F → FOK (pxF F)
  | .nil, _ => trivial
  | .cons x k n, h => by
    obtain ⟨p0, p1, p2, p3, p4⟩ := px_f x
    refine ⟨⟨by rw [p1]; exact h.1.1, Nat.le_trans p4 h.1.2⟩, pxF_FOK k h.2.1, pxF_FOK n h.2.2⟩
theorem sht_px (x : S43) (k k' : Fo) (h : shf k' = shf k) : sht (px x) k' = sht x k := by
  obtain ⟨p0, p1, p2, p3, p4⟩ := px_f x
  unfold sht leafT
  by_cases a : x.f0 = true
  · rw [p0, if_pos a, if_pos a, p1, p3 a]
  · rw [p0, if_neg a, if_neg a, p1, h]
theorem shf_px : ∀ F, shf (pxF F) = shf F
  | .nil => rfl
  | .cons x k n => by rw [pxF, shf_cons, shf_cons, sht_px x k (pxF k) (shf_px k), shf_px n]
/-- Short texts. -/
def F40 : Fo → Prop
  | .nil => True
  | .cons x k n => x.f3.size ≤ 40 ∧ F40 k ∧ F40 n
theorem f40_of : ∀ F, (∀ x ∈ fl F, x.f3.size ≤ 40) → F40 F
  | .nil, _ => trivial
  | .cons x k n, h => ⟨h x (by simp [fl]), f40_of k (fun y hy => h y (by simp [fl, hy])), f40_of n (fun y hy => h y (by simp [fl, hy]))⟩
theorem sht_40 {x : S43} {k : Fo} (h : NOK x) (ht : x.f3.size ≤ 40) (hk : (shf k).size ≤ 200 * (fl k).length) : (sht x k).size ≤ 190 + 200 * (fl k).length := by
  have h1 := D_len h.1
  have h2 := Q_size x.f3
  unfold sht leafT
  split
  · rw [ByteArray.size_append, ByteArray.size_append, strOfNums_size, B58_size]; omega
  · rw [ByteArray.size_append, ByteArray.size_append, ByteArray.size_append, strOfNums_size, B40_size, B41_size]; omega
theorem shf_40 : ∀ F, FOK F → F40 F → (shf F).size ≤ 200 * (fl F).length
  | .nil, _, _ => by rw [shf, emp_size]; omega
  | .cons x k n, h, h' => by
    have i1 := shf_40 k h.2.1 h'.2.1
    have i2 := shf_40 n h.2.2 h'.2.2
    have i3 := sht_40 h.1 h'.1 i1
    rw [shf_cons, ByteArray.size_append, ByteArray.size_append, B32_size]
    simp only [fl, List.length_cons, List.length_append]
    omega
/-- A tree's text is read as what it tells. -/
theorem ast_read_sht {x : S43} {ks : Fo} (h : WF (.cons x ks .nil)) (ho : FOK (.cons x ks .nil)) (hl : (x :: fl ks).length ≤ 900) (hz : (sht x ks).size ≤ 100000) :
    ast_Read 2000 (sht x ks) = some ((x :: fl ks).map px, true) ∧ bosketref31_Read 2000 (sht x ks) = some ((x :: fl ks).map px, true) := by
  have hw := pxF_WF _ h
  have hf := pxF_FOK _ ho
  have e1 : (x :: fl ks).map px = px x :: fl (pxF ks) := by rw [List.map_cons, pxF_fl]
  have hlen : (px x :: fl (pxF ks)).length = (x :: fl ks).length := by rw [← e1, List.length_map]
  obtain ⟨s1, s2⟩ := show_tree (x := px x) (ks := pxF ks) hw hf (by omega)
  rw [sht_px x ks (pxF ks) (shf_px ks)] at s1 s2
  have hr : rgt (px x :: fl (pxF ks)) = true := (rgt_iff (by omega)).2 ⟨px x, pxF ks, hw, rfl⟩
  unfold ast_Read bosketref31_Read
  constructor
  · rw [read_tree h ho hl hz, Option.bind_some]
    dsimp only
    rw [if_neg (by decide), if_neg (by simp), e1, s1, Option.bind_some, Option.bind_some, if_neg (by simp)]
  · rw [rread_tree h ho hl hz, Option.bind_some]
    dsimp only
    rw [if_neg (by simp), e1, (right_l _ (by omega) (by omega)).2, hr, Option.bind_some, if_neg (by decide), s2, Option.bind_some, Option.bind_some, if_neg (by simp)]
end Go.Avl.T2
/- Trees as lists: any text read, by the program and by the reference. -/
namespace Go.Avl.T2
open Go Go.RowKit Go.Proofs Go.Avl
set_option linter.all false
set_option maxRecDepth 10000

def Plain (l : List S43) : Prop := ∀ x ∈ l, px x = x ∧ NOK x
theorem Plain.app {a b : List S43} (ha : Plain a) (hb : Plain b) : Plain (a ++ b) := fun x hx => (List.mem_append.1 hx).elim (ha x) (hb x)
theorem plain_leaf {n : Int} (hn : I64 n) {t : ByteArray} (ht : t.size ≤ 1000) : Plain [S43.mk true n 0 t] := by
  intro x hx
  have e : x = S43.mk true n 0 t := by simpa using hx
  subst e
  exact ⟨rfl, hn, ht⟩
theorem plain_node {n : Int} (hn : I64 n) (c : Int) : Plain [S43.mk false n c ByteArray.empty] := by
  intro x hx
  have e : x = S43.mk false n c ByteArray.empty := by simpa using hx
  subst e
  exact ⟨rfl, hn, Nat.zero_le _⟩
/-- What reading a tree at a place leaves. -/
def TA (S : ByteArray) (i d : Nat) (r : List S43 × Bool × S88) : Prop := r.2.2.f0 = S ∧ (d : Int) ≤ r.2.2.f2 ∧ r.2.2.f2 ≤ (d : Int) + 1 ∧ (r.2.1 = true → Plain r.1 ∧ ∃ i' : Nat, r.2.2 = ⟨S, (i' : Int), (d : Int)⟩ ∧ i < i' ∧ i' ≤ S.size ∧ r.1.length + i ≤ i')
def TreeAny (S : ByteArray) (j : Nat) : Prop := ∀ (i d : Nat), i ≤ S.size → d ≤ 3000 → 2 * (S.size - i) + 4 < j → ∃ r, ast_reader_tree_r 2000 j ⟨S, (i : Int), (d : Int)⟩ = some r ∧ TA S i d r
theorem c0_false (S : ByteArray) (t3 : Int × Bool × S88) (i d : Nat) (hd : d ≤ 3000) (x6 x7 : Int) (h7 : (d : Int) + 1 ≤ x7 ∧ x7 ≤ (d : Int) + 2) (x10 : List (List S43)) : ∃ r, ast_reader_node_c0 2000 t3 S x6 x7 false x10 = some r ∧ TA S i d r := by
  unfold ast_reader_node_c0
  rw [if_pos (by rfl), Option.bind_some, if_pos rfl, w64_id (by omega) (by omega)]
  exact ⟨_, rfl, rfl, by dsimp only; omega, by dsimp only; omega, fun h => by cases h⟩
theorem loop_any (S : ByteArray) (hs : S.size ≤ 1000) (j : Nat) (hself : TreeAny S j) (t3 : Int × Bool × S88) (hn : I64 t3.1) (i d : Nat) (hi : i < S.size) (hd : d ≤ 2900) (hj : 2 * (S.size - i) + 2 < j) : ∀ (m p fuel : Nat) (acc : List (List S43)), S.size - p < m → m ≤ fuel → i + 1 ≤ p → p ≤ S.size → (∀ l ∈ acc, Plain l) → acc.flatten.length + i + 1 ≤ p → acc.length + i + 1 ≤ p →
    ∃ r, ast_reader_node_l1 2000 (ast_reader_tree_r 2000 j) t3 fuel S (p : Int) ((d + 1 : Nat) : Int) true acc = some r ∧ TA S i d r
  | 0, p, fuel, acc, h, _, _, _, _, _, _ => by omega
  | m + 1, p, 0, acc, _, h, _, _, _, _, _ => by omega
  | m + 1, p, f + 1, acc, h, hf, hip, hp, hpl, hfl, hal => by
    rw [ast_reader_node_l1.eq_2, if_pos rfl]
    have stop : ∀ bb : Bool, bb = false → (p = S.size ∨ byteAt S (p : Int) ≠ 32) → ∃ r, (some bb).bind (fun b26 => if b26 = true then ((ast_reader_tree_r 2000 j) (S88.mk S (w64 ((p : Int) + (1 : Int))) ((d + 1 : Nat) : Int))).bind fun t32 => if (acc ++ ([t32.1] : List (List S43))).length * 24 ≤ 140737488355328 then (ast_reader_node_l1 2000 (ast_reader_tree_r 2000 j) t3 f) t32.2.2.f0 t32.2.2.f1 t32.2.2.f2 t32.2.1 (acc ++ ([t32.1] : List (List S43))) else none else ast_reader_node_c0 2000 t3 S (p : Int) ((d + 1 : Nat) : Int) true acc) = some r ∧ TA S i d r := by
      rintro bb rfl hstop
      rw [Option.bind_some, if_neg (by decide)]
      unfold ast_reader_node_c0
      have ed : w64 (((d + 1 : Nat) : Int) - 1) = (d : Int) := by rw [w64_id (by omega) (by omega)]; omega
      rw [if_neg (by decide), ed]
      by_cases a : (S.size : Int) ≤ (p : Int)
      · rw [if_pos a, Option.bind_some, if_pos rfl]
        exact ⟨_, rfl, rfl, by dsimp only; omega, by dsimp only; omega, fun h => by cases h⟩
      · rw [if_neg a, if_pos ⟨by omega, by omega⟩, Option.bind_some]
        by_cases b : byteAt S (p : Int) ≠ 41
        · rw [if_pos (decide_eq_true b)]
          exact ⟨_, rfl, rfl, by dsimp only; omega, by dsimp only; omega, fun h => by cases h⟩
        · rw [if_neg (by simpa using b), join_eq (by omega) _ _ (by omega) (by omega), Option.bind_some, w64_id (by omega) (by omega)]
          refine ⟨_, rfl, rfl, by dsimp only; omega, by dsimp only; omega, fun _ => ⟨?_, p + 1, ?_, by omega, by omega, ?_⟩⟩
          · dsimp only
            have : Plain (S43.mk false t3.1 (acc.length : Int) ByteArray.empty :: acc.flatten) := by
              intro x hx
              rcases List.mem_cons.1 hx with e | e
              · exact plain_node hn (acc.length : Int) x (by rw [e]; simp)
              · obtain ⟨l, l1, l2⟩ := List.mem_flatten.1 e
                exact hpl l l1 x l2
            exact this
          · dsimp only; congr 1
          · dsimp only; simp only [List.length_cons]; omega
    by_cases a : (p : Int) < (S.size : Int)
    · have g : 0 ≤ (p : Int) ∧ (p : Int) < (S.size : Int) := ⟨by omega, a⟩
      rw [if_pos a, if_pos g]
      by_cases b : byteAt S (p : Int) = 32
      · have e1 : w64 ((p : Int) + 1) = ((p + 1 : Nat) : Int) := by rw [w64_id (by omega) (by omega)]; omega
        obtain ⟨t, t1, t2, t3', t4, t5⟩ := hself (p + 1) (d + 1) (by omega) (by omega) (by omega)
        rw [Option.bind_some, if_pos (decide_eq_true b), e1, t1, Option.bind_some, if_pos (by simp; omega), t2]
        cases hok : t.2.1
        · -- the loop ends at once
          obtain ⟨f', rfl⟩ : ∃ f', f = f' + 1 := ⟨f - 1, by omega⟩
          rw [ast_reader_node_l1.eq_2, if_neg (by decide), Option.bind_some, if_neg (by decide)]
          exact c0_false S t3 i d (by omega) _ _ (by omega) _
        · obtain ⟨q1, i', q2, q3, q4, q5⟩ := t5 hok
          rw [q2]
          dsimp only
          exact loop_any S hs j hself t3 hn i d hi hd hj m i' f (acc ++ [t.1]) (by omega) (by omega) (by omega) q4 (fun l hl => by
            rcases List.mem_append.1 hl with e | e
            · exact hpl l e
            · simp at e; subst e; exact q1) (by rw [List.flatten_append, List.length_append]; simp only [List.flatten_cons, List.flatten_nil, List.append_nil]; omega) (by simp; omega)
      · exact stop _ (decide_eq_false b) (.inr b)
    · rw [if_neg a]; exact stop false rfl (.inl (by omega))
theorem tree_any (S : ByteArray) (hs : S.size ≤ 1000) : ∀ (n j : Nat), j ≤ n → TreeAny S j
  | 0, j, h => fun i d _ _ hj => by omega
  | n + 1, j, h => fun i d hi hd hj => by
    obtain ⟨j1, rfl⟩ : ∃ j1, j = j1 + 1 := ⟨j - 1, by omega⟩
    rw [ast_reader_tree_r.eq_2]
    dsimp only
    have leaf : ∀ bb : Bool, bb = false → ∃ r, (some bb).bind (fun b2 => if b2 = true then ((ast_reader_node_r 2000 j1) (S88.mk S (i : Int) (d : Int))).bind fun t7 => some (t7.1, t7.2.1, t7.2.2) else (ast_reader_number 2000 (S88.mk S (i : Int) (d : Int))).bind fun t9 =>
        Option.bind (α := Bool) (if (!t9.2.1) = true then some (true) else if (t9.2.2.f0.size : Int) ≤ t9.2.2.f1 then some (true) else if 0 ≤ t9.2.2.f1 ∧ t9.2.2.f1 < (t9.2.2.f0.size : Int) then some (decide ((byteAt t9.2.2.f0 t9.2.2.f1) ≠ (58 : Int))) else none) fun b11 =>
        if b11 = true then some ([], false, t9.2.2)
        else if 0 ≤ (w64 (t9.2.2.f1 + (1 : Int))) ∧ (w64 (t9.2.2.f1 + (1 : Int))) ≤ (t9.2.2.f0.size : Int) ∧ (t9.2.2.f0.size : Int) ≤ (t9.2.2.f0.size : Int) then (escape_Unquote 2000 (t9.2.2.f0.extract (w64 (t9.2.2.f1 + (1 : Int))).toNat (t9.2.2.f0.size : Int).toNat) (34 : Int)).bind fun t18 =>
        some ([(S43.mk true t9.1 (0 : Int) t18.1)], t18.2.2, (S88.mk t9.2.2.f0 (w64 (t9.2.2.f1 + (w64 ((1 : Int) + t18.2.1)))) t9.2.2.f2))
        else none) = some r ∧ TA S i d r := by
      rintro bb rfl
      obtain ⟨e, he⟩ := ends_ex S (S.size - i) i (by omega)
      have h1 := he.1
      have h2 := he.2.1
      rw [Option.bind_some, if_neg (by decide), number_any S (by omega) i d he (by omega), Option.bind_some]
      dsimp only
      have no : ∃ r, some (([] : List S43), false, S88.mk S (e : Int) (d : Int)) = some r ∧ TA S i d r := ⟨_, rfl, rfl, by dsimp only; omega, by dsimp only; omega, fun h => by cases h⟩
      by_cases c : (!(sn (ints (S.extract i e))).2) = true
      · rw [if_pos c, Option.bind_some, if_pos rfl]; exact no
      · rw [if_neg c]
        by_cases c2 : (S.size : Int) ≤ (e : Int)
        · rw [if_pos c2, Option.bind_some, if_pos rfl]; exact no
        · rw [if_neg c2, if_pos ⟨by omega, by omega⟩, Option.bind_some]
          by_cases c3 : byteAt S (e : Int) ≠ 58
          · rw [if_pos (decide_eq_true c3)]; exact no
          · have e1 : w64 ((e : Int) + 1) = ((e + 1 : Nat) : Int) := by rw [w64_id (by omega) (by omega)]; omega
            have hz : (S.extract (e + 1) S.size).size = S.size - (e + 1) := by rw [ByteArray.size_extract]; omega
            obtain ⟨t, t1, _, t3⟩ := unq_some (q := 34) (by decide) (S.extract (e + 1) S.size) (by omega)
            rw [if_neg (by simpa using c3), e1, if_pos ⟨by omega, by omega, by omega⟩, Int.toNat_natCast, Int.toNat_natCast, t1, Option.bind_some]
            refine ⟨_, rfl, rfl, by dsimp only; omega, by dsimp only; omega, fun ok => ?_⟩
            obtain ⟨q1, q2, q3⟩ := t3 ok
            refine ⟨plain_leaf (sn_i64 _) (by omega), (e + 1 + t.2.1.toNat), ?_, by omega, by omega, by simp; omega⟩
            dsimp only
            congr 1
            rw [w64_id (n := (1 : Int) + t.2.1) (by omega) (by omega), w64_id (by omega) (by omega)]; omega
    by_cases a : (i : Int) < (S.size : Int)
    · have g : 0 ≤ (i : Int) ∧ (i : Int) < (S.size : Int) := ⟨by omega, a⟩
      rw [if_pos a, if_pos g]
      by_cases b : byteAt S (i : Int) = 40
      · obtain ⟨j2, rfl⟩ : ∃ j2, j1 = j2 + 1 := ⟨j1 - 1, by omega⟩
        have e1 : w64 ((i : Int) + 1) = ((i + 1 : Nat) : Int) := by rw [w64_id (by omega) (by omega)]; omega
        have e2 : w64 ((d : Int) + 1) = ((d + 1 : Nat) : Int) := by rw [w64_id (by omega) (by omega)]; omega
        rw [Option.bind_some, if_pos (decide_eq_true b), ast_reader_node_r.eq_2]
        dsimp only
        rw [e1, e2]
        by_cases c : (2000 : Int) < ((d + 1 : Nat) : Int)
        · rw [if_pos c, Option.bind_some]
          exact ⟨_, rfl, rfl, by dsimp only; omega, by dsimp only; omega, fun h => by cases h⟩
        · obtain ⟨e, he⟩ := ends_ex S (S.size - (i + 1)) (i + 1) (by omega)
          have h1 := he.1
          have h2 := he.2.1
          rw [if_neg c, number_any S (by omega) (i + 1) ((d + 1 : Nat) : Int) he (by omega), Option.bind_some]
          dsimp only
          have key : ∃ r, ast_reader_node_l1 2000 (ast_reader_tree_r 2000 j2) ((sn (ints (S.extract (i + 1) e))).1, (sn (ints (S.extract (i + 1) e))).2, ⟨S, (e : Int), ((d + 1 : Nat) : Int)⟩) 2000 S (e : Int) ((d + 1 : Nat) : Int) (sn (ints (S.extract (i + 1) e))).2 [] = some r ∧ TA S i d r := by
            cases hok : (sn (ints (S.extract (i + 1) e))).2
            · show ∃ r, ast_reader_node_l1 2000 _ _ (1999 + 1) _ _ _ _ _ = some r ∧ _
              rw [ast_reader_node_l1.eq_2, if_neg (by decide), Option.bind_some, if_neg (by decide)]
              exact c0_false S _ i d (by omega) _ _ (by omega) _
            · exact loop_any S hs j2 (tree_any S hs n j2 (by omega)) _ (sn_i64 _) i d (by omega) (by omega) (by omega) 1001 e 2000 [] (by omega) (by omega) (by omega) h2 (fun l hl => by cases hl) (by simp; omega) (by simp; omega)
          obtain ⟨r, r1, r2⟩ := key
          rw [r1, Option.bind_some]
          exact ⟨_, rfl, r2⟩
      · exact leaf _ (decide_eq_false b)
    · rw [if_neg a]; exact leaf false rfl
theorem plain_map {l : List S43} (h : Plain l) : l.map px = l := by
  conv => rhs; rw [← List.map_id l]
  exact List.map_congr_left fun x hx => (h x hx).1
/-- What Read answers: the tree of the text, or none. -/
def GotT (s : ByteArray) (r : List S43 × Bool) : Prop := r = ([], false) ∨ ∃ x ks, r = (x :: fl ks, true) ∧ WF (.cons x ks .nil) ∧ FOK (.cons x ks .nil) ∧ Plain (x :: fl ks) ∧ (x :: fl ks).length ≤ 900 ∧ sht x ks = s
theorem got_of {s : ByteArray} (hs : s.size ≤ 900) {l : List S43} (hp : Plain l) (hl : l.length ≤ 900) (hr : rgt l = true) (hsh : ∀ x ks, l = x :: fl ks → WF (.cons x ks .nil) → FOK (.cons x ks .nil) → sht x ks = s) : GotT s (l, true) := by
  obtain ⟨x, ks, w, rfl⟩ := (rgt_iff (by omega)).1 hr
  have hf : FOK (.cons x ks .nil) := fok_of _ (fun y hy => (hp y (by simpa [fl] using hy)).2)
  exact .inr ⟨x, ks, rfl, w, hf, hp, hl, hsh x ks rfl w hf⟩
theorem read_any (s : ByteArray) (hs : s.size ≤ 900) : ∃ r, ast_Read 2000 s = some r ∧ GotT s r := by
  obtain ⟨t, t1, t2, t3, t4, t5⟩ := tree_any s (by omega) 2000 2000 (Nat.le_refl _) 0 0 (by omega) (by omega) (by omega)
  have t1' : ast_reader_tree 2000 ⟨s, 0, 0⟩ = some t := t1
  unfold ast_Read
  rw [t1', Option.bind_some]
  cases hok : t.2.1
  · rw [if_pos (by rfl), Option.bind_some, if_pos rfl]; exact ⟨_, rfl, .inl rfl⟩
  · obtain ⟨q1, i', q2, q3, q4, q5⟩ := t5 hok
    rw [if_neg (by decide), q2]
    dsimp only
    by_cases a : (i' : Int) ≠ (s.size : Int)
    · rw [if_pos a, Option.bind_some, if_pos rfl]; exact ⟨_, rfl, .inl rfl⟩
    · rw [if_neg a]
      cases hr : rgt t.1
      · have hne : ByteArray.mk #[] ≠ s := by intro e; rw [← e, emp_size] at a; omega
        rw [show_none (by omega) hr, Option.bind_some, Option.bind_some, if_pos (decide_eq_true hne)]; exact ⟨_, rfl, .inl rfl⟩
      · obtain ⟨x, ks, w, e⟩ := (rgt_iff (by omega)).1 hr
        have hf : FOK (.cons x ks .nil) := fok_of _ (fun y hy => (q1 y (by rw [e]; simpa [fl] using hy)).2)
        have hsh := (show_tree w hf (by rw [← e]; omega)).1
        rw [← e] at hsh
        rw [hsh, Option.bind_some, Option.bind_some]
        by_cases b : sht x ks = s
        · rw [if_neg (by simpa using b)]
          refine ⟨_, rfl, .inr ⟨x, ks, by rw [e], w, hf, by rw [← e]; exact q1, by rw [← e]; omega, b⟩⟩
        · rw [if_pos (by simpa using b)]; exact ⟨_, rfl, .inl rfl⟩
/-! The reference. -/
def RA (S : ByteArray) (i : Nat) (r : List S43 × Int) : Prop := r = ([], -1) ∨ ∃ i' : Nat, r.2 = (i' : Int) ∧ Plain r.1 ∧ i < i' ∧ i' ≤ S.size ∧ r.1.length + i ≤ i'
def ReadAny (S : ByteArray) (j : Nat) : Prop := ∀ (i d : Nat), i ≤ S.size → d ≤ 5000 - (S.size - i) → S.size - i + 2 < j → ∃ r, bosketref31_read_r 2000 j S (i : Int) (d : Int) = some r ∧ RA S i r
theorem rloop_any (S : ByteArray) (hs : S.size ≤ 1000) (j : Nat) (hself : ReadAny S j) (n : Int) (hn : I64 n) (i d : Nat) (hi : i < S.size) (hd : d ≤ 5000 - (S.size - i)) (hj : S.size - i + 1 < j) : ∀ (m p fuel : Nat) (tl : List S43) (c : Nat), S.size - p < m → m ≤ fuel → i + 1 ≤ p → p ≤ S.size → Plain tl → tl.length + i + 1 ≤ p → c ≤ p →
    ∃ r, bosketref31_read_l1 2000 (bosketref31_read_r 2000 j) S (d : Int) fuel (p : Int) (S43.mk false n 0 ByteArray.empty :: tl) (c : Int) = some r ∧ RA S i r
  | 0, p, fuel, tl, c, h, _, _, _, _, _, _ => by omega
  | m + 1, p, 0, tl, c, _, h, _, _, _, _, _ => by omega
  | m + 1, p, f + 1, tl, c, h, hf, hip, hp, hpl, hfl, hc => by
    rw [bosketref31_read_l1.eq_2]
    have stop : ∃ r, bosketref31_read_c0 2000 S (p : Int) (S43.mk false n 0 ByteArray.empty :: tl) (c : Int) = some r ∧ RA S i r := by
      unfold bosketref31_read_c0
      by_cases a : (S.size : Int) ≤ (p : Int)
      · rw [if_pos a, Option.bind_some, if_pos rfl]; exact ⟨_, rfl, .inl rfl⟩
      · rw [if_neg a, if_pos ⟨by omega, by omega⟩, Option.bind_some]
        by_cases b : byteAt S (p : Int) ≠ 41
        · rw [if_pos (decide_eq_true b)]; exact ⟨_, rfl, .inl rfl⟩
        · rw [if_neg (by simpa using b), if_pos ⟨by omega, by simp⟩, w64_id (by omega) (by omega)]
          refine ⟨_, rfl, .inr ⟨p + 1, by dsimp only; omega, ?_, by omega, by omega, ?_⟩⟩
          · have : Plain (S43.mk false n (c : Int) ByteArray.empty :: tl) := Plain.app (plain_node hn (c : Int)) hpl
            exact this
          · show (S43.mk false n (c : Int) ByteArray.empty :: tl).length + i ≤ p + 1
            simp; omega
    by_cases a : (p : Int) < (S.size : Int)
    · have g : 0 ≤ (p : Int) ∧ (p : Int) < (S.size : Int) := ⟨by omega, a⟩
      rw [if_pos a, if_pos g, Option.bind_some]
      by_cases b : byteAt S (p : Int) = 32
      · have e1 : w64 ((p : Int) + 1) = ((p + 1 : Nat) : Int) := by rw [w64_id (by omega) (by omega)]; omega
        have e2 : w64 ((d : Int) + 1) = ((d + 1 : Nat) : Int) := by rw [w64_id (by omega) (by omega)]; omega
        have e3 : w64 ((c : Int) + 1) = ((c + 1 : Nat) : Int) := by rw [w64_id (by omega) (by omega)]; omega
        obtain ⟨t, t1, t2⟩ := hself (p + 1) (d + 1) (by omega) (by omega) (by omega)
        rw [if_pos (decide_eq_true b), e1, e2, t1, Option.bind_some]
        rcases t2 with e | ⟨i', q1, q2, q3, q4, q5⟩
        · rw [e]; rw [if_pos (by decide)]; exact ⟨_, rfl, .inl rfl⟩
        · rw [q1, if_neg (by omega), if_pos (by simp; omega), e3]
          exact rloop_any S hs j hself n hn i d hi hd hj m i' f (tl ++ t.1) (c + 1) (by omega) (by omega) (by omega) q4 (hpl.app q2) (by simp; omega) (by omega)
      · rw [if_neg (by simpa using b)]; exact stop
    · rw [if_neg a, Option.bind_some, if_neg (by decide)]; exact stop
theorem rread_any_j (S : ByteArray) (hs : S.size ≤ 1000) : ∀ (n j : Nat), j ≤ n → ReadAny S j
  | 0, j, h => fun i d _ _ hj => by omega
  | n + 1, j, h => fun i d hi hd hj => by
    obtain ⟨j1, rfl⟩ : ∃ j1, j = j1 + 1 := ⟨j - 1, by omega⟩
    rw [bosketref31_read_r.eq_2]
    have leaf : ∃ r, bosketref31_read_c4 2000 (bosketref31_read_r 2000 j1) S (d : Int) false (i : Int) = some r ∧ RA S i r := by
      obtain ⟨e, he⟩ := ends_ex S (S.size - i) i (by omega)
      have h1 := he.1
      have h2 := he.2.1
      have no : ∃ r, some (([] : List S43), (-1 : Int)) = some r ∧ RA S i r := ⟨_, rfl, .inl rfl⟩
      unfold bosketref31_read_c4
      rw [rscan_l S (by omega) _ _ _ _ (e - i) i 2000 (by omega) (by omega) he]
      unfold bosketref31_read_c2
      have hz0 : (S.extract i e).size ≤ 100000 := by rw [ByteArray.size_extract]; omega
      rw [if_pos ⟨by omega, by omega, by omega⟩, Int.toNat_natCast, Int.toNat_natCast, (num_all hz0).2, Option.bind_some]
      by_cases c : (!(sn (ints (S.extract i e))).2) = true
      · rw [if_pos c, Option.bind_some, if_pos rfl]; exact no
      · rw [if_neg c]
        by_cases c2 : (S.size : Int) ≤ (e : Int)
        · rw [if_pos c2, Option.bind_some, if_pos rfl]; exact no
        · rw [if_neg c2, Option.bind_some]
          by_cases c4 : (2000 : Int) < (d : Int)
          · rw [if_pos (decide_eq_true c4)]; exact no
          · have e1 : w64 ((e : Int) + 1) = ((e + 1 : Nat) : Int) := by rw [w64_id (by omega) (by omega)]; omega
            have hz : (S.extract (e + 1) S.size).size = S.size - (e + 1) := by rw [ByteArray.size_extract]; omega
            obtain ⟨t, _, t1, t3⟩ := unq_some (q := 34) (by decide) (S.extract (e + 1) S.size) (by omega)
            rw [if_neg (by simpa using c4), if_pos (by rfl), e1, if_pos ⟨by omega, by omega, by omega⟩, Int.toNat_natCast, Int.toNat_natCast, t1, Option.bind_some, if_pos ⟨by omega, by omega⟩]
            by_cases c3 : byteAt S (e : Int) ≠ 58
            · rw [if_pos c3, Option.bind_some, if_pos rfl]; exact no
            · rw [if_neg c3, Option.bind_some]
              by_cases c5 : (!t.2.2) = true
              · rw [if_pos c5]; exact no
              · obtain ⟨q1, q2, q3⟩ := t3 (by simpa using c5)
                rw [if_neg c5]
                refine ⟨_, rfl, .inr ⟨e + 1 + t.2.1.toNat, ?_, plain_leaf (sn_i64 _) (by omega), by omega, by omega, by simp; omega⟩⟩
                dsimp only
                rw [w64_id (by omega) (by omega)]; omega
    by_cases a : (i : Int) < (S.size : Int)
    · have g : 0 ≤ (i : Int) ∧ (i : Int) < (S.size : Int) := ⟨by omega, a⟩
      rw [if_pos a, if_pos g, Option.bind_some]
      by_cases b : byteAt S (i : Int) = 40
      · have e1 : w64 ((i : Int) + 1) = ((i + 1 : Nat) : Int) := by rw [w64_id (by omega) (by omega)]; omega
        have edec : decide (byteAt S (i : Int) = 40) = true := decide_eq_true b
        rw [edec, if_pos rfl, e1]
        obtain ⟨e, he⟩ := ends_ex S (S.size - (i + 1)) (i + 1) (by omega)
        have h1 := he.1
        have h2 := he.2.1
        have no : ∃ r, some (([] : List S43), (-1 : Int)) = some r ∧ RA S i r := ⟨_, rfl, .inl rfl⟩
        unfold bosketref31_read_c4
        rw [rscan_l S (by omega) _ _ _ _ (e - (i + 1)) (i + 1) 2000 (by omega) (by omega) he]
        unfold bosketref31_read_c2
        have hz0 : (S.extract (i + 1) e).size ≤ 100000 := by rw [ByteArray.size_extract]; omega
        rw [if_pos ⟨by omega, by omega, by omega⟩, Int.toNat_natCast, Int.toNat_natCast, (num_all hz0).2, Option.bind_some]
        by_cases c : (!(sn (ints (S.extract (i + 1) e))).2) = true
        · rw [if_pos c, Option.bind_some, if_pos rfl]; exact no
        · rw [if_neg c]
          by_cases c2 : (S.size : Int) ≤ (e : Int)
          · rw [if_pos c2, Option.bind_some, if_pos rfl]; exact no
          · rw [if_neg c2, Option.bind_some]
            by_cases c4 : (2000 : Int) < (d : Int)
            · rw [if_pos (decide_eq_true c4)]; exact no
            · rw [if_neg (by simpa using c4), if_neg (by decide)]
              exact rloop_any S hs j1 (rread_any_j S hs n j1 (by omega)) _ (sn_i64 _) i d (by omega) hd (by omega) 1001 e 2000 [] 0 (by omega) (by omega) (by omega) h2 (fun x hx => by cases hx) (by simp; omega) (by omega)
      · have edec : decide (byteAt S (i : Int) = 40) = false := decide_eq_false b
        rw [edec, if_neg (by decide)]; exact leaf
    · rw [if_neg a, Option.bind_some, if_neg (by decide)]; exact leaf
theorem rread_any (s : ByteArray) (hs : s.size ≤ 900) : ∃ r, bosketref31_Read 2000 s = some r ∧ GotT s r := by
  obtain ⟨t, t1, t2⟩ := rread_any_j s (by omega) 2000 2000 (Nat.le_refl _) 0 1 (by omega) (by omega) (by omega)
  have t1' : bosketref31_read 2000 s 0 1 = some t := t1
  unfold bosketref31_Read
  rw [t1', Option.bind_some]
  rcases t2 with e | ⟨i', q1, q2, q3, q4, q5⟩
  · rw [e]; dsimp only
    rw [if_pos (by omega), Option.bind_some, if_pos rfl]; exact ⟨_, rfl, .inl rfl⟩
  · by_cases a : t.2 ≠ (s.size : Int)
    · rw [if_pos a, Option.bind_some, if_pos rfl]; exact ⟨_, rfl, .inl rfl⟩
    · rw [if_neg a, (right_l _ (by omega) (by omega)).2, Option.bind_some]
      cases hr : rgt t.1
      · rw [if_pos (by rfl), Option.bind_some, if_pos rfl]; exact ⟨_, rfl, .inl rfl⟩
      · obtain ⟨x, ks, w, e⟩ := (rgt_iff (by omega)).1 hr
        have hf : FOK (.cons x ks .nil) := fok_of _ (fun y hy => (q2 y (by rw [e]; simpa [fl] using hy)).2)
        have hsh := (show_tree w hf (by rw [← e]; omega)).2
        rw [← e] at hsh
        rw [if_neg (by decide), hsh, Option.bind_some, Option.bind_some]
        by_cases b : sht x ks = s
        · rw [if_neg (by simpa using b)]
          refine ⟨_, rfl, .inr ⟨x, ks, by rw [e], w, hf, by rw [← e]; exact q2, by rw [← e]; omega, b⟩⟩
        · rw [if_pos (by simpa using b)]; exact ⟨_, rfl, .inl rfl⟩
/-- Both read alike. -/
theorem trees_alike (s : ByteArray) (hs : s.size ≤ 900) : ∃ r, ast_Read 2000 s = some r ∧ bosketref31_Read 2000 s = some r ∧ r.1.length ≤ 900 := by
  obtain ⟨r, r1, r2⟩ := read_any s hs
  obtain ⟨u, u1, u2⟩ := rread_any s hs
  rcases r2 with e | ⟨x, ks, e, w, hf, hp, hl, hsh⟩
  · rcases u2 with e' | ⟨x, ks, e', w, hf, hp, hl, hsh⟩
    · exact ⟨([], false), by rw [r1, e], by rw [u1, e'], by simp⟩
    · have := (ast_read_sht w hf (by omega) (by rw [hsh]; omega)).1
      rw [hsh, plain_map hp] at this
      exact ⟨(x :: fl ks, true), this, by rw [u1, e'], hl⟩
  · have := (ast_read_sht w hf (by omega) (by rw [hsh]; omega)).2
    rw [hsh, plain_map hp] at this
    exact ⟨(x :: fl ks, true), by rw [r1, e], this, hl⟩
end Go.Avl.T2
/- AstReads: the plain law. -/
namespace Go.Avl.T2
open Go Go.RowKit Go.Proofs Go.Avl
set_option linter.all false
set_option maxRecDepth 10000

theorem awake31r : bosketlaw31_awake 2000 = some true := by decide +kernel
/-- The texts of the leaves. -/
def lv (l : List S43) : List ByteArray := (l.filter (·.f0)).map (·.f3)
theorem lv_app (a b : List S43) : lv (a ++ b) = lv a ++ lv b := by simp [lv]
theorem lv_take (l : List S43) (i : Nat) (h : i < l.length) : lv (l.take (i + 1)) = lv (l.take i) ++ (if l[i].f0 = true then [l[i].f3] else []) := by
  rw [← List.take_append_getElem h, lv_app]
  congr 1
  unfold lv
  cases e : l[i].f0 <;> simp [e]
theorem lv_len (l : List S43) : (lv l).length ≤ l.length := by
  unfold lv; rw [List.length_map]; exact List.length_filter_le _ _
theorem leaves_l (l : List S43) (hl : l.length ≤ 1000) : ∀ (m i fuel : Nat), i + m = l.length → m < fuel → ast_Leaves_l2 2000 l fuel (lv (l.take i)) i = some (lv l)
  | 0, i, f + 1, h, _ => by
    rw [ast_Leaves_l2.eq_2, if_neg (by omega), ast_Leaves_c0, List.take_of_length_le (by omega)]
  | m + 1, i, f + 1, h, hf => by
    have hi : i < l.length := by omega
    have g : 0 ≤ (i : Int) ∧ (i : Int) < (l.length : Int) := ⟨by omega, by omega⟩
    have ih := leaves_l l hl m (i + 1) f (by omega) (by omega)
    rw [lv_take l i hi] at ih
    have hz := lv_len (l.take i)
    rw [List.length_take] at hz
    rw [ast_Leaves_l2.eq_2, if_pos g.2, if_pos g, lget_nat l i hi]
    unfold ast_Leaves_c1
    rw [w64_id (by omega) (by omega)]
    by_cases a : l[i].f0 = true
    · rw [if_pos a] at ih
      rw [if_pos a, if_pos (by simp; omega)]; exact_mod_cast ih
    · rw [if_neg a, List.append_nil] at ih
      rw [if_neg a]; exact_mod_cast ih
theorem lget_b (l : List ByteArray) (i : Nat) (h : i < l.length) : lget l (i : Int) = l[i] := by
  unfold lget
  rw [show (i : Int).toNat = i by omega, List.getD, List.getElem?_eq_getElem h]; rfl
theorem reads_l (r : List S43 × Bool) (hl : r.1.length ≤ 1000) : ∀ (m i fuel : Nat), i + m = r.1.length → m < fuel → bosketlaw31_AstReads_l2 2000 r r (lv r.1) fuel ((lv (r.1.take i)).length : Int) i = some true
  | 0, i, f + 1, h, _ => by
    rw [bosketlaw31_AstReads_l2.eq_2, if_neg (by omega), bosketlaw31_AstReads_c0, if_pos (by simp), (same_eq _ hl).1, Option.bind_some, if_pos rfl, Option.bind_some, List.take_of_length_le (by omega)]
    simp
  | m + 1, i, f + 1, h, hf => by
    have hi : i < r.1.length := by omega
    have g : 0 ≤ (i : Int) ∧ (i : Int) < (r.1.length : Int) := ⟨by omega, by omega⟩
    have ih := reads_l r hl m (i + 1) f (by omega) (by omega)
    have ht := lv_take r.1 i hi
    have hz := lv_len (r.1.take i)
    rw [List.length_take] at hz
    rw [bosketlaw31_AstReads_l2.eq_2, if_pos g.2, if_pos g, lget_nat r.1 i hi]
    unfold bosketlaw31_AstReads_c1
    rw [w64_id (n := (i : Int) + 1) (by omega) (by omega)]
    by_cases a : r.1[i].f0 = true
    · rw [if_pos a] at ht
      have hall : lv r.1 = lv (r.1.take i) ++ (r.1[i].f3 :: lv (r.1.drop (i + 1))) := by
        have : r.1 = r.1.take (i + 1) ++ r.1.drop (i + 1) := (List.take_append_drop _ _).symm
        conv => lhs; rw [this, lv_app, ht]
        simp
      have hk : (lv (r.1.take i)).length < (lv r.1).length := by rw [hall, List.length_append, List.length_cons]; omega
      have hget : (lv r.1)[(lv (r.1.take i)).length] = r.1[i].f3 := by
        simp only [hall]
        rw [List.getElem_append_right (Nat.le_refl _)]
        simp
      rw [if_neg (by simp [a]), if_neg (by omega), if_pos ⟨by omega, by omega⟩, lget_b _ _ hk, hget, if_pos g, Option.bind_some, if_neg (by simp), w64_id (by omega) (by omega)]
      rw [ht, List.length_append, List.length_singleton] at ih
      exact_mod_cast ih
    · rw [if_neg a, List.append_nil] at ht
      rw [ht] at ih
      rw [if_pos (by simp [a])]
      exact_mod_cast ih
theorem bosketlaw31_AstReads_true (a0 : ByteArray) (h0 : wf9 a0) (h1 : a0.size ≤ 140737488351232) : ∃ k, bosketlaw31_AstReads k a0 = some true := by
  refine ⟨2000, ?_⟩
  unfold bosketlaw31_AstReads
  rw [awake31r, Option.bind_some, if_neg (by decide)]
  by_cases z : (400 : Int) < (a0.size : Int)
  · rw [if_pos z]
  obtain ⟨r, r1, r2, r3⟩ := trees_alike a0 (by omega)
  have hlv : ast_Leaves 2000 r.1 = some (lv r.1) := leaves_l r.1 (by omega) r.1.length 0 2000 (by omega) (by omega)
  rw [if_neg z, r1, Option.bind_some, r2, Option.bind_some, hlv, Option.bind_some]
  exact reads_l r (by omega) r.1.length 0 2000 (by omega) (by omega)
end Go.Avl.T2
