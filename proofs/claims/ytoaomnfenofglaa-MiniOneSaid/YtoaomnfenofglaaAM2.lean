/- Parts: T5K5, T5K6, T5K7, T5K8, T5K9, T5K10, T5K11, T5K12, T5K13, T5K14, T5K15, T5K16, T5K17, T5K18, T5K19, T5PureMiniOne. -/
import Derived.Test.YtoaomnfenofglaaAM1
import Derived.Test.YtoaomnfenofglaaAF3
import Derived.Test.YtoaomnfenofglaaAF2
import Derived.Test.YtoaomnfenofglaaAF4
/- mini: classes of bytes that lead alike. -/
namespace Go.Avl.T5
open Go Go.RowKit Go.Proofs Go.Avl
set_option linter.all false
set_option maxRecDepth 10000

def cls (d : S30) (b : Nat) : Nat := (vget d.f0 (b : Int)).toNat
def CL2 (d : S30) (c : Nat) : List Nat := d.f1.map fun r => (lget r (c : Int) + 1).toNat
def kcol (d : S30) (b : Nat) : ByteArray := strOfNums (enc2 (CL2 d (cls d b)))
theorem cls_eq {d : S30} (h : Dr d) {b : Nat} (hb : b < 256) : vget d.f0 (b : Int) = (cls d b : Int) ∧ cls d b < KC d := by
  have h1 := h.vb (b : Int)
  have h2 := kc_lt (v := d.f0) 256 b hb
  have e : kcl d.f0 = kc d.f0 256 := rfl
  have hk := KC_eq h
  unfold cls
  exact ⟨by omega, by omega⟩
theorem col_l {d : S30} (h : Dr d) {c : Nat} (hc : c < KC d) : ∀ (m i fuel : Nat) (l : List Nat), i + m = d.f1.length → m < fuel → l.length ≤ i → mini_column_l1 5000 d (c : Int) fuel (strOfNums (enc2 l)) (i : Int) = some (strOfNums (enc2 (l ++ (d.f1.drop i).map fun r => (lget r (c : Int) + 1).toNat)))
  | 0, i, fu + 1, l, hi, _, _ => by
    rw [mini_column_l1.eq_2, if_neg (by omega), List.drop_of_length_le (by omega), List.map_nil, List.append_nil]; rfl
  | m + 1, i, fu + 1, l, hi, hf, hl => by
    have hi' : i < d.f1.length := by omega
    have hn := h.n2
    have hk := KC_eq h
    have hr : d.f1[i] ∈ d.f1 := List.getElem_mem hi'
    have hrl := h.row _ hr
    have ent := h.ent _ hr _ (mem_lget (l := d.f1[i]) (i := (c : Int)) (by omega) (by omega))
    have hv : (lget d.f1[i] (c : Int) + 1).toNat < 65536 := by omega
    have e : w64 (lget d.f1[i] (c : Int) + 1) = (((lget d.f1[i] (c : Int) + 1).toNat : Nat) : Int) := by rw [w6 (by omega) (by omega)]; omega
    have ih := col_l h hc m (i + 1) fu (l ++ [(lget d.f1[i] (c : Int) + 1).toNat]) (by omega) (by omega) (by simp; omega)
    have e2 : enc2 l ++ wd2 (lget d.f1[i] (c : Int) + 1).toNat = enc2 (l ++ [(lget d.f1[i] (c : Int) + 1).toNat]) := by rw [enc2_app]; rfl
    have eg : lget d.f1 (i : Int) = d.f1[i] := lget_lt _ i hi'
    rw [mini_column_l1.eq_2, if_pos (by omega), if_pos ⟨by omega, by omega⟩, eg, if_pos ⟨by omega, by omega⟩, e, word_eq hv, Option.bind_some, if_pos (by rw [strOf_size, strOf_size, enc2_len]; simp [wd2]; omega), w6 (by omega) (by omega), ← strOf_app, e2, List.drop_eq_getElem_cons hi', List.map_cons]
    rw [List.append_assoc] at ih
    exact_mod_cast ih
theorem col_eq {d : S30} (h : Dr d) {b : Nat} (hb : b < 256) : mini_column 5000 d (cls d b : Int) = some (kcol d b) := by
  have := col_l h (cls_eq h hb).2 d.f1.length 0 5000 [] (by omega) (by have := h.n2; omega) (by simp)
  rw [Int.natCast_zero, List.drop_zero, List.nil_append] at this
  exact this
end Go.Avl.T5
/- mini: classes of bytes that lead alike: the walk. -/
namespace Go.Avl.T5
open Go Go.RowKit Go.Proofs Go.Avl
set_option linter.all false
set_option maxRecDepth 10000

structure CI (d : S30) (b : Nat) (v : Vector Int 256) (mp : List (ByteArray × Int)) (kept of : List Int) (done : List Bool) : Prop where
  mp : MapOK (kcol d) b mp
  kl : kept.length = nc (kcol d) b
  ol : of.length = KC d
  dl : done.length = KC d
  dn : ∀ x : Nat, x < KC d → (lget done (x : Int) = true ↔ ∃ c, c < b ∧ cls d c = x)
  of : ∀ c, c < b → lget of (cls d c : Int) = (ck (kcol d) c : Int)
  v : ∀ c, c < b → vget v (c : Int) = (ck (kcol d) c : Int)
theorem kcol_cls {d : S30} {b c : Nat} (h : cls d b = cls d c) : kcol d b = kcol d c := by unfold kcol; rw [h]
theorem KC_le {d : S30} (h : Dr d) : KC d ≤ 256 := by
  have := kc_rng h.vb 256
  have e : kcl d.f0 = kc d.f0 256 := rfl
  unfold KC; omega
theorem cl_l8 {d : S30} (h : Dr d) : ∀ (m b fuel : Nat) (v : Vector Int 256) (mp : List (ByteArray × Int)) (kept of : List Int) (done : List Bool), b + m = 256 → m < fuel → CI d b v mp kept of done →
    ∃ v', mini_classes_l8 5000 d fuel v mp kept of done (b : Int) = mini_classes_c5 5000 d v' (kept ++ (rps (kcol d) m b).map fun r => (cls d r : Int)) ∧ ∀ c : Nat, c < 256 → vget v' (c : Int) = (ck (kcol d) c : Int)
  | 0, b, fu + 1, v, mp, kept, of, done, hb, _, hi => by
    refine ⟨v, ?_, fun c hc => hi.v c (by omega)⟩
    rw [mini_classes_l8.eq_2, if_neg (by omega), rps, List.map_nil, List.append_nil]
  | m + 1, b, fu + 1, v, mp, kept, of, done, hb, hf, hi => by
    have hb' : b < 256 := by omega
    have hn := h.n2
    have hK := KC_le h
    obtain ⟨e1, e2⟩ := cls_eq h hb'
    have hck := ck_le (kcol d) b
    have hnl := nc_le (kcol d) b
    have ew : w64 (vget d.f0 (b : Int)) = (cls d b : Int) := by rw [e1, w6 (by omega) (by omega)]
    have g1 : 0 ≤ (b : Int) ∧ (b : Int) < 256 := ⟨by omega, by omega⟩
    have hol := hi.ol
    have hdl := hi.dl
    -- behind the class's number
    have fin : ∀ (mp' : List (ByteArray × Int)) (kept' of' : List Int) (done' : List Bool), MapOK (kcol d) (b + 1) mp' → kept' = kept ++ (if rc (kcol d) b = b then [(cls d b : Int)] else []) → of'.length = KC d → done'.length = KC d → (∀ x : Nat, x < KC d → (lget done' (x : Int) = true ↔ ∃ c, c < b + 1 ∧ cls d c = x)) → (∀ c, c < b + 1 → lget of' (cls d c : Int) = (ck (kcol d) c : Int)) →
        ∃ v', mini_classes_c6 5000 (mini_classes_l8 5000 d fu) d v (b : Int) mp' kept' of' done' = mini_classes_c5 5000 d v' (kept ++ (rps (kcol d) (m + 1) b).map fun r => (cls d r : Int)) ∧ ∀ c : Nat, c < 256 → vget v' (c : Int) = (ck (kcol d) c : Int) := by
      intro mp' kept' of' done' k1 k2 k3 k4 k5 k6
      unfold mini_classes_c6
      rw [ew, if_pos ⟨by omega, by omega⟩, if_pos g1, k6 b (by omega), w8_id (by omega) (by omega), w6 (by omega) (by omega)]
      have := cl_l8 h m (b + 1) fu (vset v (b : Int) (ck (kcol d) b : Int)) mp' kept' of' done' (by omega) (by omega) ⟨k1, by rw [k2, List.length_append, hi.kl, nc]; split <;> rfl, k3, k4, k5, k6, fun c hc => by
        rw [vget_vset256 _ _ _ _ hb' (by omega)]
        by_cases q : c = b
        · subst q; rw [if_pos rfl]
        · rw [if_neg q]; exact hi.v c (by omega)⟩
      obtain ⟨v', t1, t2⟩ := this
      refine ⟨v', ?_, t2⟩
      have ek : kept' ++ (rps (kcol d) m (b + 1)).map (fun r => (cls d r : Int)) = kept ++ (rps (kcol d) (m + 1) b).map fun r => (cls d r : Int) := by
        rw [k2, rps]
        by_cases q : rc (kcol d) b = b
        · rw [if_pos q, if_pos q, List.append_assoc]; rfl
        · rw [if_neg q, if_neg q, List.append_nil]
      rw [← ek]
      exact_mod_cast t1
    rw [mini_classes_l8.eq_2, if_pos g1.2, if_pos g1, ew, if_pos ⟨by omega, by omega⟩]
    by_cases dn : ∃ c, c < b ∧ cls d c = cls d b
    · have hd := (hi.dn _ e2).2 dn
      obtain ⟨c0, c1, c2⟩ := dn
      have hne : rc (kcol d) b ≠ b := by
        intro q
        exact (rc_spec (kcol d) b).2.2 c0 (by rw [q]; exact c1) (kcol_cls c2)
      obtain ⟨_, k2⟩ := mapok_old hi.mp hne
      rw [hd, if_neg (by decide)]
      refine fin mp kept of done k2 (by rw [if_neg hne, List.append_nil]) hol hdl (fun x hx => ?_) (fun c hc => ?_)
      · rw [hi.dn x hx]
        constructor
        · rintro ⟨c, k, r⟩; exact ⟨c, by omega, r⟩
        · rintro ⟨c, k, r⟩
          by_cases q : c = b
          · subst q; exact ⟨c0, c1, by rw [c2, r]⟩
          · exact ⟨c, by omega, r⟩
      · by_cases q : c = b
        · subst q; rw [← c2, hi.of c0 c1]; exact congrArg _ (ck_same _ (kcol_cls c2))
        · exact hi.of c (by omega)
    · have hd : lget done (cls d b : Int) = false := by
        cases k : lget done (cls d b : Int) with
        | false => rfl
        | true => exact absurd ((hi.dn _ e2).1 k) dn
      have fin7 : ∀ (mp' : List (ByteArray × Int)) (kept' : List Int), MapOK (kcol d) (b + 1) mp' → kept' = kept ++ (if rc (kcol d) b = b then [(cls d b : Int)] else []) →
          ∃ v', mini_classes_c7 5000 (mini_classes_l8 5000 d fu) d v of done (b : Int) mp' kept' (ck (kcol d) b : Int) = mini_classes_c5 5000 d v' (kept ++ (rps (kcol d) (m + 1) b).map fun r => (cls d r : Int)) ∧ ∀ c : Nat, c < 256 → vget v' (c : Int) = (ck (kcol d) c : Int) := by
        intro mp' kept' k1 k2
        unfold mini_classes_c7
        rw [ew, if_pos ⟨by omega, by omega⟩, if_pos ⟨by omega, by omega⟩]
        refine fin mp' kept' _ _ k1 k2 (by rw [lset_len, hol]) (by rw [lset_len, hdl]) (fun x hx => ?_) (fun c hc => ?_)
        · rw [lget_lsetB _ _ _ _ (by omega) (by omega) (by omega)]
          by_cases q : (x : Int) = (cls d b : Int)
          · rw [if_pos q]
            exact ⟨fun _ => ⟨b, by omega, by omega⟩, fun _ => rfl⟩
          · rw [if_neg q, hi.dn x hx]
            constructor
            · rintro ⟨c, k, r⟩; exact ⟨c, by omega, r⟩
            · rintro ⟨c, k, r⟩
              by_cases q2 : c = b
              · subst q2; exact absurd (by omega) q
              · exact ⟨c, by omega, r⟩
        · rw [ilget_lset _ _ _ _ (by omega) (by omega) (by omega)]
          by_cases q : (cls d c : Int) = (cls d b : Int)
          · rw [if_pos q]; exact congrArg _ (ck_same _ (kcol_cls (by omega)))
          · rw [if_neg q]
            exact hi.of c (by
              have : c ≠ b := fun e => q (by rw [e])
              omega)
      rw [hd, if_pos (by decide), col_eq h hb', Option.bind_some]
      by_cases q : rc (kcol d) b = b
      · obtain ⟨k1, k2, k3⟩ := mapok_new hi.mp q
        have hc : ck (kcol d) b = nc (kcol d) b := by unfold ck; rw [q]
        have e4 : (kept.length : Int) = (ck (kcol d) b : Int) := by rw [hi.kl, hc]
        rw [k1, if_pos (by rfl), if_pos (by have := hi.kl; simp; omega), e4]
        exact fin7 _ _ k3 (by rw [if_pos q])
      · obtain ⟨k1, k2⟩ := mapok_old hi.mp q
        rw [k1, if_neg (by simp)]
        exact fin7 _ _ k2 (by rw [if_neg q, List.append_nil])
end Go.Avl.T5
/- mini: classes of bytes that lead alike: what comes out. -/
namespace Go.Avl.T5
open Go Go.RowKit Go.Proofs Go.Avl
set_option linter.all false
set_option maxRecDepth 10000

def KB (d : S30) : List Int := (rps (kcol d) 256 0).map fun r : Nat => (cls d r : Int)
theorem KB_mem {d : S30} (h : Dr d) {c : Int} (hc : c ∈ KB d) : 0 ≤ c ∧ c < kcl d.f0 := by
  obtain ⟨r, hr, rfl⟩ := List.mem_map.1 hc
  have := rps_mem (kcol d) 256 0 r hr
  have := (cls_eq h (b := r) (by omega)).2
  have := KC_eq h
  omega
theorem KB_len (d : S30) : (KB d).length ≤ 256 := by
  unfold KB
  rw [List.length_map]
  have := rps_len (kcol d) 256 0
  have := nc_le (kcol d) (0 + 256)
  omega
theorem cl_l3 {d : S30} (h : Dr d) (rec19 : List (List Int) → Int → Option S30) (R : List (List Int)) (i : Nat) (hi : i < d.f1.length) (hR : R.length ≤ 10000) : ∀ (m j fuel : Nat) (a : List Int), j + m = (KB d).length → m < fuel → a.length ≤ j →
    mini_classes_l3 5000 rec19 d (KB d) R (i : Int) fuel a (j : Int) = rec19 (R ++ [a ++ ((KB d).drop j).map fun c => lget (lget d.f1 (i : Int)) c]) ((i + 1 : Nat) : Int)
  | 0, j, fu + 1, a, hj, _, _ => by
    have hn := h.n2
    rw [mini_classes_l3.eq_2, if_neg (by omega), List.drop_of_length_le (by omega), List.map_nil, List.append_nil]
    unfold mini_classes_c2 mini_classes_c1
    rw [if_pos (by simp; omega), w6 (by omega) (by omega)]; rfl
  | m + 1, j, fu + 1, a, hj, hf, ha => by
    have hn := h.n2
    have hl := KB_len d
    have hj' : j < (KB d).length := by omega
    have hc := KB_mem h (List.getElem_mem hj')
    have hr := h.row _ (mem_lget (l := d.f1) (i := (i : Int)) (by omega) (by omega))
    have ih := cl_l3 h rec19 R i hi hR m (j + 1) fu (a ++ [lget (lget d.f1 (i : Int)) (KB d)[j]]) (by omega) (by omega) (by simp; omega)
    rw [List.append_assoc] at ih
    rw [mini_classes_l3.eq_2, if_pos (by omega), if_pos ⟨by omega, by omega⟩, iget_lt _ j hj', if_pos ⟨hc.1, by omega⟩, if_pos (by simp; omega), w6 (by omega) (by omega), List.drop_eq_getElem_cons hj', List.map_cons]
    exact_mod_cast ih
theorem cl_l4 {d : S30} (h : Dr d) (v : Vector Int 256) : ∀ (m i fuel : Nat) (R : List (List Int)), i + m = d.f1.length → m < fuel → R.length ≤ i →
    mini_classes_l4 5000 d v (KB d) fuel R (i : Int) = some (S30.mk v (R ++ (d.f1.drop i).map fun r => (KB d).map fun c => lget r c) d.f2)
  | 0, i, fu + 1, R, hi, _, _ => by
    rw [mini_classes_l4.eq_2, if_neg (by omega), List.drop_of_length_le (by omega), List.map_nil, List.append_nil]; rfl
  | m + 1, i, fu + 1, R, hi, hf, hR => by
    have hn := h.n2
    have hi' : i < d.f1.length := by omega
    have l3 := cl_l3 h (mini_classes_l4 5000 d v (KB d) fu) R i hi' (by omega) (KB d).length 0 5000 [] (by omega) (by have := KB_len d; omega) (by simp)
    rw [Int.natCast_zero, List.drop_zero, List.nil_append] at l3
    have ih := cl_l4 h v m (i + 1) fu (R ++ [(KB d).map fun c => lget (lget d.f1 (i : Int)) c]) (by omega) (by omega) (by simp; omega)
    rw [List.append_assoc] at ih
    have eg : lget d.f1 (i : Int) = d.f1[i] := lget_lt _ i hi'
    rw [mini_classes_l4.eq_2, if_pos (by omega), if_pos ⟨by omega, by omega⟩, l3, ih, List.drop_eq_getElem_cons hi', List.map_cons, eg]; rfl
/-- The machine with the classes that lead alike made one. -/
theorem mclasses_eq {d : S30} (h : Dr d) : ∃ v : Vector Int 256, (∀ c : Nat, c < 256 → vget v (c : Int) = (ck (kcol d) c : Int)) ∧ mini_classes 5000 d = some (S30.mk v (d.f1.map fun r => (KB d).map fun c => lget r c) d.f2) := by
  have hn := h.n2
  have hK := KC_le h
  have hk := KC_eq h
  obtain ⟨v, v1, v2⟩ := cl_l8 h 256 0 5000 (Vector.replicate 256 0) [] [] (List.replicate (KC d) 0) (List.replicate (KC d) false) (by omega) (by omega)
    ⟨⟨rfl, fun c hc => by omega, fun s _ => rfl⟩, rfl, by simp, by simp, fun x hx => by
      rw [lget_repB]
      constructor
      · intro e; cases e
      · rintro ⟨c, hc, _⟩; omega, fun c hc => by omega, fun c hc => by omega⟩
  rw [Int.natCast_zero, List.nil_append] at v1
  refine ⟨v, v2, ?_⟩
  unfold mini_classes
  rw [count_eq h.vb, Option.bind_some, hk, if_pos ⟨by omega, by omega, by omega⟩, Int.toNat_natCast, List.length_replicate, if_pos ⟨by omega, by omega, by omega⟩, Int.toNat_natCast, v1]
  unfold mini_classes_c5
  have := cl_l4 h v d.f1.length 0 5000 [] (by omega) (by omega) (by simp)
  rw [Int.natCast_zero, List.drop_zero, List.nil_append] at this
  exact this
end Go.Avl.T5
/- The words of a machine, as lists of bytes. -/
namespace Go.Avl.T5
open Go Go.RowKit Go.Proofs Go.Avl
set_option linter.all false
set_option maxRecDepth 10000

def go (d : S30) : Int → List Nat → Int
  | q, [] => q
  | q, b :: w => go d (stp d q (b : Int)) w
def LL (d : S30) (q : Int) (w : List Nat) : Int := mk d (go d q w)
def Byt (w : List Nat) : Prop := ∀ b ∈ w, b < 256
theorem go_app (d : S30) : ∀ (w u : List Nat) (q : Int), go d q (w ++ u) = go d (go d q w) u
  | [], _, _ => rfl
  | b :: w, u, q => go_app d w u _
theorem go_snoc (d : S30) (w : List Nat) (b : Nat) (q : Int) : go d q (w ++ [b]) = stp d (go d q w) (b : Int) := go_app d w [b] q
def ofL (w : List Nat) : ByteArray := strOfNums (w.map Int.ofNat)
theorem ofL_size (w : List Nat) : (ofL w).size = w.length := by unfold ofL; rw [strOf_size, List.length_map]
theorem ofL_get {w : List Nat} (h : Byt w) {i : Nat} (hi : i < w.length) : byteAt (ofL w) (i : Int) = (w[i] : Int) := by
  have hi' : i < (w.map Int.ofNat).length := by simpa using hi
  unfold ofL
  rw [byteAt_strOf (w.map Int.ofNat) (fun x hx => by
    obtain ⟨b, hb, rfl⟩ := List.mem_map.1 hx
    have := h b hb
    exact ⟨by show (0 : Int) ≤ (b : Int); omega, by show (b : Int) ≤ 255; omega⟩) i hi', List.getElem_map]; rfl
theorem rn_go {d : S30} {q : Int} {w : List Nat} (h : Byt w) : ∀ i : Nat, i ≤ w.length → rn d q (ofL w) i = go d q (w.take i)
  | 0, _ => by rw [List.take_zero]; rfl
  | i + 1, hi => by
    have ih := rn_go (d := d) (q := q) h i (by omega)
    show stp d (rn d q (ofL w) i) (byteAt (ofL w) i) = _
    rw [ih, ofL_get h (show i < w.length by omega), List.take_succ_eq_append_getElem (show i < w.length by omega), go_snoc]
theorem hs_LL (d : S30) {w : List Nat} (h : Byt w) : hs d (ofL w) = LL d 0 w := by
  unfold hs LL
  rw [ofL_size, rn_go h w.length (Nat.le_refl _), List.take_length]
theorem trim_LL {d : S30} (h : Dr d) {A : List Bool} (hA : AS d A) {w : List Nat} (hw : Byt w) : LL (TRM d A) 0 w = LL d 0 w := by
  rw [← hs_LL _ hw, ← hs_LL _ hw, trim_has h hA]
theorem order_LL {d : S30} (h : Dr d) {w : List Nat} (hw : Byt w) : LL (ORD d) 0 w = LL d 0 w := by
  rw [← hs_LL _ hw, ← hs_LL _ hw, order_has h]
end Go.Avl.T5
/- mini: what is alive is not nowhere; steps of the quotient. -/
namespace Go.Avl.T5
open Go Go.RowKit Go.Proofs Go.Avl
set_option linter.all false
set_option maxRecDepth 10000

theorem alive_key {e : S30} (h : Dr e) {kk : Nat → ByteArray} (k : Cut e kk) (s : Stb e kk) {i : Nat} (hi : i < e.f1.length) (ha : AL e (i : Int)) (hm : f0 e e.f1.length = 0) : kk i ≠ kk e.f1.length := by
  obtain ⟨q, r1, r2⟩ := ha
  intro eq
  have key : ∀ p : Int, DR e (i : Int) p → ∃ t : Nat, p = (t : Int) ∧ t < e.f1.length ∧ kk t = kk e.f1.length := by
    intro p hp
    induction hp with
    | refl => exact ⟨i, rfl, hi, eq⟩
    | @step p c hp hc h0 ih =>
      obtain ⟨t, rfl, t1, t2⟩ := ih
      have hrow := h.row _ (mem_lget (l := e.f1) (i := (t : Int)) (by omega) (by omega))
      have hk := KC_eq h
      have hc' : c < KC e := by
        have : (c : Int) < ((lget e.f1 (t : Int)).length : Int) := hc
        omega
      have h0' : 0 ≤ lget (lget e.f1 (t : Int)) (c : Int) := h0
      have ent := h.ent _ (mem_lget (l := e.f1) (i := (t : Int)) (by omega) (by omega)) _ (mem_lget (l := lget e.f1 (t : Int)) (i := (c : Int)) (by omega) hc)
      have e1 := s t e.f1.length (by omega) (Nat.le_refl _) t2 c hc'
      have d1 : dl e t c = (lget (lget e.f1 (t : Int)) (c : Int)).toNat := by unfold dl; rw [if_pos ⟨t1, h0'⟩]
      have d2 : dl e e.f1.length c = e.f1.length := by unfold dl; rw [if_neg (fun q => by omega)]
      rw [d1, d2] at e1
      exact ⟨_, (show lget (lget e.f1 (t : Int)) (c : Int) = _ by omega), by omega, e1⟩
  obtain ⟨t, rfl, t1, t2⟩ := key q r1
  have := k.mark t e.f1.length (by omega) (Nat.le_refl _) t2
  rw [hm] at this
  unfold f0 at this
  omega
end Go.Avl.T5
/- mini: steps of the quotient. -/
namespace Go.Avl.T5
open Go Go.RowKit Go.Proofs Go.Avl
set_option linter.all false
set_option maxRecDepth 10000

/-- All that is led to is alive. -/
def TR (e : S30) : Prop := ∀ i b : Nat, i < e.f1.length → b < 256 → 0 ≤ stp e (i : Int) (b : Int) → AL e (stp e (i : Int) (b : Int))
theorem f0_no {e : S30} (h : Dr e) : f0 e e.f1.length = 0 := by
  have hm := h.ml
  have : mk e (e.f1.length : Int) = -1 := by unfold mk; rw [if_pos (.inr (by omega))]
  unfold f0; rw [this]; rfl
theorem stp_dl {e : S30} (h : Dr e) {i b : Nat} (hi : i < e.f1.length) (hb : b < 256) : dl e i (cls e b) = (if 0 ≤ stp e (i : Int) (b : Int) then (stp e (i : Int) (b : Int)).toNat else e.f1.length) ∧ stp e (i : Int) (b : Int) < (e.f1.length : Int) ∧ -1 ≤ stp e (i : Int) (b : Int) := by
  obtain ⟨k1, k2, k3⟩ := stp_in h (q := (i : Int)) (c := (b : Int)) (by omega) (by omega) (by omega) (by omega)
  obtain ⟨c1, c2⟩ := cls_eq h hb
  have hr := stp_rng h (q := (i : Int)) (c := (b : Int)) ⟨by omega, by omega⟩ (by omega) (by omega)
  rw [c1] at k3
  refine ⟨?_, hr.2, hr.1⟩
  have k3' : stp e (i : Int) (b : Int) = lget (lget e.f1 (i : Int)) (cls e b : Int) := k3
  unfold dl
  by_cases q : 0 ≤ lget (lget e.f1 (i : Int)) (cls e b : Int)
  · rw [if_pos ⟨hi, q⟩, k3', if_pos q]
  · rw [if_neg (fun r => q r.2), k3', if_neg q]
/-- States of one block are led into one block. -/
theorem step_block {e : S30} (h : Dr e) {kk : Nat → ByteArray} (k : Cut e kk) (s : Stb e kk) (t : TR e) {i j b : Nat} (hi : i < e.f1.length) (hj : j < e.f1.length) (hb : b < 256) (eq : kk i = kk j) : bt1 kk (stp e (i : Int) (b : Int)) = bt1 kk (stp e (j : Int) (b : Int)) := by
  obtain ⟨d1, r1, r2⟩ := stp_dl h hi hb
  obtain ⟨d2, r3, r4⟩ := stp_dl h hj hb
  have e1 := s i j (by omega) (by omega) eq (cls e b) (cls_eq h hb).2
  rw [d1, d2] at e1
  unfold bt1
  by_cases q1 : 0 ≤ stp e (i : Int) (b : Int)
  · by_cases q2 : 0 ≤ stp e (j : Int) (b : Int)
    · rw [if_pos q1, if_pos q2] at e1
      rw [if_pos q1, if_pos q2]
      exact congrArg _ (ck_same kk e1)
    · rw [if_pos q1, if_neg q2] at e1
      have ha := t i b hi hb q1
      have := alive_key h k s (i := (stp e (i : Int) (b : Int)).toNat) (by omega) (by rw [Int.toNat_of_nonneg q1]; exact ha) (f0_no h)
      exact absurd e1 this
  · by_cases q2 : 0 ≤ stp e (j : Int) (b : Int)
    · rw [if_neg q1, if_pos q2] at e1
      have ha := t j b hj hb q2
      have := alive_key h k s (i := (stp e (j : Int) (b : Int)).toNat) (by omega) (by rw [Int.toNat_of_nonneg q2]; exact ha) (f0_no h)
      exact absurd e1.symm this
    · rw [if_neg q1, if_neg q2]; omega
end Go.Avl.T5
/- mini: the quotient's rows. -/
namespace Go.Avl.T5
open Go Go.RowKit Go.Proofs Go.Avl
set_option linter.all false
set_option maxRecDepth 10000

theorem QO_len (e : S30) (kk : Nat → ByteArray) : (QO e kk).f1.length = nc kk e.f1.length ∧ (QO e kk).f2.length = nc kk e.f1.length := by
  have := rps_len kk e.f1.length 0
  have z : nc kk 0 = 0 := rfl
  rw [z, Nat.add_zero, Nat.zero_add] at this
  exact ⟨by show ((rps kk e.f1.length 0).map _).length = _; rw [List.length_map]; exact this, by show ((rps kk e.f1.length 0).map _).length = _; rw [List.length_map]; exact this⟩
theorem QO_get {e : S30} (kk : Nat → ByteArray) {i : Nat} (hi : i < e.f1.length) : lget (QO e kk).f1 (ck kk i : Int) = (lget e.f1 (rc kk i : Int)).map (bt1 kk) ∧ lget (QO e kk).f2 (ck kk i : Int) = lget e.f2 (rc kk i : Int) := by
  have hr := rc_spec kk i
  have hg := rps_get kk e.f1.length 0 (rc kk i) (by omega) (by omega) (rc_rc kk i)
  have z : nc kk 0 = 0 := rfl
  rw [z, Nat.sub_zero] at hg
  have hg : (rps kk e.f1.length 0)[ck kk i]? = some (rc kk i) := hg
  constructor
  · show lget ((rps kk e.f1.length 0).map fun i : Nat => (lget e.f1 (i : Int)).map (bt1 kk)) (ck kk i : Int) = _
    unfold lget
    rw [Int.toNat_natCast, List.getD, List.getElem?_map, hg]; rfl
  · show lget ((rps kk e.f1.length 0).map fun i : Nat => lget e.f2 (i : Int)) (ck kk i : Int) = _
    unfold lget
    rw [Int.toNat_natCast, List.getD, List.getElem?_map, hg]; rfl
end Go.Avl.T5
/- mini: the quotient is right; its steps. -/
namespace Go.Avl.T5
open Go Go.RowKit Go.Proofs Go.Avl
set_option linter.all false
set_option maxRecDepth 10000

theorem ck_onto {kk : Nat → ByteArray} : ∀ (n p : Nat), p < nc kk n → ∃ i, i < n ∧ rc kk i = i ∧ nc kk i = p
  | 0, p, h => by have : nc kk 0 = 0 := rfl; omega
  | n + 1, p, h => by
    by_cases q : p < nc kk n
    · obtain ⟨i, h1, h2⟩ := ck_onto n p q
      exact ⟨i, by omega, h2⟩
    · rw [nc] at h
      by_cases r : rc kk n = n
      · rw [if_pos r] at h; exact ⟨n, by omega, r, by omega⟩
      · rw [if_neg r] at h; omega
theorem bt1_rng {e : S30} {kk : Nat → ByteArray} {x : Int} (h : -1 ≤ x ∧ x < (e.f1.length : Int)) : -1 ≤ bt1 kk x ∧ bt1 kk x < (nc kk e.f1.length : Int) := by
  unfold bt1
  split
  · have := ck_lt (kk := kk) (i := x.toNat) (N := e.f1.length) (by omega)
    omega
  · omega
theorem QO_Dr {e : S30} (h : Dr e) (kk : Nat → ByteArray) : Dr (QO e kk) := by
  obtain ⟨l1, l2⟩ := QO_len e kk
  have hn := h.n2
  have h1 := h.n1
  have hle := nc_le kk e.f1.length
  have hml := h.ml
  have hpos : 0 < nc kk e.f1.length := by
    have := ck_lt (kk := kk) (i := 0) (N := e.f1.length) (by omega)
    omega
  refine ⟨by omega, by omega, by omega, h.vb, h.gap, fun r hr => ?_, fun r hr x hx => ?_, fun m hm => ?_⟩
  · obtain ⟨i, hi, rfl⟩ := List.mem_map.1 (show r ∈ (rps kk e.f1.length 0).map fun i : Nat => (lget e.f1 (i : Int)).map (bt1 kk) from hr)
    have := rps_mem kk _ _ i hi
    rw [List.length_map]
    exact h.row _ (mem_lget (by omega) (by omega))
  · obtain ⟨i, hi, rfl⟩ := List.mem_map.1 (show r ∈ (rps kk e.f1.length 0).map fun i : Nat => (lget e.f1 (i : Int)).map (bt1 kk) from hr)
    obtain ⟨y, hy, rfl⟩ := List.mem_map.1 hx
    have := rps_mem kk _ _ i hi
    have := bt1_rng (kk := kk) (h.ent _ (mem_lget (l := e.f1) (i := (i : Int)) (by omega) (by omega)) y hy)
    rw [l1]; exact this
  · obtain ⟨i, hi, rfl⟩ := List.mem_map.1 (show m ∈ (rps kk e.f1.length 0).map fun i : Nat => lget e.f2 (i : Int) from hm)
    have := rps_mem kk _ _ i hi
    exact h.mark _ (mem_lget (by omega) (by omega))
end Go.Avl.T5
/- mini: the quotient's steps and marks. -/
namespace Go.Avl.T5
open Go Go.RowKit Go.Proofs Go.Avl
set_option linter.all false
set_option maxRecDepth 10000

theorem QO_stp {e : S30} (h : Dr e) {kk : Nat → ByteArray} (k : Cut e kk) (s : Stb e kk) (t : TR e) {i b : Nat} (hi : i < e.f1.length) (hb : b < 256) : stp (QO e kk) (ck kk i : Int) (b : Int) = bt1 kk (stp e (i : Int) (b : Int)) := by
  have hr := rc_spec kk i
  have hri : rc kk i < e.f1.length := by omega
  obtain ⟨g1, g2⟩ := QO_get kk hi
  obtain ⟨l1, l2⟩ := QO_len e kk
  have hck := ck_lt (kk := kk) hi
  obtain ⟨k1, k2, k3⟩ := stp_in (QO_Dr h kk) (q := (ck kk i : Int)) (c := (b : Int)) (by omega) (by omega) (by omega) (by omega)
  obtain ⟨m1, m2, m3⟩ := stp_in h (q := (rc kk i : Int)) (c := (b : Int)) (by omega) (by omega) (by omega) (by omega)
  rw [← step_block h k s t hri hi hb hr.2.1, m3, k3]
  show lget (lget (QO e kk).f1 (ck kk i : Int)) (vget e.f0 (b : Int)) = _
  rw [g1, lget_map _ _ m1 m2]
end Go.Avl.T5
/- mini: what is reached, what is alive, by words. -/
namespace Go.Avl.T5
open Go Go.RowKit Go.Proofs Go.Avl
set_option linter.all false
set_option maxRecDepth 10000

theorem byt_nil : Byt [] := fun b hb => by cases hb
theorem Byt.app {w u : List Nat} (h : Byt w) (k : Byt u) : Byt (w ++ u) := fun x hx => (List.mem_append.1 hx).elim (h x) (k x)
theorem Byt.tl {b : Nat} {w : List Nat} (h : Byt (b :: w)) : Byt w := fun x hx => h x (.tail _ hx)
theorem Byt.hd {b : Nat} {w : List Nat} (h : Byt (b :: w)) : b < 256 := h b (.head _)
theorem byt_one {b : Nat} (h : b < 256) : Byt [b] := fun x hx => by have : x = b := by simpa using hx
                                                                    omega
theorem Byt.cons {b : Nat} {w : List Nat} (h : b < 256) (k : Byt w) : Byt (b :: w) := Byt.app (byt_one h) k
theorem stp_row {d : S30} (h : Dr d) {p : Int} {c : Nat} (h0 : 0 ≤ p) (h1 : p < (d.f1.length : Int)) (hc : (c : Int) < ((rw' d p).length : Int)) : ∃ b : Nat, b < 256 ∧ stp d p (b : Int) = lget (rw' d p) (c : Int) := by
  have hk := h.rowk h0 h1
  have hk' : ((rw' d p).length : Int) = kcl d.f0 := hk
  obtain ⟨b, hb, e⟩ := h.gap c (by omega)
  obtain ⟨k1, k2, k3⟩ := stp_in h h0 h1 (c := (b : Int)) (by omega) (by omega)
  exact ⟨b, hb, by rw [k3, e]⟩
theorem DR_go {d : S30} (h : Dr d) {s q : Int} (hs : 0 ≤ s ∧ s < (d.f1.length : Int)) (k : DR d s q) : ∃ w, Byt w ∧ go d s w = q := by
  induction k with
  | refl => exact ⟨[], byt_nil, rfl⟩
  | @step p c hp hc h0 ih =>
    obtain ⟨w, w1, w2⟩ := ih
    have hr := DR.in h hs hp
    obtain ⟨b, b1, b2⟩ := stp_row h hr.1 hr.2 hc
    exact ⟨w ++ [b], w1.app (byt_one b1), by rw [go_snoc, w2, b2]⟩
theorem go_neg (d : S30) : ∀ w : List Nat, go d (-1) w = -1
  | [] => rfl
  | b :: w => by rw [go, stp_neg]; exact go_neg d w
theorem LL_neg (d : S30) (w : List Nat) : LL d (-1) w = -1 := by unfold LL; rw [go_neg, mk_neg]
theorem go_rng {d : S30} (h : Dr d) : ∀ (w : List Nat) (q : Int), Byt w → -1 ≤ q ∧ q < (d.f1.length : Int) → -1 ≤ go d q w ∧ go d q w < (d.f1.length : Int)
  | [], q, _, hq => hq
  | b :: w, q, hw, hq => by
    have := hw.hd
    exact go_rng h w _ hw.tl (stp_rng h hq (by omega) (by omega))
theorem stp_DR {d : S30} (h : Dr d) {q : Int} {b : Nat} (h0 : 0 ≤ q) (h1 : q < (d.f1.length : Int)) (hb : b < 256) (hn : 0 ≤ stp d q (b : Int)) : DR d q (stp d q (b : Int)) := by
  obtain ⟨k1, k2, k3⟩ := stp_in h h0 h1 (c := (b : Int)) (by omega) (by omega)
  obtain ⟨c, hc⟩ := Int.eq_ofNat_of_zero_le k1
  rw [hc] at k3 k2
  rw [k3] at hn ⊢
  exact DR.step .refl k2 hn
theorem go_DR {d : S30} (h : Dr d) : ∀ (w : List Nat) (q : Int), Byt w → 0 ≤ q → q < (d.f1.length : Int) → 0 ≤ go d q w → DR d q (go d q w)
  | [], q, _, _, _, _ => .refl
  | b :: w, q, hw, h0, h1, hn => by
    have hb := hw.hd
    have hr := stp_rng h (q := q) (c := (b : Int)) ⟨by omega, h1⟩ (by omega) (by omega)
    by_cases a : stp d q (b : Int) = -1
    · rw [go, a, go_neg] at hn; omega
    · have hs := stp_DR h h0 h1 hb (by omega)
      exact hs.trans (go_DR h w _ hw.tl (by omega) hr.2 hn)
theorem LL_ge {d : S30} (h : Dr d) (q : Int) (w : List Nat) : -1 ≤ LL d q w := (mk_ge h _).1
theorem LL_pos {d : S30} (h : Dr d) {q : Int} {w : List Nat} (hw : Byt w) (hq : -1 ≤ q ∧ q < (d.f1.length : Int)) (hl : 0 ≤ LL d q w) : 0 ≤ go d q w := by
  have := go_rng h w q hw hq
  by_cases a : go d q w = -1
  · unfold LL at hl; rw [a, mk_neg] at hl; omega
  · omega
theorem AL_iff {d : S30} (h : Dr d) {q : Int} (h0 : 0 ≤ q) (h1 : q < (d.f1.length : Int)) : AL d q ↔ ∃ w, Byt w ∧ 0 ≤ LL d q w := by
  constructor
  · rintro ⟨r, r1, r2⟩
    obtain ⟨w, w1, w2⟩ := DR_go h ⟨h0, h1⟩ r1
    exact ⟨w, w1, by unfold LL; rw [w2]; exact r2⟩
  · rintro ⟨w, w1, w2⟩
    exact ⟨_, go_DR h w q w1 h0 h1 (LL_pos h w1 ⟨by omega, h1⟩ w2), w2⟩
/-! Trimmed. -/
theorem TRM_len (d : S30) (A : List Bool) : (TRM d A).f1.length = d.f1.length := by show (d.f1.map _).length = _; rw [List.length_map]
theorem TRM_stp {d : S30} (h : Dr d) (A : List Bool) {q : Int} {b : Nat} (h0 : 0 ≤ q) (h1 : q < (d.f1.length : Int)) (hb : b < 256) : stp (TRM d A) q (b : Int) = tr A (stp d q (b : Int)) := by
  obtain ⟨k1, k2, k3⟩ := stp_in h h0 h1 (c := (b : Int)) (by omega) (by omega)
  obtain ⟨m1, m2, m3⟩ := stp_in (TRM_Dr h A) (q := q) (c := (b : Int)) h0 (by rw [TRM_len]; exact h1) (by omega) (by omega)
  rw [m3, k3, TRM_row A h0 h1]
  exact lget_map (tr A) _ k1 k2
theorem TRM_LL {d : S30} (h : Dr d) {A : List Bool} (hA : AS d A) : ∀ (w : List Nat) (q : Int), Byt w → -1 ≤ q ∧ q < (d.f1.length : Int) → LL (TRM d A) q w = LL d q w
  | [], q, _, _ => rfl
  | b :: w, q, hw, hq => by
    have hb := hw.hd
    by_cases a : q = -1
    · rw [a, LL_neg, LL_neg]
    · have hr := stp_rng h (q := q) (c := (b : Int)) hq (by omega) (by omega)
      have e1 : LL (TRM d A) q (b :: w) = LL (TRM d A) (tr A (stp d q (b : Int))) w := by
        show LL (TRM d A) (stp (TRM d A) q (b : Int)) w = _
        rw [TRM_stp h A (by omega) hq.2 hb]
      have e2 : LL d q (b :: w) = LL d (stp d q (b : Int)) w := rfl
      rw [e1, e2]
      unfold tr
      by_cases c : 0 ≤ stp d q (b : Int) ∧ lget A (stp d q (b : Int)) = false
      · rw [if_pos c, LL_neg]
        have hna : ¬ AL d (stp d q (b : Int)) := fun k => by
          have := (hA.2 _ c.1 hr.2).2 k
          rw [c.2] at this; cases this
        have hge := LL_ge h (stp d q (b : Int)) w
        by_cases x : 0 ≤ LL d (stp d q (b : Int)) w
        · exact absurd ((AL_iff h c.1 hr.2).2 ⟨w, hw.tl, x⟩) hna
        · omega
      · rw [if_neg c]
        exact TRM_LL h hA w _ hw.tl hr
/-! Put in order. -/
theorem pl_neg1 {d : S30} (h : Dr d) : pl (OL d) (-1) = -1 := pl_not fun k => by have := ((OL_OI h).rng _ k).1; omega
theorem ORD_go {d : S30} (h : Dr d) : ∀ (w : List Nat) (q : Int), Byt w → (q = -1 ∨ q ∈ OL d) → go (ORD d) (pl (OL d) q) w = pl (OL d) (go d q w) ∧ (go d q w = -1 ∨ go d q w ∈ OL d)
  | [], q, _, hq => ⟨rfl, hq⟩
  | b :: w, q, hw, hq => by
    have hb := hw.hd
    rcases hq with e | e
    · rw [e, pl_neg1 h, go_neg, go_neg]
      exact ⟨(pl_neg1 h).symm, .inl rfl⟩
    · obtain ⟨s1, s2⟩ := ORD_stp h e (c := (b : Int)) (by omega) (by omega)
      have := ORD_go h w (stp d q (b : Int)) hw.tl s2
      rw [go, go, s1]
      exact this
theorem ORD_mk' {d : S30} (h : Dr d) {q : Int} (hq : q = -1 ∨ q ∈ OL d) : mk (ORD d) (pl (OL d) q) = mk d q := by
  rcases hq with e | e
  · rw [e, pl_neg1 h, mk_neg, mk_neg]
  · exact ORD_mk h e
theorem ORD_LL {d : S30} (h : Dr d) {w : List Nat} {q : Int} (hw : Byt w) (hq : q = -1 ∨ q ∈ OL d) : LL (ORD d) (pl (OL d) q) w = LL d q w := by
  obtain ⟨g1, g2⟩ := ORD_go h w q hw hq
  unfold LL
  rw [g1]
  exact ORD_mk' h g2
theorem pl_idx {L : List Int} (hn : L.Nodup) {i : Nat} (hi : i < L.length) : pl L (lget L (i : Int)) = (i : Int) := by
  have hm : lget L (i : Int) ∈ L := mem_lget (by omega) (by omega)
  obtain ⟨j, j1, j2, j3⟩ := pl_get hm
  rw [j2]
  rw [lget_lt _ j j1, lget_lt _ i hi] at j3
  have hp := List.pairwise_iff_getElem.1 hn
  rcases Nat.lt_trichotomy i j with a | a | a
  · exact absurd j3.symm (hp i j hi j1 a)
  · omega
  · exact absurd j3 (hp j i j1 hi a)
/-- All states are reached. -/
def RCH (e : S30) : Prop := ∀ i : Nat, i < e.f1.length → ∃ w, Byt w ∧ go e 0 w = (i : Int)
theorem ORD_RCH {d : S30} (h : Dr d) : RCH (ORD d) := by
  intro i hi
  rw [ORD_len] at hi
  have hO := OL_OI h
  have hm : lget (OL d) (i : Int) ∈ OL d := mem_lget (by omega) (by omega)
  have hn := h.n1
  obtain ⟨w, w1, w2⟩ := DR_go h (s := 0) (by omega) (hO.rch _ hm)
  obtain ⟨z1, z2⟩ := ORD_zero h
  have := (ORD_go h w 0 w1 (.inr z1)).1
  rw [z2, w2, pl_idx hO.nd hi] at this
  exact ⟨w, w1, this⟩
theorem TRM_ORD_TR {d : S30} (h : Dr d) {A : List Bool} (hA : AS d A) : TR (ORD (TRM d A)) := by
  have hT := TRM_Dr h A
  have hO := OL_OI hT
  intro i b hi hb hp
  have hi' := hi
  rw [ORD_len] at hi'
  have hm : lget (OL (TRM d A)) (i : Int) ∈ OL (TRM d A) := mem_lget (by omega) (by omega)
  have hr := hO.rng _ hm
  rw [TRM_len] at hr
  obtain ⟨s1, s2⟩ := ORD_stp hT hm (c := (b : Int)) (by omega) (by omega)
  rw [pl_idx hO.nd hi'] at s1
  have hne : stp (TRM d A) (lget (OL (TRM d A)) (i : Int)) (b : Int) ≠ -1 := fun e => by
    rw [e, pl_neg1 hT] at s1; omega
  have s3 := s2.resolve_left hne
  rw [TRM_stp h A hr.1 hr.2 hb] at s1 s3 hne
  have hrg := stp_rng h (q := lget (OL (TRM d A)) (i : Int)) (c := (b : Int)) (by omega) (by omega) (by omega)
  generalize stp d (lget (OL (TRM d A)) (i : Int)) (b : Int) = p at *
  have hal : 0 ≤ p ∧ AL d p := by
    unfold tr at hne
    by_cases c : 0 ≤ p ∧ lget A p = false
    · rw [if_pos c] at hne; exact absurd rfl hne
    · rw [if_neg c] at hne
      refine ⟨by omega, (hA.2 _ (by omega) hrg.2).1 ?_⟩
      cases hx : lget A p with
      | true => rfl
      | false => exact absurd ⟨by omega, hx⟩ c
  have etr : tr A p = p := by
    unfold tr
    rw [if_neg]
    rintro ⟨_, c⟩
    rw [(hA.2 _ hal.1 hrg.2).2 hal.2] at c; cases c
  rw [etr] at s1 s3
  obtain ⟨w, w1, w2⟩ := (AL_iff h hal.1 hrg.2).1 hal.2
  rw [s1] at hp ⊢
  have hlt := (pl_lt (L := OL (TRM d A)) p).2
  refine (AL_iff (ORD_Dr hT) hp (by rw [ORD_len]; exact hlt)).2 ⟨w, w1, ?_⟩
  rw [ORD_LL hT w1 (.inr s3), TRM_LL h hA w p w1 (by omega)]
  exact w2
end Go.Avl.T5
/- mini: the quotient's words; blocks are told apart by words. -/
namespace Go.Avl.T5
open Go Go.RowKit Go.Proofs Go.Avl
set_option linter.all false
set_option maxRecDepth 10000

theorem f0_mk {e : S30} (h : Dr e) {i j : Nat} (k : f0 e i = f0 e j) : mk e (i : Int) = mk e (j : Int) := by
  have h1 := mk_ge h (i : Int)
  have h2 := mk_ge h (j : Int)
  unfold f0 at k
  omega
theorem bt1_nat (kk : Nat → ByteArray) (i : Nat) : bt1 kk (i : Int) = (ck kk i : Int) := by
  unfold bt1; rw [if_pos (by omega), Int.toNat_natCast]
theorem bt1_neg (kk : Nat → ByteArray) : bt1 kk (-1) = -1 := rfl
theorem QO_mk {e : S30} (h : Dr e) {kk : Nat → ByteArray} (k : Cut e kk) {q : Int} (hq : -1 ≤ q ∧ q < (e.f1.length : Int)) : mk (QO e kk) (bt1 kk q) = mk e q := by
  by_cases a : q = -1
  · rw [a, bt1_neg, mk_neg, mk_neg]
  · obtain ⟨i, rfl⟩ := Int.eq_ofNat_of_zero_le (show 0 ≤ q by omega)
    have hi : i < e.f1.length := by omega
    have hr := rc_spec kk i
    obtain ⟨l1, l2⟩ := QO_len e kk
    have hck := ck_lt (kk := kk) hi
    rw [bt1_nat, mk_in (QO_Dr h kk) (by omega) (by omega), (QO_get kk hi).2, ← mk_in h (by omega) (by omega)]
    exact f0_mk h (k.mark _ _ (by omega) (by omega) hr.2.1)
theorem QO_go {e : S30} (h : Dr e) {kk : Nat → ByteArray} (k : Cut e kk) (s : Stb e kk) (t : TR e) : ∀ (w : List Nat) (q : Int), Byt w → -1 ≤ q ∧ q < (e.f1.length : Int) → go (QO e kk) (bt1 kk q) w = bt1 kk (go e q w)
  | [], _, _, _ => rfl
  | b :: w, q, hw, hq => by
    have hb := hw.hd
    by_cases a : q = -1
    · rw [a, bt1_neg, go_neg, go_neg]; rfl
    · obtain ⟨i, rfl⟩ := Int.eq_ofNat_of_zero_le (show 0 ≤ q by omega)
      have hr := stp_rng h (q := (i : Int)) (c := (b : Int)) hq (by omega) (by omega)
      rw [go, go, bt1_nat, QO_stp h k s t (by omega) hb]
      exact QO_go h k s t w _ hw.tl hr
theorem QO_LL {e : S30} (h : Dr e) {kk : Nat → ByteArray} (k : Cut e kk) (s : Stb e kk) (t : TR e) {w : List Nat} {q : Int} (hw : Byt w) (hq : -1 ≤ q ∧ q < (e.f1.length : Int)) : LL (QO e kk) (bt1 kk q) w = LL e q w := by
  unfold LL
  rw [QO_go h k s t w q hw hq]
  exact QO_mk h k (go_rng h w q hw hq)
/-- Two states are of one block just if no text tells them apart. -/
theorem block_iff {e : S30} (h : Dr e) {kk : Nat → ByteArray} (k : Cut e kk) (s : Stb e kk) (t : TR e) {i j : Nat} (hi : i < e.f1.length) (hj : j < e.f1.length) : kk i = kk j ↔ ∀ w, Byt w → LL e (i : Int) w = LL e (j : Int) w := by
  constructor
  · intro eq w hw
    rw [← QO_LL h k s t hw (q := (i : Int)) (by omega), ← QO_LL h k s t hw (q := (j : Int)) (by omega), bt1_nat, bt1_nat, ck_same kk eq]
  · intro hl
    let E : Nat → Nat → Prop := fun i j => ∀ w, Byt w → LL e (if i < e.f1.length then (i : Int) else -1) w = LL e (if j < e.f1.length then (j : Int) else -1) w
    have stepE : ∀ i, i ≤ e.f1.length → ∀ b, b < 256 → ∀ w, Byt w → LL e (if dl e i (cls e b) < e.f1.length then (dl e i (cls e b) : Int) else -1) w = LL e (if i < e.f1.length then (i : Int) else -1) (b :: w) := by
      intro i hi b hb w hw
      by_cases a : i < e.f1.length
      · rw [if_pos a]
        obtain ⟨d1, r1, r2⟩ := stp_dl h a hb
        rw [d1]
        by_cases c : 0 ≤ stp e (i : Int) (b : Int)
        · rw [if_pos c, if_pos (by omega), Int.toNat_of_nonneg c]; rfl
        · rw [if_neg c, if_neg (by omega)]
          have : stp e (i : Int) (b : Int) = -1 := by omega
          show _ = LL e (stp e (i : Int) (b : Int)) w
          rw [this]
      · rw [if_neg a, LL_neg]
        have : dl e i (cls e b) = e.f1.length := by unfold dl; rw [if_neg (fun q => a q.1)]
        rw [this, if_neg (by omega), LL_neg]
    have hB : Bis e E := by
      intro i j hi hj hE
      refine ⟨?_, fun c hc w hw => ?_⟩
      · have m0 : ∀ i, i ≤ e.f1.length → LL e (if i < e.f1.length then (i : Int) else -1) [] = mk e (i : Int) := by
          intro i hi
          by_cases a : i < e.f1.length
          · rw [if_pos a]; rfl
          · rw [if_neg a, LL_neg]
            have hm := h.ml
            unfold mk
            rw [if_pos (.inr (by omega))]
        have := hE [] byt_nil
        rw [m0 i hi, m0 j hj] at this
        unfold f0
        rw [this]
      · have hk := KC_eq h
        obtain ⟨b, hb, eb⟩ := h.gap c (by omega)
        have ec : cls e b = c := by unfold cls; rw [eb, Int.toNat_natCast]
        have := hE (b :: w) (Byt.cons hb hw)
        rw [← stepE i hi b hb w hw, ← stepE j hj b hb w hw, ec] at this
        exact this
    refine k.bis E hB i j (by omega) (by omega) fun w hw => ?_
    rw [if_pos hi, if_pos hj]
    exact hl w hw
/-- Where a text leads to: told by what goes on from there. -/
theorem pos_iff {e : S30} (h : Dr e) (t : TR e) {w : List Nat} (hw : Byt w) : 0 ≤ go e 0 w ↔ w = [] ∨ ∃ u, Byt u ∧ 0 ≤ LL e 0 (w ++ u) := by
  have h1 := h.n1
  constructor
  · intro hp
    rcases List.eq_nil_or_concat w with rfl | ⟨v, b, rfl⟩
    · exact .inl rfl
    · right
      have e0 : v.concat b = v ++ [b] := List.concat_eq_append
      rw [e0] at hp hw ⊢
      have hv : Byt v := fun x hx => hw x (List.mem_append_left _ hx)
      have hb : b < 256 := hw b (by simp)
      rw [go_snoc] at hp
      have hg := go_rng h v 0 hv (by omega)
      by_cases a : go e 0 v = -1
      · rw [a, stp_neg] at hp; omega
      · obtain ⟨i, hi⟩ := Int.eq_ofNat_of_zero_le (show 0 ≤ go e 0 v by omega)
        have hr := stp_rng h (q := go e 0 v) (c := (b : Int)) hg (by omega) (by omega)
        rw [hi] at hp hg hr
        obtain ⟨u, u1, u2⟩ := (AL_iff h hp hr.2).1 (t i b (by omega) hb hp)
        refine ⟨u, u1, ?_⟩
        unfold LL
        rw [go_app, go_snoc, hi]
        exact u2
  · rintro (rfl | ⟨u, u1, u2⟩)
    · show (0 : Int) ≤ 0; omega
    · have hg := go_rng h w 0 hw (by omega)
      by_cases a : go e 0 w = -1
      · unfold LL at u2; rw [go_app, a, go_neg, mk_neg] at u2; omega
      · omega
theorem LL_app (e : S30) (q : Int) (w u : List Nat) : LL e q (w ++ u) = LL e (go e q w) u := by unfold LL; rw [go_app]
/-- The block to which a text leads. -/
def bw (e : S30) (kk : Nat → ByteArray) (w : List Nat) : Int := bt1 kk (go e 0 w)
theorem bt1_nn (kk : Nat → ByteArray) {x : Int} (h : -1 ≤ x) : (0 ≤ bt1 kk x ↔ 0 ≤ x) := by
  unfold bt1; split <;> omega
theorem bw_iff {e : S30} (h : Dr e) {kk : Nat → ByteArray} (k : Cut e kk) (s : Stb e kk) (t : TR e) {w w' : List Nat} (hw : Byt w) (hw' : Byt w') : bw e kk w = bw e kk w' ↔ (0 ≤ go e 0 w ↔ 0 ≤ go e 0 w') ∧ ∀ u, Byt u → LL e 0 (w ++ u) = LL e 0 (w' ++ u) := by
  have h1 := h.n1
  have g1 := go_rng h w 0 hw (by omega)
  have g2 := go_rng h w' 0 hw' (by omega)
  have lapp : ∀ w u, LL e 0 (w ++ u) = LL e (go e 0 w) u := fun w u => LL_app e 0 w u
  unfold bw
  constructor
  · intro eq
    refine ⟨?_, fun u hu => ?_⟩
    · rw [← bt1_nn kk g1.1, ← bt1_nn kk g2.1, eq]
    · rw [lapp, lapp, ← QO_LL h k s t hu g1, ← QO_LL h k s t hu g2, eq]
  · rintro ⟨e1, e2⟩
    by_cases a : 0 ≤ go e 0 w
    · obtain ⟨i, hi⟩ := Int.eq_ofNat_of_zero_le a
      obtain ⟨j, hj⟩ := Int.eq_ofNat_of_zero_le (e1.1 a)
      rw [hi, hj, bt1_nat, bt1_nat]
      have := (block_iff h k s t (i := i) (j := j) (by omega) (by omega)).2 fun u hu => by
        have := e2 u hu
        rw [lapp, lapp, hi, hj] at this; exact this
      rw [ck_same kk this]
    · have b : ¬ 0 ≤ go e 0 w' := fun q => a (e1.2 q)
      rw [show go e 0 w = -1 by omega, show go e 0 w' = -1 by omega]
end Go.Avl.T5
/- mini: classes of bytes that lead alike made one. -/
namespace Go.Avl.T5
open Go Go.RowKit Go.Proofs Go.Avl
set_option linter.all false
set_option maxRecDepth 10000

theorem kcol_iff {q : S30} (h : Dr q) {b c : Nat} (hb : b < 256) (hc : c < 256) : kcol q b = kcol q c ↔ ∀ p : Nat, p < q.f1.length → stp q (p : Int) (b : Int) = stp q (p : Int) (c : Int) := by
  obtain ⟨b1, b2⟩ := cls_eq h hb
  obtain ⟨c1, c2⟩ := cls_eq h hc
  have hk := KC_eq h
  have hn := h.n2
  have st : ∀ (p : Nat) (x : Nat), p < q.f1.length → x < 256 → stp q (p : Int) (x : Int) = lget (lget q.f1 (p : Int)) (cls q x : Int) := by
    intro p x hp hx
    obtain ⟨k1, k2, k3⟩ := stp_in h (q := (p : Int)) (c := (x : Int)) (by omega) (by omega) (by omega) (by omega)
    rw [(cls_eq h hx).1] at k3; exact k3
  have en : ∀ r ∈ q.f1, ∀ x, x < 256 → -1 ≤ lget r (cls q x : Int) ∧ lget r (cls q x : Int) < (q.f1.length : Int) := by
    intro r hr x hx
    have := h.row r hr
    have := (cls_eq h hx).2
    exact h.ent r hr _ (mem_lget (by omega) (by omega))
  have rng : ∀ x, x < 256 → ∀ v ∈ CL2 q (cls q x), v < 65536 := by
    intro x hx v hv
    obtain ⟨r, hr, rfl⟩ := List.mem_map.1 hv
    have := en r hr x hx
    omega
  unfold kcol
  constructor
  · intro e p hp
    have e := enc2_inj (strOf_inj (enc2_rng (rng b hb)) (enc2_rng (rng c hc)) e)
    have hr : lget q.f1 (p : Int) ∈ q.f1 := mem_lget (by omega) (by omega)
    have := List.map_inj_left.1 e _ hr
    have r1 := en _ hr b hb
    have r2 := en _ hr c hc
    rw [st p b hp hb, st p c hp hc]
    omega
  · intro e
    have : CL2 q (cls q b) = CL2 q (cls q c) := by
      unfold CL2
      refine List.map_inj_left.2 fun r hr => ?_
      obtain ⟨p, hp, rfl⟩ := lget_mem hr
      have := e p hp
      rw [st p b hp hb, st p c hp hc] at this
      rw [this]
    rw [this]
/-- Keys alike up to a bound: numbers alike. -/
theorem rc_congr {kk kk' : Nat → ByteArray} {N : Nat} (h : ∀ b c, b < N → c < N → (kk b = kk c ↔ kk' b = kk' c)) {b : Nat} (hb : b < N) : rc kk b = rc kk' b := by
  obtain ⟨s1, s2, s3⟩ := rc_spec kk' b
  exact rc_uniq kk ((h _ _ (by omega) hb).2 s2) fun c hc e => s3 c hc ((h _ _ (by omega) hb).1 e)
theorem nc_congr {kk kk' : Nat → ByteArray} {N : Nat} (h : ∀ b c, b < N → c < N → (kk b = kk c ↔ kk' b = kk' c)) : ∀ b, b ≤ N → nc kk b = nc kk' b
  | 0, _ => rfl
  | b + 1, hb => by rw [nc, nc, rc_congr h (show b < N by omega), nc_congr h b (by omega)]
theorem ck_congr {kk kk' : Nat → ByteArray} {N : Nat} (h : ∀ b c, b < N → c < N → (kk b = kk c ↔ kk' b = kk' c)) {b : Nat} (hb : b < N) : ck kk b = ck kk' b := by
  have := (rc_spec kk' b).1
  unfold ck
  rw [rc_congr h hb]
  exact nc_congr h _ (by omega)
theorem rps_congr {kk kk' : Nat → ByteArray} {N : Nat} (h : ∀ b c, b < N → c < N → (kk b = kk c ↔ kk' b = kk' c)) : ∀ m b, b + m ≤ N → rps kk m b = rps kk' m b
  | 0, _, _ => rfl
  | m + 1, b, hb => by rw [rps, rps, rc_congr h (show b < N by omega), rps_congr h m (b + 1) (by omega)]
/-- The machine with alike classes made one. -/
def CM (q : S30) (v : Vector Int 256) : S30 := S30.mk v (q.f1.map fun r => (KB q).map fun c => lget r c) q.f2
def CV (q : S30) (v : Vector Int 256) : Prop := ∀ c : Nat, c < 256 → vget v (c : Int) = (ck (kcol q) c : Int)
theorem CV_out (v : Vector Int 256) {c : Int} (h : ¬ c.toNat < 256) : vget v c = 0 := by
  have : v.toList[c.toNat]? = none := List.getElem?_eq_none (by simp; omega)
  simp only [vget, List.getD, this]; rfl
theorem CV_uniq {q q' : S30} {v v' : Vector Int 256} (h : CV q v) (h' : CV q' v') (e : ∀ c, c < 256 → ck (kcol q) c = ck (kcol q') c) : v = v' := by
  refine Vector.ext fun i hi => ?_
  have h1 := h i hi
  have h2 := h' i hi
  rw [e i hi, ← h2] at h1
  simpa [vget, List.getD, hi] using h1
theorem CM_vb {q : S30} {v : Vector Int 256} (h : CV q v) : VB v := by
  intro c
  by_cases hc : c.toNat < 256
  · by_cases h0 : 0 ≤ c
    · obtain ⟨n, rfl⟩ := Int.eq_ofNat_of_zero_le h0
      rw [h n (by omega)]
      have := ck_le (kcol q) n
      omega
    · have e : vget v c = vget v ((0 : Nat) : Int) := by unfold vget; rw [show c.toNat = 0 by omega]; rfl
      rw [e, h 0 (by omega)]
      have := ck_le (kcol q) 0
      omega
  · rw [CV_out v hc]; omega
theorem CM_kcl {q : S30} {v : Vector Int 256} (h : CV q v) : kcl v = (nc (kcol q) 256 : Int) := by
  have h1 := count_eq (CM_vb h)
  have h2 := bcount_l (kk := kcol q) v h 256 0 5000 (by omega) (by omega)
  have h3 : byteset_Count 5000 v = byteset_Count_l1 5000 v 5000 (nc (kcol q) 0 : Int) (0 : Int) := rfl
  rw [h3] at h1
  rw [Int.natCast_zero] at h2
  rw [h2] at h1
  exact (Option.some.inj h1).symm
theorem KB_size (q : S30) : (KB q).length = nc (kcol q) 256 := by
  unfold KB
  rw [List.length_map]
  have := rps_len (kcol q) 256 0
  have z : nc (kcol q) 0 = 0 := rfl
  rw [z, Nat.zero_add, Nat.add_zero] at this
  exact this
theorem KB_get (q : S30) {b : Nat} (hb : b < 256) : (KB q)[ck (kcol q) b]? = some (cls q (rc (kcol q) b) : Int) := by
  have hr := rc_spec (kcol q) b
  have hg := rps_get (kcol q) 256 0 (rc (kcol q) b) (by omega) (by omega) (rc_rc (kcol q) b)
  have z : nc (kcol q) 0 = 0 := rfl
  rw [z, Nat.sub_zero] at hg
  have hg : (rps (kcol q) 256 0)[ck (kcol q) b]? = some (rc (kcol q) b) := hg
  unfold KB
  rw [List.getElem?_map, hg]; rfl
theorem CM_len (q : S30) (v : Vector Int 256) : (CM q v).f1.length = q.f1.length := by show (q.f1.map _).length = _; rw [List.length_map]
theorem CM_Dr {q : S30} (h : Dr q) {v : Vector Int 256} (hv : CV q v) : Dr (CM q v) := by
  have hk := CM_kcl hv
  refine ⟨by rw [CM_len]; exact h.n1, by rw [CM_len]; exact h.n2, by rw [CM_len]; exact h.ml, CM_vb hv, fun c hc => ?_, fun r hr => ?_, fun r hr x hx => ?_, h.mark⟩
  · have hc' : (c : Int) < kcl v := hc
    obtain ⟨b, b1, b2, b3⟩ := ck_onto (kk := kcol q) 256 c (by omega)
    refine ⟨b, b1, ?_⟩
    show vget v (b : Int) = _
    rw [hv b b1]; unfold ck; rw [b2, b3]
  · obtain ⟨r', hr', rfl⟩ := List.mem_map.1 (show r ∈ q.f1.map fun r => (KB q).map fun c => lget r c from hr)
    rw [List.length_map, KB_size]; exact hk.symm
  · obtain ⟨r', hr', rfl⟩ := List.mem_map.1 (show r ∈ q.f1.map fun r => (KB q).map fun c => lget r c from hr)
    obtain ⟨c, hc, rfl⟩ := List.mem_map.1 hx
    obtain ⟨k1, k2⟩ := KB_mem h hc
    have hrow := h.row r' hr'
    rw [CM_len]
    exact h.ent r' hr' _ (mem_lget k1 (by omega))
theorem CM_row {q : S30} (h : Dr q) (v : Vector Int 256) {p : Nat} (hp : p < q.f1.length) : rw' (CM q v) (p : Int) = (rps (kcol q) 256 0).map fun r : Nat => stp q (p : Int) (r : Int) := by
  show lget (q.f1.map fun r => (KB q).map fun c => lget r c) (p : Int) = _
  rw [lget_map _ _ (by omega) (by omega)]
  unfold KB
  rw [List.map_map]
  refine List.map_inj_left.2 fun r hr => ?_
  have hrm := rps_mem (kcol q) 256 0 r hr
  obtain ⟨k1, k2, k3⟩ := stp_in h (q := (p : Int)) (c := (r : Int)) (by omega) (by omega) (by omega) (by omega)
  rw [k3, (cls_eq h (b := r) (by omega)).1]; rfl
theorem CM_stp {q : S30} (h : Dr q) {v : Vector Int 256} (hv : CV q v) {p b : Nat} (hp : p < q.f1.length) (hb : b < 256) : stp (CM q v) (p : Int) (b : Int) = stp q (p : Int) (b : Int) := by
  obtain ⟨k1, k2, k3⟩ := stp_in (CM_Dr h hv) (q := (p : Int)) (c := (b : Int)) (by omega) (by rw [CM_len]; omega) (by omega) (by omega)
  have hr := rc_spec (kcol q) b
  rw [k3]
  show lget (rw' (CM q v) (p : Int)) (vget v (b : Int)) = _
  rw [hv b hb]
  have e : lget (rw' (CM q v) (p : Int)) (ck (kcol q) b : Int) = lget (lget q.f1 (p : Int)) (cls q (rc (kcol q) b) : Int) := by
    show lget (lget (q.f1.map fun r => (KB q).map fun c => lget r c) (p : Int)) _ = _
    rw [lget_map _ _ (by omega) (by omega)]
    show (List.map (fun c => lget (lget q.f1 (p : Int)) c) (KB q)).getD (ck (kcol q) b : Int).toNat default = _
    rw [Int.toNat_natCast, List.getD, List.getElem?_map, KB_get q hb]; rfl
  rw [e]
  obtain ⟨m1, m2, m3⟩ := stp_in h (q := (p : Int)) (c := (rc (kcol q) b : Int)) (by omega) (by omega) (by omega) (by omega)
  rw [(cls_eq h (b := rc (kcol q) b) (by omega)).1] at m3
  rw [← (kcol_iff h (b := rc (kcol q) b) (c := b) (by omega) hb).1 hr.2.1 p hp]
  exact m3.symm
theorem CM_LL {q : S30} (h : Dr q) {v : Vector Int 256} (hv : CV q v) : ∀ (w : List Nat) (p : Int), Byt w → -1 ≤ p ∧ p < (q.f1.length : Int) → LL (CM q v) p w = LL q p w
  | [], p, _, _ => rfl
  | b :: w, p, hw, hp => by
    have hb := hw.hd
    by_cases a : p = -1
    · rw [a, LL_neg, LL_neg]
    · obtain ⟨i, rfl⟩ := Int.eq_ofNat_of_zero_le (show 0 ≤ p by omega)
      have hr := stp_rng h (q := (i : Int)) (c := (b : Int)) hp (by omega) (by omega)
      show LL (CM q v) (stp (CM q v) (i : Int) (b : Int)) w = LL q (stp q (i : Int) (b : Int)) w
      rw [CM_stp h hv (by omega) hb]
      exact CM_LL h hv w _ hw.tl hr
end Go.Avl.T5
/- mini: machines alike but for the numbers of their states are put in one order. -/
namespace Go.Avl.T5
open Go Go.RowKit Go.Proofs Go.Avl
set_option linter.all false
set_option maxRecDepth 10000

structure Iso (a b : S30) (φ : Int → Int) (V : Int → Prop) : Prop where
  f0 : b.f0 = a.f0
  z : φ 0 = 0
  vz : V 0
  pos : ∀ x, V x → (0 ≤ φ x ↔ 0 ≤ x)
  inj : ∀ x y, V x → V y → φ x = φ y → x = y
  row : ∀ x, V x → 0 ≤ x → rw' b (φ x) = (rw' a x).map φ ∧ ∀ y ∈ rw' a x, V y
  mark : ∀ x, V x → 0 ≤ x → lget b.f2 (φ x) = lget a.f2 x
variable {a b : S30} {φ : Int → Int} {V : Int → Prop}
theorem Iso.mem (h : Iso a b φ V) {L : List Int} (hL : ∀ y ∈ L, V y) {x : Int} (hx : V x) : φ x ∈ L.map φ ↔ x ∈ L := by
  constructor
  · intro k
    obtain ⟨y, y1, y2⟩ := List.mem_map.1 k
    rw [← h.inj y x (hL y y1) hx y2]; exact y1
  · intro k; exact List.mem_map_of_mem k
theorem Iso.addO (h : Iso a b φ V) {L : List Int} (hL : ∀ y ∈ L, V y) {x : Int} (hx : V x) : addO (L.map φ) (φ x) = (T5.addO L x).map φ ∧ ∀ y ∈ T5.addO L x, V y := by
  unfold T5.addO
  have := h.mem hL hx
  have hp := h.pos x hx
  by_cases c : 0 ≤ x ∧ x ∉ L
  · rw [if_pos c, if_pos ⟨hp.2 c.1, fun k => c.2 (this.1 k)⟩]
    refine ⟨by simp, fun y hy => ?_⟩
    rcases List.mem_append.1 hy with e | e
    · exact hL y e
    · have : y = x := by simpa using e
      rw [this]; exact hx
  · rw [if_neg c, if_neg fun k => c ⟨hp.1 k.1, fun q => k.2 (this.2 q)⟩]
    exact ⟨rfl, hL⟩
theorem Iso.ordR (h : Iso a b φ V) : ∀ (r L : List Int), (∀ y ∈ L, V y) → (∀ y ∈ r, V y) → T5.ordR (L.map φ) (r.map φ) = (T5.ordR L r).map φ ∧ ∀ y ∈ T5.ordR L r, V y
  | [], L, hL, _ => ⟨rfl, hL⟩
  | x :: r, L, hL, hr => by
    obtain ⟨a1, a2⟩ := h.addO hL (hr x (.head _))
    have := h.ordR r (T5.addO L x) a2 fun y hy => hr y (.tail _ hy)
    show T5.ordR (T5.addO (L.map φ) (φ x)) (r.map φ) = (T5.ordR (T5.addO L x) r).map φ ∧ _
    rw [a1]; exact this
theorem Iso.obs (h : Iso a b φ V) : ∀ (m : Nat) (L : List Int) (i : Nat), (∀ y ∈ L, V y ∧ 0 ≤ y) → T5.obs b m (L.map φ) i = (T5.obs a m L i).map φ ∧ ∀ y ∈ T5.obs a m L i, V y ∧ 0 ≤ y
  | 0, L, i, hL => ⟨rfl, hL⟩
  | m + 1, L, i, hL => by
    rw [T5.obs, T5.obs, List.length_map]
    by_cases c : i < L.length
    · rw [if_pos c, if_pos c]
      have hm : lget L (i : Int) ∈ L := mem_lget (by omega) (by omega)
      obtain ⟨v, v0⟩ := hL _ hm
      obtain ⟨r1, r2⟩ := h.row _ v v0
      rw [lget_map φ L (by omega) (by omega), r1]
      obtain ⟨o1, o2⟩ := h.ordR _ L (fun y hy => (hL y hy).1) r2
      rw [o1]
      refine h.obs m _ (i + 1) fun y hy => ⟨o2 y hy, ?_⟩
      rcases ordR_from _ _ hy with e | e
      · exact (hL y e).2
      · exact e.2
    · rw [if_neg c, if_neg c]
      exact ⟨rfl, hL⟩
theorem Iso.plc (h : Iso a b φ V) {x : Int} (hx : V x) : ∀ (L : List Int) (i : Int), (∀ y ∈ L, V y) → T5.plc (L.map φ) (φ x) i = T5.plc L x i
  | [], i, _ => rfl
  | y :: L, i, hL => by
    have ih := h.plc hx L (i + 1) fun z hz => hL z (.tail _ hz)
    rw [List.map_cons, T5.plc, T5.plc, ih]
    by_cases c : y = x
    · rw [if_pos c, if_pos (by rw [c])]
    · rw [if_neg c, if_neg fun e => c (h.inj y x (hL y (.head _)) hx e)]
theorem Iso.ORD (h : Iso a b φ V) : ORD b = ORD a := by
  obtain ⟨o1, o2⟩ := h.obs 5000 [0] 0 (fun y hy => by have : y = 0 := by simpa using hy
                                                      rw [this]; exact ⟨h.vz, by omega⟩)
  have e : OL b = (OL a).map φ := by
    unfold OL
    have e0 : ([0] : List Int).map φ = [0] := by rw [List.map_cons, h.z]; rfl
    rw [e0] at o1
    exact o1
  unfold T5.ORD OD
  rw [e, h.f0, List.map_map, List.map_map]
  congr 1
  · refine List.map_inj_left.2 fun x hx => ?_
    obtain ⟨v, v0⟩ := o2 x hx
    obtain ⟨r1, r2⟩ := h.row x v v0
    show (rw' b (φ x)).map (pl ((OL a).map φ)) = (rw' a x).map (pl (OL a))
    rw [r1, List.map_map]
    exact List.map_inj_left.2 fun y hy => h.plc (r2 y hy) (OL a) 0 fun z hz => (o2 z hz).1
  · refine List.map_inj_left.2 fun x hx => ?_
    obtain ⟨v, v0⟩ := o2 x hx
    exact h.mark x v v0
end Go.Avl.T5
/- mini: machines that have the same texts are made the same. -/
namespace Go.Avl.T5
open Go Go.RowKit Go.Proofs Go.Avl
set_option linter.all false
set_option maxRecDepth 10000

/-- What is ahead of the last order: trimmed, in order, cut into blocks. -/
structure Mid (e : S30) (kk : Nat → ByteArray) : Prop where
  dr : Dr e
  cut : Cut e kk
  stb : Stb e kk
  tr : TR e
  rch : RCH e
theorem Mid.of {d : S30} (h : Dr d) {A : List Bool} (hA : AS d A) {kk : Nat → ByteArray} (k : Cut (ORD (TRM d A)) kk) (s : Stb (ORD (TRM d A)) kk) : Mid (ORD (TRM d A)) kk :=
  ⟨ORD_Dr (TRM_Dr h A), k, s, TRM_ORD_TR h hA, ORD_RCH (TRM_Dr h A)⟩
theorem Mid.word {e : S30} {kk : Nat → ByteArray} (m : Mid e kk) {p : Nat} (hp : p < (QO e kk).f1.length) : ∃ w, Byt w ∧ bw e kk w = (p : Int) := by
  rw [(QO_len e kk).1] at hp
  obtain ⟨i, i1, i2, i3⟩ := ck_onto (kk := kk) _ p hp
  obtain ⟨w, w1, w2⟩ := m.rch i i1
  refine ⟨w, w1, ?_⟩
  unfold bw
  rw [w2, bt1_nat]
  unfold ck
  rw [i2, i3]
theorem Mid.stp {e : S30} {kk : Nat → ByteArray} (m : Mid e kk) {w : List Nat} {b : Nat} (hw : Byt w) (hb : b < 256) : stp (QO e kk) (bw e kk w) (b : Int) = bw e kk (w ++ [b]) := by
  have h1 := m.dr.n1
  have := QO_go m.dr m.cut m.stb m.tr (w ++ [b]) 0 (hw.app (byt_one hb)) (by omega)
  have h2 := QO_go m.dr m.cut m.stb m.tr w 0 hw (by omega)
  rw [go_snoc, h2] at this
  exact this
/-- Which bytes lead alike is told by the texts. -/
theorem Mid.kcol {e : S30} {kk : Nat → ByteArray} (m : Mid e kk) {b c : Nat} (hb : b < 256) (hc : c < 256) : kcol (QO e kk) b = kcol (QO e kk) c ↔ ∀ w, Byt w → bw e kk (w ++ [b]) = bw e kk (w ++ [c]) := by
  have h1 := m.dr.n1
  rw [kcol_iff (QO_Dr m.dr kk) hb hc]
  constructor
  · intro k w hw
    rw [← m.stp hw hb, ← m.stp hw hc]
    have hg := go_rng m.dr w 0 hw (by omega)
    have hr := bt1_rng (kk := kk) hg
    by_cases a : bw e kk w = -1
    · rw [a, stp_neg, stp_neg]
    · obtain ⟨p, hp⟩ := Int.eq_ofNat_of_zero_le (show 0 ≤ bw e kk w by unfold bw at a ⊢; omega)
      rw [hp]
      refine k p ?_
      rw [(QO_len e kk).1]
      have : bw e kk w < (nc kk e.f1.length : Int) := hr.2
      omega
  · intro k p hp
    obtain ⟨w, w1, w2⟩ := m.word hp
    rw [← w2, m.stp w1 hb, m.stp w1 hc]
    exact k w w1
/-- The same texts. -/
def SL (e e' : S30) : Prop := ∀ w, Byt w → LL e 0 w = LL e' 0 w
theorem SL.symm {e e' : S30} (h : SL e e') : SL e' e := fun w hw => (h w hw).symm
theorem SL.trans {a b c : S30} (h : SL a b) (k : SL b c) : SL a c := fun w hw => (h w hw).trans (k w hw)
theorem same_pos {e e' : S30} (h : Dr e) (t : TR e) (h' : Dr e') (t' : TR e') (l : SL e e') {w : List Nat} (hw : Byt w) : 0 ≤ go e 0 w ↔ 0 ≤ go e' 0 w := by
  rw [pos_iff h t hw, pos_iff h' t' hw]
  constructor
  · rintro (q | ⟨u, u1, u2⟩)
    · exact .inl q
    · exact .inr ⟨u, u1, by rw [← l _ (hw.app u1)]; exact u2⟩
  · rintro (q | ⟨u, u1, u2⟩)
    · exact .inl q
    · exact .inr ⟨u, u1, by rw [l _ (hw.app u1)]; exact u2⟩
theorem same_bw {e e' : S30} {kk kk' : Nat → ByteArray} (m : Mid e kk) (m' : Mid e' kk') (l : SL e e') {w w' : List Nat} (hw : Byt w) (hw' : Byt w') : bw e kk w = bw e kk w' ↔ bw e' kk' w = bw e' kk' w' := by
  rw [bw_iff m.dr m.cut m.stb m.tr hw hw', bw_iff m'.dr m'.cut m'.stb m'.tr hw hw', same_pos m.dr m.tr m'.dr m'.tr l hw, same_pos m.dr m.tr m'.dr m'.tr l hw']
  constructor
  · rintro ⟨a, c⟩
    exact ⟨a, fun u hu => by rw [← l _ (hw.app hu), ← l _ (hw'.app hu)]; exact c u hu⟩
  · rintro ⟨a, c⟩
    exact ⟨a, fun u hu => by rw [l _ (hw.app hu), l _ (hw'.app hu)]; exact c u hu⟩
theorem same_kcol {e e' : S30} {kk kk' : Nat → ByteArray} (m : Mid e kk) (m' : Mid e' kk') (l : SL e e') {b c : Nat} (hb : b < 256) (hc : c < 256) : kcol (QO e kk) b = kcol (QO e kk) c ↔ kcol (QO e' kk') b = kcol (QO e' kk') c := by
  rw [m.kcol hb hc, m'.kcol hb hc]
  constructor
  · intro k w hw
    exact (same_bw m m' l (hw.app (byt_one hb)) (hw.app (byt_one hc))).1 (k w hw)
  · intro k w hw
    exact (same_bw m m' l (hw.app (byt_one hb)) (hw.app (byt_one hc))).2 (k w hw)
open Classical in
/-- From blocks to blocks. -/
noncomputable def phi (e e' : S30) (kk kk' : Nat → ByteArray) (x : Int) : Int := if h : ∃ w, Byt w ∧ bw e kk w = x then bw e' kk' (Classical.choose h) else x
theorem phi_bw {e e' : S30} {kk kk' : Nat → ByteArray} (m : Mid e kk) (m' : Mid e' kk') (l : SL e e') {w : List Nat} (hw : Byt w) : phi e e' kk kk' (bw e kk w) = bw e' kk' w := by
  have hx : ∃ u, Byt u ∧ bw e kk u = bw e kk w := ⟨w, hw, rfl⟩
  unfold phi
  rw [dif_pos hx]
  obtain ⟨c1, c2⟩ := Classical.choose_spec hx
  exact (same_bw m m' l c1 hw).1 c2
theorem bw_pos {e : S30} {kk : Nat → ByteArray} (m : Mid e kk) {w : List Nat} (hw : Byt w) : 0 ≤ bw e kk w ↔ 0 ≤ go e 0 w := by
  have h1 := m.dr.n1
  have hg := go_rng m.dr w 0 hw (by omega)
  exact bt1_nn kk hg.1
theorem canon {e e' : S30} {kk kk' : Nat → ByteArray} (m : Mid e kk) (m' : Mid e' kk') (l : SL e e') {v v' : Vector Int 256} (hv : CV (QO e kk) v) (hv' : CV (QO e' kk') v') : ORD (CM (QO e' kk') v') = ORD (CM (QO e kk) v) := by
  have hQ := QO_Dr m.dr kk
  have hQ' := QO_Dr m'.dr kk'
  have hk : ∀ b c, b < 256 → c < 256 → (kcol (QO e kk) b = kcol (QO e kk) c ↔ kcol (QO e' kk') b = kcol (QO e' kk') c) := fun b c hb hc => same_kcol m m' l hb hc
  have hz : bw e kk [] = 0 := by
    show bt1 kk ((0 : Nat) : Int) = 0
    rw [bt1_nat]
    have := ck_le kk 0
    omega
  have hz' : bw e' kk' [] = 0 := by
    show bt1 kk' ((0 : Nat) : Int) = 0
    rw [bt1_nat]
    have := ck_le kk' 0
    omega
  have inr : ∀ {e : S30} {kk : Nat → ByteArray}, Mid e kk → ∀ {w}, Byt w → 0 ≤ bw e kk w → ∃ p : Nat, bw e kk w = (p : Int) ∧ p < (QO e kk).f1.length := by
    intro e kk m w hw h0
    have h1 := m.dr.n1
    obtain ⟨p, hp⟩ := Int.eq_ofNat_of_zero_le h0
    have hg := go_rng m.dr w 0 hw (by omega)
    have hr : bw e kk w < (nc kk e.f1.length : Int) := (bt1_rng (kk := kk) hg).2
    exact ⟨p, hp, by rw [(QO_len e kk).1]; omega⟩
  refine Iso.ORD (φ := phi e e' kk kk') (V := fun x => ∃ w, Byt w ∧ bw e kk w = x) ⟨?_, ?_, ⟨[], byt_nil, hz⟩, ?_, ?_, ?_, ?_⟩
  · exact (CV_uniq hv hv' fun c hc => ck_congr hk hc).symm
  · rw [← hz, phi_bw m m' l byt_nil, hz', hz]
  · rintro _ ⟨w, w1, rfl⟩
    rw [phi_bw m m' l w1, bw_pos m' w1, bw_pos m w1, same_pos m.dr m.tr m'.dr m'.tr l w1]
  · rintro _ _ ⟨w, w1, rfl⟩ ⟨u, u1, rfl⟩ eq
    rw [phi_bw m m' l w1, phi_bw m m' l u1] at eq
    exact (same_bw m m' l w1 u1).2 eq
  · rintro _ ⟨w, w1, rfl⟩ h0
    have h0' : 0 ≤ bw e' kk' w := by
      rw [bw_pos m' w1, ← same_pos m.dr m.tr m'.dr m'.tr l w1, ← bw_pos m w1]; exact h0
    obtain ⟨p, p1, p2⟩ := inr m w1 h0
    obtain ⟨p', q1, q2⟩ := inr m' w1 h0'
    rw [phi_bw m m' l w1, p1, q1, CM_row hQ v p2, CM_row hQ' v' q2]
    refine ⟨?_, fun y hy => ?_⟩
    · rw [← rps_congr hk 256 0 (by omega), List.map_map]
      refine List.map_inj_left.2 fun r hr => ?_
      have hrm := rps_mem (kcol (QO e kk)) 256 0 r hr
      show stp (QO e' kk') (p' : Int) (r : Int) = phi e e' kk kk' (stp (QO e kk) (p : Int) (r : Int))
      rw [← p1, ← q1, m.stp w1 (by omega), m'.stp w1 (by omega), phi_bw m m' l (w1.app (byt_one (by omega)))]
    · obtain ⟨r, hr, rfl⟩ := List.mem_map.1 hy
      have hrm := rps_mem (kcol (QO e kk)) 256 0 r hr
      refine ⟨w ++ [r], w1.app (byt_one (by omega)), ?_⟩
      rw [← p1, m.stp w1 (by omega)]
  · rintro _ ⟨w, w1, rfl⟩ h0
    have h0' : 0 ≤ bw e' kk' w := by
      rw [bw_pos m' w1, ← same_pos m.dr m.tr m'.dr m'.tr l w1, ← bw_pos m w1]; exact h0
    obtain ⟨p, p1, p2⟩ := inr m w1 h0
    obtain ⟨p', q1, q2⟩ := inr m' w1 h0'
    have h1 := m.dr.n1
    have h1' := m'.dr.n1
    rw [phi_bw m m' l w1, p1, q1]
    show lget (QO e' kk').f2 (p' : Int) = lget (QO e kk).f2 (p : Int)
    rw [← mk_in hQ' (by omega) (by omega), ← mk_in hQ (by omega) (by omega), ← p1, ← q1]
    unfold bw
    rw [QO_mk m.dr m.cut (go_rng m.dr w 0 w1 (by omega)), QO_mk m'.dr m'.cut (go_rng m'.dr w 0 w1 (by omega))]
    exact (l w w1).symm
/-- What mini makes. -/
structure MO (d x : S30) : Prop where
  dr : Dr x
  sl : SL x d
theorem of_eq {d : S30} (h : Dr d) (hr : dfa_Right 5000 d = some true) (hrr : ∀ e, Dr e → dfa_Right 5000 e = some true) : ∃ e kk v, Mid e kk ∧ SL e d ∧ CV (QO e kk) v ∧ mini_Of 5000 d = some (ORD (CM (QO e kk) v), 0) := by
  obtain ⟨A, kk, hA, hc, hs, eq⟩ := of_mid h hr hrr
  have m := Mid.of h hA hc hs
  obtain ⟨v, v1, v2⟩ := mclasses_eq (QO_Dr m.dr kk)
  refine ⟨_, kk, v, m, fun w hw => ?_, v1, ?_⟩
  · rw [order_LL (TRM_Dr h A) hw, trim_LL h hA hw]
  · have : mini_classes 5000 (QO (ORD (TRM d A)) kk) = some (CM (QO (ORD (TRM d A)) kk) v) := v2
    rw [eq, this, Option.bind_some, order_eq (CM_Dr (QO_Dr m.dr kk) v1), Option.bind_some]
theorem CMO {e : S30} {kk : Nat → ByteArray} (m : Mid e kk) {v : Vector Int 256} (hv : CV (QO e kk) v) : MO e (ORD (CM (QO e kk) v)) := by
  have hQ := QO_Dr m.dr kk
  have h1 := m.dr.n1
  have q1 := hQ.n1
  refine ⟨ORD_Dr (CM_Dr hQ hv), fun w hw => ?_⟩
  rw [order_LL (CM_Dr hQ hv) hw, CM_LL hQ hv w 0 hw (by omega)]
  have := QO_LL m.dr m.cut m.stb m.tr hw (q := 0) (by omega)
  rw [← this]
  have hz : bt1 kk ((0 : Nat) : Int) = 0 := by
    rw [bt1_nat]
    have := ck_le kk 0
    omega
  have hz : bt1 kk 0 = 0 := hz
  rw [hz]
theorem of_MO {d : S30} (h : Dr d) (hr : dfa_Right 5000 d = some true) (hrr : ∀ e, Dr e → dfa_Right 5000 e = some true) : ∃ x, MO d x ∧ mini_Of 5000 d = some (x, 0) := by
  obtain ⟨e, kk, v, m, l, hv, eq⟩ := of_eq h hr hrr
  have := CMO m hv
  exact ⟨_, ⟨this.dr, this.sl.trans l⟩, eq⟩
/-- Machines that have the same texts are made the same. -/
theorem of_same {d d' : S30} (h : Dr d) (h' : Dr d') (hrr : ∀ e, Dr e → dfa_Right 5000 e = some true) (l : SL d d') : mini_Of 5000 d = mini_Of 5000 d' := by
  obtain ⟨e, kk, v, m, l1, hv, eq⟩ := of_eq h (hrr d h) hrr
  obtain ⟨e', kk', v', m', l1', hv', eq'⟩ := of_eq h' (hrr d' h') hrr
  rw [eq, eq', canon m m' (l1.trans (l.trans l1'.symm)) hv hv']
end Go.Avl.T5
/- mini: a state twice: the same texts. -/
namespace Go.Avl.T5
open Go Go.RowKit Go.Proofs Go.Avl
set_option linter.all false
set_option maxRecDepth 10000

section
variable (d : S30) (t : Nat)
def srcD (k : Nat) : Nat := if k = d.f1.length then t else k
def entD (k c : Nat) : Int := if lget (lget d.f1 (srcD d t k : Int)) (c : Int) = (t : Int) ∧ (k + c) % 2 = 0 then (d.f1.length : Int) else lget (lget d.f1 (srcD d t k : Int)) (c : Int)
def rowD (k : Nat) : List Int := (List.range (lget d.f1 (srcD d t k : Int)).length).map (entD d t k)
def DX : S30 := S30.mk d.f0 ((List.range (d.f1.length + 1)).map (rowD d t)) (d.f2 ++ [lget d.f2 (t : Int)])
def piD (q : Int) : Int := if q = (d.f1.length : Int) then (t : Int) else q
end
theorem lget_range {f : Nat → Int} {n i : Nat} (h : i < n) : lget ((List.range n).map f) (i : Int) = f i := by
  rw [lget_lt _ i (by simpa using h)]; simp
theorem lget_rangeL {f : Nat → List Int} {n i : Nat} (h : i < n) : lget ((List.range n).map f) (i : Int) = f i := by
  rw [lget_lt _ i (by simpa using h)]; simp
variable {d : S30} {t : Nat}
theorem srcD_lt (ht : t < d.f1.length) {k : Nat} (hk : k ≤ d.f1.length) : srcD d t k < d.f1.length := by unfold srcD; split <;> omega
theorem rowD_len (k : Nat) : (rowD d t k).length = (lget d.f1 (srcD d t k : Int)).length := by unfold rowD; rw [List.length_map, List.length_range]
theorem DX_len : (DX d t).f1.length = d.f1.length + 1 := by show ((List.range _).map _).length = _; rw [List.length_map, List.length_range]
theorem DX_row {k : Nat} (hk : k ≤ d.f1.length) : rw' (DX d t) (k : Int) = rowD d t k := lget_rangeL (by omega)
theorem entD_pi (h : Dr d) (ht : t < d.f1.length) {k c : Nat} (hk : k ≤ d.f1.length) (hc : c < (lget d.f1 (srcD d t k : Int)).length) : piD d t (entD d t k c) = lget (lget d.f1 (srcD d t k : Int)) (c : Int) ∧ -1 ≤ entD d t k c ∧ entD d t k c < (d.f1.length : Int) + 1 := by
  have hs := srcD_lt ht hk
  have ent := h.entk (i := (srcD d t k : Int)) (c := (c : Int)) (by omega) (by omega) (by omega) (by omega)
  unfold entD
  split
  · rename_i q
    refine ⟨?_, by omega, by omega⟩
    unfold piD; rw [if_pos rfl, q.1]
  · refine ⟨?_, by omega, by omega⟩
    unfold piD; rw [if_neg (by omega)]
theorem DX_Dr (h : Dr d) (hn : d.f1.length ≤ 900) (ht : t < d.f1.length) : Dr (DX d t) := by
  have hm := h.ml
  refine ⟨by rw [DX_len]; omega, by rw [DX_len]; omega, by rw [DX_len]; show (d.f2 ++ _).length = _; simp [hm], h.vb, h.gap, fun r hr => ?_, fun r hr x hx => ?_, fun m hm2 => ?_⟩
  · obtain ⟨k, hk, rfl⟩ := List.mem_map.1 (show r ∈ (List.range (d.f1.length + 1)).map (rowD d t) from hr)
    have hk := List.mem_range.1 hk
    have hs := srcD_lt (d := d) ht (show k ≤ d.f1.length by omega)
    rw [rowD_len]
    exact h.rowk (by omega) (by omega)
  · obtain ⟨k, hk, rfl⟩ := List.mem_map.1 (show r ∈ (List.range (d.f1.length + 1)).map (rowD d t) from hr)
    have hk := List.mem_range.1 hk
    obtain ⟨c, hc, rfl⟩ := List.mem_map.1 (show x ∈ (List.range _).map (entD d t k) from hx)
    have hc := List.mem_range.1 hc
    have := (entD_pi h ht (show k ≤ d.f1.length by omega) hc).2
    rw [DX_len]; omega
  · rcases List.mem_append.1 (show m ∈ d.f2 ++ [lget d.f2 (t : Int)] from hm2) with e | e
    · exact h.mark m e
    · have : m = lget d.f2 (t : Int) := by simpa using e
      rw [this]
      exact h.mark _ (mem_lget (by omega) (by omega))
theorem DX_stp (h : Dr d) (hn : d.f1.length ≤ 900) (ht : t < d.f1.length) {k b : Nat} (hk : k ≤ d.f1.length) (hb : b < 256) : piD d t (stp (DX d t) (k : Int) (b : Int)) = stp d (srcD d t k : Int) (b : Int) := by
  have hs := srcD_lt (d := d) ht hk
  obtain ⟨k1, k2, k3⟩ := stp_in (DX_Dr h hn ht) (q := (k : Int)) (c := (b : Int)) (by omega) (by rw [DX_len]; omega) (by omega) (by omega)
  obtain ⟨m1, m2, m3⟩ := stp_in h (q := (srcD d t k : Int)) (c := (b : Int)) (by omega) (by omega) (by omega) (by omega)
  obtain ⟨c1, c2⟩ := cls_eq h hb
  rw [k3, m3, DX_row hk]
  show piD d t (lget (rowD d t k) (vget d.f0 (b : Int))) = _
  rw [c1] at m2 ⊢
  have hc : cls d b < (lget d.f1 (srcD d t k : Int)).length := by
    have : (cls d b : Int) < ((lget d.f1 (srcD d t k : Int)).length : Int) := m2
    omega
  unfold rowD
  rw [lget_range hc]
  exact (entD_pi h ht hk hc).1
theorem DX_mk (h : Dr d) (hn : d.f1.length ≤ 900) (ht : t < d.f1.length) {k : Nat} (hk : k ≤ d.f1.length) : mk (DX d t) (k : Int) = mk d (srcD d t k : Int) := by
  have hs := srcD_lt (d := d) ht hk
  have hm := h.ml
  rw [mk_in (DX_Dr h hn ht) (by omega) (by rw [DX_len]; omega), mk_in h (by omega) (by omega)]
  show lget (d.f2 ++ [lget d.f2 (t : Int)]) (k : Int) = _
  unfold srcD
  by_cases e : k = d.f1.length
  · rw [if_pos e, e, ← hm, lget_lt _ _ (by simp), List.getElem_append_right (by omega)]; simp
  · rw [if_neg e]
    exact lget_pre (by omega)
theorem DX_LL (h : Dr d) (hn : d.f1.length ≤ 900) (ht : t < d.f1.length) : ∀ (w : List Nat) (q : Int), Byt w → -1 ≤ q ∧ q ≤ (d.f1.length : Int) → LL (DX d t) q w = LL d (piD d t q) w
  | [], q, _, hq => by
    by_cases a : q = -1
    · rw [a]
      unfold piD
      rw [if_neg (by omega), LL_neg, LL_neg]
    · obtain ⟨k, rfl⟩ := Int.eq_ofNat_of_zero_le (show 0 ≤ q by omega)
      have := DX_mk h hn ht (k := k) (by omega)
      show mk (DX d t) (k : Int) = mk d (piD d t (k : Int))
      rw [this]
      unfold piD srcD
      by_cases e : k = d.f1.length
      · rw [if_pos e, if_pos (by omega)]
      · rw [if_neg e, if_neg (by omega)]
  | b :: w, q, hw, hq => by
    have hb := hw.hd
    by_cases a : q = -1
    · rw [a]
      unfold piD
      rw [if_neg (by omega), LL_neg, LL_neg]
    · obtain ⟨k, rfl⟩ := Int.eq_ofNat_of_zero_le (show 0 ≤ q by omega)
      have e := DX_stp h hn ht (k := k) (b := b) (by omega) hb
      have hr := stp_rng (DX_Dr h hn ht) (q := (k : Int)) (c := (b : Int)) (by rw [DX_len]; omega) (by omega) (by omega)
      rw [DX_len] at hr
      have ih := DX_LL h hn ht w (stp (DX d t) (k : Int) (b : Int)) hw.tl (by omega)
      show LL (DX d t) (stp (DX d t) (k : Int) (b : Int)) w = LL d (stp d (piD d t (k : Int)) (b : Int)) w
      rw [ih, e]
      congr 2
      unfold piD srcD
      by_cases e : k = d.f1.length
      · rw [if_pos e, if_pos (by omega)]
      · rw [if_neg e, if_neg (by omega)]
theorem DX_SL (h : Dr d) (hn : d.f1.length ≤ 900) (ht : t < d.f1.length) : SL d (DX d t) := by
  intro w hw
  rw [DX_LL h hn ht w 0 hw (by omega)]
  unfold piD
  have h1 := h.n1
  rw [if_neg (by omega)]
/-! A machine is like itself. -/
theorem rself_l2 {x : S30} (rec11 : Int → Option Bool) (i : Nat) (hi : i < x.f1.length) (hn : x.f1.length ≤ 1000) : ∀ (m c fuel : Nat), c + m = (lget x.f1 (i : Int)).length → m < fuel → (lget x.f1 (i : Int)).length ≤ 1000 →
    bosketref08_Same_l2 5000 rec11 x x (i : Int) fuel (c : Int) = rec11 ((i + 1 : Nat) : Int)
  | 0, c, fu + 1, hc, _, hl => by
    rw [bosketref08_Same_l2.eq_2, if_pos ⟨by omega, by omega⟩, if_neg (by omega)]
    unfold bosketref08_Same_c1
    rw [w6 (by omega) (by omega)]; rfl
  | m + 1, c, fu + 1, hc, hf, hl => by
    have ih := rself_l2 (x := x) rec11 i hi hn m (c + 1) fu (by omega) (by omega) hl
    rw [bosketref08_Same_l2.eq_2, if_pos ⟨by omega, by omega⟩, if_pos (by omega), if_pos ⟨by omega, by omega⟩, if_pos ⟨by omega, by omega⟩, if_pos ⟨by omega, by omega⟩, if_pos ⟨by omega, by omega⟩, if_neg (by simp), w6 (by omega) (by omega)]
    exact_mod_cast ih
theorem rself_l3 {x : S30} (hn : x.f1.length ≤ 1000) (hl : ∀ r ∈ x.f1, r.length ≤ 1000) : ∀ (m i fuel : Nat), i + m = x.f1.length → m < fuel → bosketref08_Same_l3 5000 x x fuel (i : Int) = some true
  | 0, i, fu + 1, hi, _ => by rw [bosketref08_Same_l3.eq_2, if_neg (by omega)]; rfl
  | m + 1, i, fu + 1, hi, hf => by
    have ih := rself_l3 hn hl m (i + 1) fu (by omega) (by omega)
    have hr := hl _ (mem_lget (l := x.f1) (i := (i : Int)) (by omega) (by omega))
    have := rself_l2 (x := x) (bosketref08_Same_l3 5000 x x fu) i (by omega) hn (lget x.f1 (i : Int)).length 0 5000 (by omega) (by omega) hr
    rw [bosketref08_Same_l3.eq_2, if_pos (by omega), if_pos ⟨by omega, by omega⟩, if_pos ⟨by omega, by omega⟩, if_neg (by simp)]
    rw [ih] at this
    exact this
theorem rself_l5 {x : S30} (hn : x.f1.length ≤ 1000) (hm : x.f2.length ≤ 1000) (hl : ∀ r ∈ x.f1, r.length ≤ 1000) : ∀ (m i fuel : Nat), i + m = x.f2.length → m < fuel → bosketref08_Same_l5 5000 x x fuel (i : Int) = some true
  | 0, i, fu + 1, hi, _ => by
    rw [bosketref08_Same_l5.eq_2, if_neg (by omega)]
    exact rself_l3 hn hl x.f1.length 0 5000 (by omega) (by omega)
  | m + 1, i, fu + 1, hi, hf => by
    have ih := rself_l5 hn hm hl m (i + 1) fu (by omega) (by omega)
    rw [bosketref08_Same_l5.eq_2, if_pos (by omega), if_pos ⟨by omega, by omega⟩, if_pos ⟨by omega, by omega⟩, if_neg (by simp), w6 (by omega) (by omega)]
    exact_mod_cast ih
theorem rself {x : S30} (h : Dr x) : bosketref08_Same 5000 x x = some true := by
  have hn := h.n2
  have hm := h.ml
  unfold bosketref08_Same
  rw [if_neg (by simp), if_neg (by simp), Option.bind_some, decide_eq_false (by simp), if_neg (by decide)]
  exact rself_l5 hn (by omega) (fun r hr => by have := h.row256 r hr; omega) x.f2.length 0 5000 (by omega) (by omega)
end Go.Avl.T5
/- MiniOne: the plain law. -/
namespace Go.Avl.T5
open Go Go.RowKit Go.Proofs Go.Avl
set_option linter.all false
set_option maxRecDepth 10000

theorem awake09 : bosketlaw09_awake 5000 = some true := by decide +kernel
theorem one_l4 {d : S30} {t : Nat} (rec40 : List (List Int) → Int → Option Bool) (a1 : Int) (hn : d.f1.length ≤ 900) (ht : t < d.f1.length) (ha : (w64 a1).tmod (d.f1.length : Int) = (t : Int)) (X : List (List Int)) (hX : X.length ≤ 1000) (k : Nat) (hk : k ≤ d.f1.length) (hl : (lget d.f1 (srcD d t k : Int)).length ≤ 256) : ∀ (m c fuel : Nat) (a : List Int), c + m = (lget d.f1 (srcD d t k : Int)).length → m < fuel → a.length ≤ c →
    bosketlaw09_MiniOne_l4 5000 rec40 d a1 X (k : Int) (srcD d t k : Int) fuel a (c : Int) = rec40 (X ++ [a ++ ((List.range (lget d.f1 (srcD d t k : Int)).length).drop c).map (entD d t k)]) ((k + 1 : Nat) : Int)
  | 0, c, fu + 1, a, hc, _, hz => by
    have hs := srcD_lt (d := d) ht hk
    rw [bosketlaw09_MiniOne_l4.eq_2, if_pos ⟨by omega, by omega⟩, if_neg (by omega), List.drop_of_length_le (by simp; omega), List.map_nil, List.append_nil]
    unfold bosketlaw09_MiniOne_c2 bosketlaw09_MiniOne_c1
    rw [if_pos (by simp; omega), w6 (by omega) (by omega)]; rfl
  | m + 1, c, fu + 1, a, hc, hf, hz => by
    have hs := srcD_lt (d := d) ht hk
    have ih := one_l4 (d := d) rec40 a1 hn ht ha X hX k hk hl m (c + 1) fu (a ++ [entD d t k c]) (by omega) (by omega) (by simp; omega)
    have hdr : (List.range (lget d.f1 (srcD d t k : Int)).length).drop c = c :: (List.range (lget d.f1 (srcD d t k : Int)).length).drop (c + 1) := by
      rw [List.drop_eq_getElem_cons (by simp; omega)]; simp
    rw [hdr, List.map_cons]
    rw [List.append_assoc] at ih
    have hstep : ∀ v : Int, v = entD d t k c → bosketlaw09_MiniOne_c3 5000 (bosketlaw09_MiniOne_l4 5000 rec40 d a1 X (k : Int) (srcD d t k : Int) fu) a (c : Int) v = rec40 (X ++ [a ++ (entD d t k c :: ((List.range (lget d.f1 (srcD d t k : Int)).length).drop (c + 1)).map (entD d t k))]) ((k + 1 : Nat) : Int) := by
      intro v hv
      unfold bosketlaw09_MiniOne_c3
      rw [if_pos (by simp; omega), w6 (by omega) (by omega), hv]
      exact_mod_cast ih
    rw [bosketlaw09_MiniOne_l4.eq_2, if_pos ⟨by omega, by omega⟩, if_pos (by omega), if_pos ⟨by omega, by omega⟩, if_pos ⟨by omega, by omega⟩, ha, w6 (x := (k : Int) + (c : Int)) (by omega) (by omega)]
    have hmod : ((k : Int) + (c : Int)).tmod 2 = (((k + c) % 2 : Nat) : Int) := by
      rw [show (k : Int) + (c : Int) = ((k + c : Nat) : Int) by omega]; rfl
    rw [hmod]
    by_cases q : lget (lget d.f1 (srcD d t k : Int)) (c : Int) = (t : Int)
    · rw [if_pos q, Option.bind_some]
      by_cases r : (k + c) % 2 = 0
      · rw [decide_eq_true (by omega), if_pos rfl]
        exact hstep _ (by unfold entD; rw [if_pos ⟨q, r⟩])
      · rw [decide_eq_false (by omega), if_neg (by decide)]
        exact hstep _ (by unfold entD; rw [if_neg fun k => r k.2])
    · rw [if_neg q, Option.bind_some, if_neg (by decide)]
      exact hstep _ (by unfold entD; rw [if_neg fun k => q k.1])
theorem one_l6 {d : S30} {t : Nat} (a1 : Int) (hn : d.f1.length ≤ 900) (ht : t < d.f1.length) (ha : (w64 a1).tmod (d.f1.length : Int) = (t : Int)) (hl : ∀ r ∈ d.f1, r.length ≤ 256) : ∀ (m k fuel : Nat) (X : List (List Int)), k + m = d.f1.length + 1 → m < fuel → X.length ≤ k →
    bosketlaw09_MiniOne_l6 5000 d a1 fuel X (k : Int) = bosketlaw09_MiniOne_c0 5000 d a1 (X ++ ((List.range (d.f1.length + 1)).drop k).map (rowD d t))
  | 0, k, fu + 1, X, hk, _, _ => by
    rw [bosketlaw09_MiniOne_l6.eq_2, if_neg (by omega), List.drop_of_length_le (by simp; omega), List.map_nil, List.append_nil]
  | m + 1, k, fu + 1, X, hk, hf, hX => by
    have hs := srcD_lt (d := d) ht (show k ≤ d.f1.length by omega)
    have ih := one_l6 (d := d) a1 hn ht ha hl m (k + 1) fu (X ++ [rowD d t k]) (by omega) (by omega) (by simp; omega)
    have hr := hl _ (mem_lget (l := d.f1) (i := (srcD d t k : Int)) (by omega) (by omega))
    have inner := one_l4 (d := d) (bosketlaw09_MiniOne_l6 5000 d a1 fu) a1 hn ht ha X (by omega) k (by omega) hr (lget d.f1 (srcD d t k : Int)).length 0 5000 [] (by omega) (by omega) (by simp)
    have hdr : (List.range (d.f1.length + 1)).drop k = k :: (List.range (d.f1.length + 1)).drop (k + 1) := by
      rw [List.drop_eq_getElem_cons (by simp; omega)]; simp
    rw [List.drop_zero, List.nil_append] at inner
    have inner : bosketlaw09_MiniOne_l4 5000 (bosketlaw09_MiniOne_l6 5000 d a1 fu) d a1 X (k : Int) (srcD d t k : Int) 5000 [] (0 : Int) = _ := inner
    rw [show (List.range (lget d.f1 (srcD d t k : Int)).length).map (entD d t k) = rowD d t k from rfl, ih, List.append_assoc] at inner
    rw [bosketlaw09_MiniOne_l6.eq_2, if_pos (by omega), hdr, List.map_cons]
    by_cases e : k = d.f1.length
    · rw [if_pos (by omega), ha]
      unfold bosketlaw09_MiniOne_c5
      have hsrc : srcD d t k = t := by unfold srcD; rw [if_pos e]
      rw [hsrc] at inner
      exact inner
    · rw [if_neg (by omega)]
      unfold bosketlaw09_MiniOne_c5
      have hsrc : srcD d t k = k := by unfold srcD; rw [if_neg e]
      rw [hsrc] at inner
      exact inner
theorem bosketlaw09_MiniOne_true (a0 : S30) (a1 : Int) (h0 : wf30 a0) (h1 : wf5 a1) : ∃ k, bosketlaw09_MiniOne k a0 a1 = some true := by
  refine ⟨5000, ?_⟩
  obtain ⟨b, b1, b2⟩ := small_some a0 (Nat.le_refl 5000)
  unfold bosketlaw09_MiniOne
  rw [awake09, Option.bind_some, if_neg (by decide), b1, Option.bind_some]
  cases b with
  | false => rfl
  | true =>
    obtain ⟨s1, s2, s3⟩ := b2 rfl
    have hv : VB a0.f0 := bytes_of h0
    have hr := rdright_eq hv s3 (by omega)
    rw [if_neg (by decide), hr, Option.bind_some, Option.bind_some]
    cases hb : rgB a0 with
    | false => rfl
    | true =>
      have h : Dr a0 := (rgB_iff hv (by omega)).1 hb
      have hn := h.n1
      have hm := h.ml
      have hu := u8_of h1
      have ew : w64 a1 = a1 := w6 (by omega) (by omega)
      obtain ⟨q, rfl⟩ := Int.eq_ofNat_of_zero_le hu.1
      have ht : q % a0.f1.length < a0.f1.length := Nat.mod_lt _ (by omega)
      have ha : (w64 (q : Int)).tmod (a0.f1.length : Int) = ((q % a0.f1.length : Nat) : Int) := by rw [ew]; rfl
      rw [if_neg (by decide), if_pos (by omega), if_pos (by simp; omega), ha, if_pos ⟨by omega, by omega⟩, if_pos (by simp; omega)]
      have := one_l6 (d := a0) (t := q % a0.f1.length) (q : Int) (by omega) ht ha s3 (a0.f1.length + 1) 0 5000 [] (by omega) (by omega) (by simp)
      rw [List.drop_zero, List.nil_append] at this
      have this : bosketlaw09_MiniOne_l6 5000 a0 (q : Int) 5000 [] (0 : Int) = _ := this
      rw [this]
      unfold bosketlaw09_MiniOne_c0
      rw [ha]
      have hrr : ∀ e, Dr e → dfa_Right 5000 e = some true := fun e he => he.right
      obtain ⟨x, mo, ex⟩ := of_MO h h.right hrr
      have eDX : S30.mk a0.f0 ((List.range (a0.f1.length + 1)).map (rowD a0 (q % a0.f1.length))) (([] ++ a0.f2) ++ [lget a0.f2 ((q % a0.f1.length : Nat) : Int)]) = DX a0 (q % a0.f1.length) := by
        rw [List.nil_append]; rfl
      rw [eDX, ex, Option.bind_some]
      have e2 := of_same (DX_Dr h (by omega) ht) h hrr (DX_SL h (by omega) ht).symm
      have e3 := of_same mo.dr h hrr mo.sl
      rw [e2, ex, Option.bind_some, e3, ex, Option.bind_some, if_pos rfl, if_pos rfl, if_pos rfl, rself mo.dr]
      rfl
end Go.Avl.T5
