/- Parts: T5K5, T5K6, T5K7, T5K8, T5K9, T5K10, T5K11, T5K12, T5K13, T5K14, T5K15, T5K16, T5K17, T5K18, T5K19, T5L1, T5L2, T5L3, T5PureMiniBlocks. -/
import Derived.Test.YtoaomnfenofglaaAM1
import Derived.Test.YtoaomnfenofglaaAF3
import Derived.Test.YtoaomnfenofglaaAF2
import Derived.Test.YtoaomnfenofglaaAF4
import Derived.Test.YtoaomnfenofglaaAF1
/- mini: classes of bytes that lead alike. -/
namespace Go.Avl.T5
open Go Go.RowKit Go.Proofs Go.Avl
set_option linter.all false
set_option maxRecDepth 10000

def cls (d : S30) (b : Nat) : Nat := (vget d.f0 (b : Int)).toNat
def CL2 (d : S30) (c : Nat) : List Nat := d.f1.map fun r => (lget r (c : Int) + 1).toNat
def kcol (d : S30) (b : Nat) : ByteArray := strOfNums (enc2 (CL2 d (cls d b)))
theorem cls_eq {d : S30} (h : Dr d) {b : Nat} (hb : b < 256) : vget d.f0 (b : Int) = (cls d b : Int) ∧ cls d b < KC d := by
  have h1 := h.vb (b : Int)
  have h2 := kc_lt (v := d.f0) 256 b hb
  have e : kcl d.f0 = kc d.f0 256 := rfl
  have hk := KC_eq h
  unfold cls
  exact ⟨by omega, by omega⟩
theorem col_l {d : S30} (h : Dr d) {c : Nat} (hc : c < KC d) : ∀ (m i fuel : Nat) (l : List Nat), i + m = d.f1.length → m < fuel → l.length ≤ i → mini_column_l1 5000 d (c : Int) fuel (strOfNums (enc2 l)) (i : Int) = some (strOfNums (enc2 (l ++ (d.f1.drop i).map fun r => (lget r (c : Int) + 1).toNat)))
  | 0, i, fu + 1, l, hi, _, _ => by
    rw [mini_column_l1.eq_2, if_neg (by omega), List.drop_of_length_le (by omega), List.map_nil, List.append_nil]; rfl
  | m + 1, i, fu + 1, l, hi, hf, hl => by
    have hi' : i < d.f1.length := by omega
    have hn := h.n2
    have hk := KC_eq h
    have hr : d.f1[i] ∈ d.f1 := List.getElem_mem hi'
    have hrl := h.row _ hr
    have ent := h.ent _ hr _ (mem_lget (l := d.f1[i]) (i := (c : Int)) (by omega) (by omega))
    have hv : (lget d.f1[i] (c : Int) + 1).toNat < 65536 := by omega
    have e : w64 (lget d.f1[i] (c : Int) + 1) = (((lget d.f1[i] (c : Int) + 1).toNat : Nat) : Int) := by rw [w6 (by omega) (by omega)]; omega
    have ih := col_l h hc m (i + 1) fu (l ++ [(lget d.f1[i] (c : Int) + 1).toNat]) (by omega) (by omega) (by simp; omega)
    have e2 : enc2 l ++ wd2 (lget d.f1[i] (c : Int) + 1).toNat = enc2 (l ++ [(lget d.f1[i] (c : Int) + 1).toNat]) := by rw [enc2_app]; rfl
    have eg : lget d.f1 (i : Int) = d.f1[i] := lget_lt _ i hi'
    rw [mini_column_l1.eq_2, if_pos (by omega), if_pos ⟨by omega, by omega⟩, eg, if_pos ⟨by omega, by omega⟩, e, word_eq hv, Option.bind_some, if_pos (by rw [strOf_size, strOf_size, enc2_len]; simp [wd2]; omega), w6 (by omega) (by omega), ← strOf_app, e2, List.drop_eq_getElem_cons hi', List.map_cons]
    rw [List.append_assoc] at ih
    exact_mod_cast ih
theorem col_eq {d : S30} (h : Dr d) {b : Nat} (hb : b < 256) : mini_column 5000 d (cls d b : Int) = some (kcol d b) := by
  have := col_l h (cls_eq h hb).2 d.f1.length 0 5000 [] (by omega) (by have := h.n2; omega) (by simp)
  rw [Int.natCast_zero, List.drop_zero, List.nil_append] at this
  exact this
end Go.Avl.T5
/- mini: classes of bytes that lead alike: the walk. -/
namespace Go.Avl.T5
open Go Go.RowKit Go.Proofs Go.Avl
set_option linter.all false
set_option maxRecDepth 10000

structure CI (d : S30) (b : Nat) (v : Vector Int 256) (mp : List (ByteArray × Int)) (kept of : List Int) (done : List Bool) : Prop where
  mp : MapOK (kcol d) b mp
  kl : kept.length = nc (kcol d) b
  ol : of.length = KC d
  dl : done.length = KC d
  dn : ∀ x : Nat, x < KC d → (lget done (x : Int) = true ↔ ∃ c, c < b ∧ cls d c = x)
  of : ∀ c, c < b → lget of (cls d c : Int) = (ck (kcol d) c : Int)
  v : ∀ c, c < b → vget v (c : Int) = (ck (kcol d) c : Int)
theorem kcol_cls {d : S30} {b c : Nat} (h : cls d b = cls d c) : kcol d b = kcol d c := by unfold kcol; rw [h]
theorem KC_le {d : S30} (h : Dr d) : KC d ≤ 256 := by
  have := kc_rng h.vb 256
  have e : kcl d.f0 = kc d.f0 256 := rfl
  unfold KC; omega
theorem cl_l8 {d : S30} (h : Dr d) : ∀ (m b fuel : Nat) (v : Vector Int 256) (mp : List (ByteArray × Int)) (kept of : List Int) (done : List Bool), b + m = 256 → m < fuel → CI d b v mp kept of done →
    ∃ v', mini_classes_l8 5000 d fuel v mp kept of done (b : Int) = mini_classes_c5 5000 d v' (kept ++ (rps (kcol d) m b).map fun r => (cls d r : Int)) ∧ ∀ c : Nat, c < 256 → vget v' (c : Int) = (ck (kcol d) c : Int)
  | 0, b, fu + 1, v, mp, kept, of, done, hb, _, hi => by
    refine ⟨v, ?_, fun c hc => hi.v c (by omega)⟩
    rw [mini_classes_l8.eq_2, if_neg (by omega), rps, List.map_nil, List.append_nil]
  | m + 1, b, fu + 1, v, mp, kept, of, done, hb, hf, hi => by
    have hb' : b < 256 := by omega
    have hn := h.n2
    have hK := KC_le h
    obtain ⟨e1, e2⟩ := cls_eq h hb'
    have hck := ck_le (kcol d) b
    have hnl := nc_le (kcol d) b
    have ew : w64 (vget d.f0 (b : Int)) = (cls d b : Int) := by rw [e1, w6 (by omega) (by omega)]
    have g1 : 0 ≤ (b : Int) ∧ (b : Int) < 256 := ⟨by omega, by omega⟩
    have hol := hi.ol
    have hdl := hi.dl
    -- behind the class's number
    have fin : ∀ (mp' : List (ByteArray × Int)) (kept' of' : List Int) (done' : List Bool), MapOK (kcol d) (b + 1) mp' → kept' = kept ++ (if rc (kcol d) b = b then [(cls d b : Int)] else []) → of'.length = KC d → done'.length = KC d → (∀ x : Nat, x < KC d → (lget done' (x : Int) = true ↔ ∃ c, c < b + 1 ∧ cls d c = x)) → (∀ c, c < b + 1 → lget of' (cls d c : Int) = (ck (kcol d) c : Int)) →
        ∃ v', mini_classes_c6 5000 (mini_classes_l8 5000 d fu) d v (b : Int) mp' kept' of' done' = mini_classes_c5 5000 d v' (kept ++ (rps (kcol d) (m + 1) b).map fun r => (cls d r : Int)) ∧ ∀ c : Nat, c < 256 → vget v' (c : Int) = (ck (kcol d) c : Int) := by
      intro mp' kept' of' done' k1 k2 k3 k4 k5 k6
      unfold mini_classes_c6
      rw [ew, if_pos ⟨by omega, by omega⟩, if_pos g1, k6 b (by omega), w8_id (by omega) (by omega), w6 (by omega) (by omega)]
      have := cl_l8 h m (b + 1) fu (vset v (b : Int) (ck (kcol d) b : Int)) mp' kept' of' done' (by omega) (by omega) ⟨k1, by rw [k2, List.length_append, hi.kl, nc]; split <;> rfl, k3, k4, k5, k6, fun c hc => by
        rw [vget_vset256 _ _ _ _ hb' (by omega)]
        by_cases q : c = b
        · subst q; rw [if_pos rfl]
        · rw [if_neg q]; exact hi.v c (by omega)⟩
      obtain ⟨v', t1, t2⟩ := this
      refine ⟨v', ?_, t2⟩
      have ek : kept' ++ (rps (kcol d) m (b + 1)).map (fun r => (cls d r : Int)) = kept ++ (rps (kcol d) (m + 1) b).map fun r => (cls d r : Int) := by
        rw [k2, rps]
        by_cases q : rc (kcol d) b = b
        · rw [if_pos q, if_pos q, List.append_assoc]; rfl
        · rw [if_neg q, if_neg q, List.append_nil]
      rw [← ek]
      exact_mod_cast t1
    rw [mini_classes_l8.eq_2, if_pos g1.2, if_pos g1, ew, if_pos ⟨by omega, by omega⟩]
    by_cases dn : ∃ c, c < b ∧ cls d c = cls d b
    · have hd := (hi.dn _ e2).2 dn
      obtain ⟨c0, c1, c2⟩ := dn
      have hne : rc (kcol d) b ≠ b := by
        intro q
        exact (rc_spec (kcol d) b).2.2 c0 (by rw [q]; exact c1) (kcol_cls c2)
      obtain ⟨_, k2⟩ := mapok_old hi.mp hne
      rw [hd, if_neg (by decide)]
      refine fin mp kept of done k2 (by rw [if_neg hne, List.append_nil]) hol hdl (fun x hx => ?_) (fun c hc => ?_)
      · rw [hi.dn x hx]
        constructor
        · rintro ⟨c, k, r⟩; exact ⟨c, by omega, r⟩
        · rintro ⟨c, k, r⟩
          by_cases q : c = b
          · subst q; exact ⟨c0, c1, by rw [c2, r]⟩
          · exact ⟨c, by omega, r⟩
      · by_cases q : c = b
        · subst q; rw [← c2, hi.of c0 c1]; exact congrArg _ (ck_same _ (kcol_cls c2))
        · exact hi.of c (by omega)
    · have hd : lget done (cls d b : Int) = false := by
        cases k : lget done (cls d b : Int) with
        | false => rfl
        | true => exact absurd ((hi.dn _ e2).1 k) dn
      have fin7 : ∀ (mp' : List (ByteArray × Int)) (kept' : List Int), MapOK (kcol d) (b + 1) mp' → kept' = kept ++ (if rc (kcol d) b = b then [(cls d b : Int)] else []) →
          ∃ v', mini_classes_c7 5000 (mini_classes_l8 5000 d fu) d v of done (b : Int) mp' kept' (ck (kcol d) b : Int) = mini_classes_c5 5000 d v' (kept ++ (rps (kcol d) (m + 1) b).map fun r => (cls d r : Int)) ∧ ∀ c : Nat, c < 256 → vget v' (c : Int) = (ck (kcol d) c : Int) := by
        intro mp' kept' k1 k2
        unfold mini_classes_c7
        rw [ew, if_pos ⟨by omega, by omega⟩, if_pos ⟨by omega, by omega⟩]
        refine fin mp' kept' _ _ k1 k2 (by rw [lset_len, hol]) (by rw [lset_len, hdl]) (fun x hx => ?_) (fun c hc => ?_)
        · rw [lget_lsetB _ _ _ _ (by omega) (by omega) (by omega)]
          by_cases q : (x : Int) = (cls d b : Int)
          · rw [if_pos q]
            exact ⟨fun _ => ⟨b, by omega, by omega⟩, fun _ => rfl⟩
          · rw [if_neg q, hi.dn x hx]
            constructor
            · rintro ⟨c, k, r⟩; exact ⟨c, by omega, r⟩
            · rintro ⟨c, k, r⟩
              by_cases q2 : c = b
              · subst q2; exact absurd (by omega) q
              · exact ⟨c, by omega, r⟩
        · rw [ilget_lset _ _ _ _ (by omega) (by omega) (by omega)]
          by_cases q : (cls d c : Int) = (cls d b : Int)
          · rw [if_pos q]; exact congrArg _ (ck_same _ (kcol_cls (by omega)))
          · rw [if_neg q]
            exact hi.of c (by
              have : c ≠ b := fun e => q (by rw [e])
              omega)
      rw [hd, if_pos (by decide), col_eq h hb', Option.bind_some]
      by_cases q : rc (kcol d) b = b
      · obtain ⟨k1, k2, k3⟩ := mapok_new hi.mp q
        have hc : ck (kcol d) b = nc (kcol d) b := by unfold ck; rw [q]
        have e4 : (kept.length : Int) = (ck (kcol d) b : Int) := by rw [hi.kl, hc]
        rw [k1, if_pos (by rfl), if_pos (by have := hi.kl; simp; omega), e4]
        exact fin7 _ _ k3 (by rw [if_pos q])
      · obtain ⟨k1, k2⟩ := mapok_old hi.mp q
        rw [k1, if_neg (by simp)]
        exact fin7 _ _ k2 (by rw [if_neg q, List.append_nil])
end Go.Avl.T5
/- mini: classes of bytes that lead alike: what comes out. -/
namespace Go.Avl.T5
open Go Go.RowKit Go.Proofs Go.Avl
set_option linter.all false
set_option maxRecDepth 10000

def KB (d : S30) : List Int := (rps (kcol d) 256 0).map fun r : Nat => (cls d r : Int)
theorem KB_mem {d : S30} (h : Dr d) {c : Int} (hc : c ∈ KB d) : 0 ≤ c ∧ c < kcl d.f0 := by
  obtain ⟨r, hr, rfl⟩ := List.mem_map.1 hc
  have := rps_mem (kcol d) 256 0 r hr
  have := (cls_eq h (b := r) (by omega)).2
  have := KC_eq h
  omega
theorem KB_len (d : S30) : (KB d).length ≤ 256 := by
  unfold KB
  rw [List.length_map]
  have := rps_len (kcol d) 256 0
  have := nc_le (kcol d) (0 + 256)
  omega
theorem cl_l3 {d : S30} (h : Dr d) (rec19 : List (List Int) → Int → Option S30) (R : List (List Int)) (i : Nat) (hi : i < d.f1.length) (hR : R.length ≤ 10000) : ∀ (m j fuel : Nat) (a : List Int), j + m = (KB d).length → m < fuel → a.length ≤ j →
    mini_classes_l3 5000 rec19 d (KB d) R (i : Int) fuel a (j : Int) = rec19 (R ++ [a ++ ((KB d).drop j).map fun c => lget (lget d.f1 (i : Int)) c]) ((i + 1 : Nat) : Int)
  | 0, j, fu + 1, a, hj, _, _ => by
    have hn := h.n2
    rw [mini_classes_l3.eq_2, if_neg (by omega), List.drop_of_length_le (by omega), List.map_nil, List.append_nil]
    unfold mini_classes_c2 mini_classes_c1
    rw [if_pos (by simp; omega), w6 (by omega) (by omega)]; rfl
  | m + 1, j, fu + 1, a, hj, hf, ha => by
    have hn := h.n2
    have hl := KB_len d
    have hj' : j < (KB d).length := by omega
    have hc := KB_mem h (List.getElem_mem hj')
    have hr := h.row _ (mem_lget (l := d.f1) (i := (i : Int)) (by omega) (by omega))
    have ih := cl_l3 h rec19 R i hi hR m (j + 1) fu (a ++ [lget (lget d.f1 (i : Int)) (KB d)[j]]) (by omega) (by omega) (by simp; omega)
    rw [List.append_assoc] at ih
    rw [mini_classes_l3.eq_2, if_pos (by omega), if_pos ⟨by omega, by omega⟩, iget_lt _ j hj', if_pos ⟨hc.1, by omega⟩, if_pos (by simp; omega), w6 (by omega) (by omega), List.drop_eq_getElem_cons hj', List.map_cons]
    exact_mod_cast ih
theorem cl_l4 {d : S30} (h : Dr d) (v : Vector Int 256) : ∀ (m i fuel : Nat) (R : List (List Int)), i + m = d.f1.length → m < fuel → R.length ≤ i →
    mini_classes_l4 5000 d v (KB d) fuel R (i : Int) = some (S30.mk v (R ++ (d.f1.drop i).map fun r => (KB d).map fun c => lget r c) d.f2)
  | 0, i, fu + 1, R, hi, _, _ => by
    rw [mini_classes_l4.eq_2, if_neg (by omega), List.drop_of_length_le (by omega), List.map_nil, List.append_nil]; rfl
  | m + 1, i, fu + 1, R, hi, hf, hR => by
    have hn := h.n2
    have hi' : i < d.f1.length := by omega
    have l3 := cl_l3 h (mini_classes_l4 5000 d v (KB d) fu) R i hi' (by omega) (KB d).length 0 5000 [] (by omega) (by have := KB_len d; omega) (by simp)
    rw [Int.natCast_zero, List.drop_zero, List.nil_append] at l3
    have ih := cl_l4 h v m (i + 1) fu (R ++ [(KB d).map fun c => lget (lget d.f1 (i : Int)) c]) (by omega) (by omega) (by simp; omega)
    rw [List.append_assoc] at ih
    have eg : lget d.f1 (i : Int) = d.f1[i] := lget_lt _ i hi'
    rw [mini_classes_l4.eq_2, if_pos (by omega), if_pos ⟨by omega, by omega⟩, l3, ih, List.drop_eq_getElem_cons hi', List.map_cons, eg]; rfl
/-- The machine with the classes that lead alike made one. -/
theorem mclasses_eq {d : S30} (h : Dr d) : ∃ v : Vector Int 256, (∀ c : Nat, c < 256 → vget v (c : Int) = (ck (kcol d) c : Int)) ∧ mini_classes 5000 d = some (S30.mk v (d.f1.map fun r => (KB d).map fun c => lget r c) d.f2) := by
  have hn := h.n2
  have hK := KC_le h
  have hk := KC_eq h
  obtain ⟨v, v1, v2⟩ := cl_l8 h 256 0 5000 (Vector.replicate 256 0) [] [] (List.replicate (KC d) 0) (List.replicate (KC d) false) (by omega) (by omega)
    ⟨⟨rfl, fun c hc => by omega, fun s _ => rfl⟩, rfl, by simp, by simp, fun x hx => by
      rw [lget_repB]
      constructor
      · intro e; cases e
      · rintro ⟨c, hc, _⟩; omega, fun c hc => by omega, fun c hc => by omega⟩
  rw [Int.natCast_zero, List.nil_append] at v1
  refine ⟨v, v2, ?_⟩
  unfold mini_classes
  rw [count_eq h.vb, Option.bind_some, hk, if_pos ⟨by omega, by omega, by omega⟩, Int.toNat_natCast, List.length_replicate, if_pos ⟨by omega, by omega, by omega⟩, Int.toNat_natCast, v1]
  unfold mini_classes_c5
  have := cl_l4 h v d.f1.length 0 5000 [] (by omega) (by omega) (by simp)
  rw [Int.natCast_zero, List.drop_zero, List.nil_append] at this
  exact this
end Go.Avl.T5
/- The words of a machine, as lists of bytes. -/
namespace Go.Avl.T5
open Go Go.RowKit Go.Proofs Go.Avl
set_option linter.all false
set_option maxRecDepth 10000

def go (d : S30) : Int → List Nat → Int
  | q, [] => q
  | q, b :: w => go d (stp d q (b : Int)) w
def LL (d : S30) (q : Int) (w : List Nat) : Int := mk d (go d q w)
def Byt (w : List Nat) : Prop := ∀ b ∈ w, b < 256
theorem go_app (d : S30) : ∀ (w u : List Nat) (q : Int), go d q (w ++ u) = go d (go d q w) u
  | [], _, _ => rfl
  | b :: w, u, q => go_app d w u _
theorem go_snoc (d : S30) (w : List Nat) (b : Nat) (q : Int) : go d q (w ++ [b]) = stp d (go d q w) (b : Int) := go_app d w [b] q
def ofL (w : List Nat) : ByteArray := strOfNums (w.map Int.ofNat)
theorem ofL_size (w : List Nat) : (ofL w).size = w.length := by unfold ofL; rw [strOf_size, List.length_map]
theorem ofL_get {w : List Nat} (h : Byt w) {i : Nat} (hi : i < w.length) : byteAt (ofL w) (i : Int) = (w[i] : Int) := by
  have hi' : i < (w.map Int.ofNat).length := by simpa using hi
  unfold ofL
  rw [byteAt_strOf (w.map Int.ofNat) (fun x hx => by
    obtain ⟨b, hb, rfl⟩ := List.mem_map.1 hx
    have := h b hb
    exact ⟨by show (0 : Int) ≤ (b : Int); omega, by show (b : Int) ≤ 255; omega⟩) i hi', List.getElem_map]; rfl
theorem rn_go {d : S30} {q : Int} {w : List Nat} (h : Byt w) : ∀ i : Nat, i ≤ w.length → rn d q (ofL w) i = go d q (w.take i)
  | 0, _ => by rw [List.take_zero]; rfl
  | i + 1, hi => by
    have ih := rn_go (d := d) (q := q) h i (by omega)
    show stp d (rn d q (ofL w) i) (byteAt (ofL w) i) = _
    rw [ih, ofL_get h (show i < w.length by omega), List.take_succ_eq_append_getElem (show i < w.length by omega), go_snoc]
theorem hs_LL (d : S30) {w : List Nat} (h : Byt w) : hs d (ofL w) = LL d 0 w := by
  unfold hs LL
  rw [ofL_size, rn_go h w.length (Nat.le_refl _), List.take_length]
theorem trim_LL {d : S30} (h : Dr d) {A : List Bool} (hA : AS d A) {w : List Nat} (hw : Byt w) : LL (TRM d A) 0 w = LL d 0 w := by
  rw [← hs_LL _ hw, ← hs_LL _ hw, trim_has h hA]
theorem order_LL {d : S30} (h : Dr d) {w : List Nat} (hw : Byt w) : LL (ORD d) 0 w = LL d 0 w := by
  rw [← hs_LL _ hw, ← hs_LL _ hw, order_has h]
end Go.Avl.T5
/- mini: what is alive is not nowhere; steps of the quotient. -/
namespace Go.Avl.T5
open Go Go.RowKit Go.Proofs Go.Avl
set_option linter.all false
set_option maxRecDepth 10000

end Go.Avl.T5
/- mini: steps of the quotient. -/
namespace Go.Avl.T5
open Go Go.RowKit Go.Proofs Go.Avl
set_option linter.all false
set_option maxRecDepth 10000

/-- All that is led to is alive. -/
def TR (e : S30) : Prop := ∀ i b : Nat, i < e.f1.length → b < 256 → 0 ≤ stp e (i : Int) (b : Int) → AL e (stp e (i : Int) (b : Int))
theorem stp_dl {e : S30} (h : Dr e) {i b : Nat} (hi : i < e.f1.length) (hb : b < 256) : dl e i (cls e b) = (if 0 ≤ stp e (i : Int) (b : Int) then (stp e (i : Int) (b : Int)).toNat else e.f1.length) ∧ stp e (i : Int) (b : Int) < (e.f1.length : Int) ∧ -1 ≤ stp e (i : Int) (b : Int) := by
  obtain ⟨k1, k2, k3⟩ := stp_in h (q := (i : Int)) (c := (b : Int)) (by omega) (by omega) (by omega) (by omega)
  obtain ⟨c1, c2⟩ := cls_eq h hb
  have hr := stp_rng h (q := (i : Int)) (c := (b : Int)) ⟨by omega, by omega⟩ (by omega) (by omega)
  rw [c1] at k3
  refine ⟨?_, hr.2, hr.1⟩
  have k3' : stp e (i : Int) (b : Int) = lget (lget e.f1 (i : Int)) (cls e b : Int) := k3
  unfold dl
  by_cases q : 0 ≤ lget (lget e.f1 (i : Int)) (cls e b : Int)
  · rw [if_pos ⟨hi, q⟩, k3', if_pos q]
  · rw [if_neg (fun r => q r.2), k3', if_neg q]
end Go.Avl.T5
/- mini: the quotient's rows. -/
namespace Go.Avl.T5
open Go Go.RowKit Go.Proofs Go.Avl
set_option linter.all false
set_option maxRecDepth 10000

theorem QO_len (e : S30) (kk : Nat → ByteArray) : (QO e kk).f1.length = nc kk e.f1.length ∧ (QO e kk).f2.length = nc kk e.f1.length := by
  have := rps_len kk e.f1.length 0
  have z : nc kk 0 = 0 := rfl
  rw [z, Nat.add_zero, Nat.zero_add] at this
  exact ⟨by show ((rps kk e.f1.length 0).map _).length = _; rw [List.length_map]; exact this, by show ((rps kk e.f1.length 0).map _).length = _; rw [List.length_map]; exact this⟩
end Go.Avl.T5
/- mini: the quotient is right; its steps. -/
namespace Go.Avl.T5
open Go Go.RowKit Go.Proofs Go.Avl
set_option linter.all false
set_option maxRecDepth 10000

theorem ck_onto {kk : Nat → ByteArray} : ∀ (n p : Nat), p < nc kk n → ∃ i, i < n ∧ rc kk i = i ∧ nc kk i = p
  | 0, p, h => by have : nc kk 0 = 0 := rfl; omega
  | n + 1, p, h => by
    by_cases q : p < nc kk n
    · obtain ⟨i, h1, h2⟩ := ck_onto n p q
      exact ⟨i, by omega, h2⟩
    · rw [nc] at h
      by_cases r : rc kk n = n
      · rw [if_pos r] at h; exact ⟨n, by omega, r, by omega⟩
      · rw [if_neg r] at h; omega
theorem bt1_rng {e : S30} {kk : Nat → ByteArray} {x : Int} (h : -1 ≤ x ∧ x < (e.f1.length : Int)) : -1 ≤ bt1 kk x ∧ bt1 kk x < (nc kk e.f1.length : Int) := by
  unfold bt1
  split
  · have := ck_lt (kk := kk) (i := x.toNat) (N := e.f1.length) (by omega)
    omega
  · omega
theorem QO_Dr {e : S30} (h : Dr e) (kk : Nat → ByteArray) : Dr (QO e kk) := by
  obtain ⟨l1, l2⟩ := QO_len e kk
  have hn := h.n2
  have h1 := h.n1
  have hle := nc_le kk e.f1.length
  have hml := h.ml
  have hpos : 0 < nc kk e.f1.length := by
    have := ck_lt (kk := kk) (i := 0) (N := e.f1.length) (by omega)
    omega
  refine ⟨by omega, by omega, by omega, h.vb, h.gap, fun r hr => ?_, fun r hr x hx => ?_, fun m hm => ?_⟩
  · obtain ⟨i, hi, rfl⟩ := List.mem_map.1 (show r ∈ (rps kk e.f1.length 0).map fun i : Nat => (lget e.f1 (i : Int)).map (bt1 kk) from hr)
    have := rps_mem kk _ _ i hi
    rw [List.length_map]
    exact h.row _ (mem_lget (by omega) (by omega))
  · obtain ⟨i, hi, rfl⟩ := List.mem_map.1 (show r ∈ (rps kk e.f1.length 0).map fun i : Nat => (lget e.f1 (i : Int)).map (bt1 kk) from hr)
    obtain ⟨y, hy, rfl⟩ := List.mem_map.1 hx
    have := rps_mem kk _ _ i hi
    have := bt1_rng (kk := kk) (h.ent _ (mem_lget (l := e.f1) (i := (i : Int)) (by omega) (by omega)) y hy)
    rw [l1]; exact this
  · obtain ⟨i, hi, rfl⟩ := List.mem_map.1 (show m ∈ (rps kk e.f1.length 0).map fun i : Nat => lget e.f2 (i : Int) from hm)
    have := rps_mem kk _ _ i hi
    exact h.mark _ (mem_lget (by omega) (by omega))
end Go.Avl.T5
/- mini: the quotient's steps and marks. -/
namespace Go.Avl.T5
open Go Go.RowKit Go.Proofs Go.Avl
set_option linter.all false
set_option maxRecDepth 10000

end Go.Avl.T5
/- mini: what is reached, what is alive, by words. -/
namespace Go.Avl.T5
open Go Go.RowKit Go.Proofs Go.Avl
set_option linter.all false
set_option maxRecDepth 10000

theorem byt_nil : Byt [] := fun b hb => by cases hb
theorem Byt.app {w u : List Nat} (h : Byt w) (k : Byt u) : Byt (w ++ u) := fun x hx => (List.mem_append.1 hx).elim (h x) (k x)
theorem Byt.tl {b : Nat} {w : List Nat} (h : Byt (b :: w)) : Byt w := fun x hx => h x (.tail _ hx)
theorem Byt.hd {b : Nat} {w : List Nat} (h : Byt (b :: w)) : b < 256 := h b (.head _)
theorem byt_one {b : Nat} (h : b < 256) : Byt [b] := fun x hx => by have : x = b := by simpa using hx
                                                                    omega
theorem Byt.cons {b : Nat} {w : List Nat} (h : b < 256) (k : Byt w) : Byt (b :: w) := Byt.app (byt_one h) k
theorem stp_row {d : S30} (h : Dr d) {p : Int} {c : Nat} (h0 : 0 ≤ p) (h1 : p < (d.f1.length : Int)) (hc : (c : Int) < ((rw' d p).length : Int)) : ∃ b : Nat, b < 256 ∧ stp d p (b : Int) = lget (rw' d p) (c : Int) := by
  have hk := h.rowk h0 h1
  have hk' : ((rw' d p).length : Int) = kcl d.f0 := hk
  obtain ⟨b, hb, e⟩ := h.gap c (by omega)
  obtain ⟨k1, k2, k3⟩ := stp_in h h0 h1 (c := (b : Int)) (by omega) (by omega)
  exact ⟨b, hb, by rw [k3, e]⟩
theorem DR_go {d : S30} (h : Dr d) {s q : Int} (hs : 0 ≤ s ∧ s < (d.f1.length : Int)) (k : DR d s q) : ∃ w, Byt w ∧ go d s w = q := by
  induction k with
  | refl => exact ⟨[], byt_nil, rfl⟩
  | @step p c hp hc h0 ih =>
    obtain ⟨w, w1, w2⟩ := ih
    have hr := DR.in h hs hp
    obtain ⟨b, b1, b2⟩ := stp_row h hr.1 hr.2 hc
    exact ⟨w ++ [b], w1.app (byt_one b1), by rw [go_snoc, w2, b2]⟩
theorem go_neg (d : S30) : ∀ w : List Nat, go d (-1) w = -1
  | [] => rfl
  | b :: w => by rw [go, stp_neg]; exact go_neg d w
theorem LL_neg (d : S30) (w : List Nat) : LL d (-1) w = -1 := by unfold LL; rw [go_neg, mk_neg]
theorem go_rng {d : S30} (h : Dr d) : ∀ (w : List Nat) (q : Int), Byt w → -1 ≤ q ∧ q < (d.f1.length : Int) → -1 ≤ go d q w ∧ go d q w < (d.f1.length : Int)
  | [], q, _, hq => hq
  | b :: w, q, hw, hq => by
    have := hw.hd
    exact go_rng h w _ hw.tl (stp_rng h hq (by omega) (by omega))
theorem stp_DR {d : S30} (h : Dr d) {q : Int} {b : Nat} (h0 : 0 ≤ q) (h1 : q < (d.f1.length : Int)) (hb : b < 256) (hn : 0 ≤ stp d q (b : Int)) : DR d q (stp d q (b : Int)) := by
  obtain ⟨k1, k2, k3⟩ := stp_in h h0 h1 (c := (b : Int)) (by omega) (by omega)
  obtain ⟨c, hc⟩ := Int.eq_ofNat_of_zero_le k1
  rw [hc] at k3 k2
  rw [k3] at hn ⊢
  exact DR.step .refl k2 hn
theorem go_DR {d : S30} (h : Dr d) : ∀ (w : List Nat) (q : Int), Byt w → 0 ≤ q → q < (d.f1.length : Int) → 0 ≤ go d q w → DR d q (go d q w)
  | [], q, _, _, _, _ => .refl
  | b :: w, q, hw, h0, h1, hn => by
    have hb := hw.hd
    have hr := stp_rng h (q := q) (c := (b : Int)) ⟨by omega, h1⟩ (by omega) (by omega)
    by_cases a : stp d q (b : Int) = -1
    · rw [go, a, go_neg] at hn; omega
    · have hs := stp_DR h h0 h1 hb (by omega)
      exact hs.trans (go_DR h w _ hw.tl (by omega) hr.2 hn)
theorem LL_ge {d : S30} (h : Dr d) (q : Int) (w : List Nat) : -1 ≤ LL d q w := (mk_ge h _).1
theorem LL_pos {d : S30} (h : Dr d) {q : Int} {w : List Nat} (hw : Byt w) (hq : -1 ≤ q ∧ q < (d.f1.length : Int)) (hl : 0 ≤ LL d q w) : 0 ≤ go d q w := by
  have := go_rng h w q hw hq
  by_cases a : go d q w = -1
  · unfold LL at hl; rw [a, mk_neg] at hl; omega
  · omega
theorem AL_iff {d : S30} (h : Dr d) {q : Int} (h0 : 0 ≤ q) (h1 : q < (d.f1.length : Int)) : AL d q ↔ ∃ w, Byt w ∧ 0 ≤ LL d q w := by
  constructor
  · rintro ⟨r, r1, r2⟩
    obtain ⟨w, w1, w2⟩ := DR_go h ⟨h0, h1⟩ r1
    exact ⟨w, w1, by unfold LL; rw [w2]; exact r2⟩
  · rintro ⟨w, w1, w2⟩
    exact ⟨_, go_DR h w q w1 h0 h1 (LL_pos h w1 ⟨by omega, h1⟩ w2), w2⟩
/-! Trimmed. -/
theorem TRM_len (d : S30) (A : List Bool) : (TRM d A).f1.length = d.f1.length := by show (d.f1.map _).length = _; rw [List.length_map]
theorem TRM_stp {d : S30} (h : Dr d) (A : List Bool) {q : Int} {b : Nat} (h0 : 0 ≤ q) (h1 : q < (d.f1.length : Int)) (hb : b < 256) : stp (TRM d A) q (b : Int) = tr A (stp d q (b : Int)) := by
  obtain ⟨k1, k2, k3⟩ := stp_in h h0 h1 (c := (b : Int)) (by omega) (by omega)
  obtain ⟨m1, m2, m3⟩ := stp_in (TRM_Dr h A) (q := q) (c := (b : Int)) h0 (by rw [TRM_len]; exact h1) (by omega) (by omega)
  rw [m3, k3, TRM_row A h0 h1]
  exact lget_map (tr A) _ k1 k2
theorem TRM_LL {d : S30} (h : Dr d) {A : List Bool} (hA : AS d A) : ∀ (w : List Nat) (q : Int), Byt w → -1 ≤ q ∧ q < (d.f1.length : Int) → LL (TRM d A) q w = LL d q w
  | [], q, _, _ => rfl
  | b :: w, q, hw, hq => by
    have hb := hw.hd
    by_cases a : q = -1
    · rw [a, LL_neg, LL_neg]
    · have hr := stp_rng h (q := q) (c := (b : Int)) hq (by omega) (by omega)
      have e1 : LL (TRM d A) q (b :: w) = LL (TRM d A) (tr A (stp d q (b : Int))) w := by
        show LL (TRM d A) (stp (TRM d A) q (b : Int)) w = _
        rw [TRM_stp h A (by omega) hq.2 hb]
      have e2 : LL d q (b :: w) = LL d (stp d q (b : Int)) w := rfl
      rw [e1, e2]
      unfold tr
      by_cases c : 0 ≤ stp d q (b : Int) ∧ lget A (stp d q (b : Int)) = false
      · rw [if_pos c, LL_neg]
        have hna : ¬ AL d (stp d q (b : Int)) := fun k => by
          have := (hA.2 _ c.1 hr.2).2 k
          rw [c.2] at this; cases this
        have hge := LL_ge h (stp d q (b : Int)) w
        by_cases x : 0 ≤ LL d (stp d q (b : Int)) w
        · exact absurd ((AL_iff h c.1 hr.2).2 ⟨w, hw.tl, x⟩) hna
        · omega
      · rw [if_neg c]
        exact TRM_LL h hA w _ hw.tl hr
/-! Put in order. -/
theorem pl_neg1 {d : S30} (h : Dr d) : pl (OL d) (-1) = -1 := pl_not fun k => by have := ((OL_OI h).rng _ k).1; omega
theorem ORD_go {d : S30} (h : Dr d) : ∀ (w : List Nat) (q : Int), Byt w → (q = -1 ∨ q ∈ OL d) → go (ORD d) (pl (OL d) q) w = pl (OL d) (go d q w) ∧ (go d q w = -1 ∨ go d q w ∈ OL d)
  | [], q, _, hq => ⟨rfl, hq⟩
  | b :: w, q, hw, hq => by
    have hb := hw.hd
    rcases hq with e | e
    · rw [e, pl_neg1 h, go_neg, go_neg]
      exact ⟨(pl_neg1 h).symm, .inl rfl⟩
    · obtain ⟨s1, s2⟩ := ORD_stp h e (c := (b : Int)) (by omega) (by omega)
      have := ORD_go h w (stp d q (b : Int)) hw.tl s2
      rw [go, go, s1]
      exact this
theorem ORD_mk' {d : S30} (h : Dr d) {q : Int} (hq : q = -1 ∨ q ∈ OL d) : mk (ORD d) (pl (OL d) q) = mk d q := by
  rcases hq with e | e
  · rw [e, pl_neg1 h, mk_neg, mk_neg]
  · exact ORD_mk h e
theorem ORD_LL {d : S30} (h : Dr d) {w : List Nat} {q : Int} (hw : Byt w) (hq : q = -1 ∨ q ∈ OL d) : LL (ORD d) (pl (OL d) q) w = LL d q w := by
  obtain ⟨g1, g2⟩ := ORD_go h w q hw hq
  unfold LL
  rw [g1]
  exact ORD_mk' h g2
theorem pl_idx {L : List Int} (hn : L.Nodup) {i : Nat} (hi : i < L.length) : pl L (lget L (i : Int)) = (i : Int) := by
  have hm : lget L (i : Int) ∈ L := mem_lget (by omega) (by omega)
  obtain ⟨j, j1, j2, j3⟩ := pl_get hm
  rw [j2]
  rw [lget_lt _ j j1, lget_lt _ i hi] at j3
  have hp := List.pairwise_iff_getElem.1 hn
  rcases Nat.lt_trichotomy i j with a | a | a
  · exact absurd j3.symm (hp i j hi j1 a)
  · omega
  · exact absurd j3 (hp j i j1 hi a)
/-- All states are reached. -/
def RCH (e : S30) : Prop := ∀ i : Nat, i < e.f1.length → ∃ w, Byt w ∧ go e 0 w = (i : Int)
theorem ORD_RCH {d : S30} (h : Dr d) : RCH (ORD d) := by
  intro i hi
  rw [ORD_len] at hi
  have hO := OL_OI h
  have hm : lget (OL d) (i : Int) ∈ OL d := mem_lget (by omega) (by omega)
  have hn := h.n1
  obtain ⟨w, w1, w2⟩ := DR_go h (s := 0) (by omega) (hO.rch _ hm)
  obtain ⟨z1, z2⟩ := ORD_zero h
  have := (ORD_go h w 0 w1 (.inr z1)).1
  rw [z2, w2, pl_idx hO.nd hi] at this
  exact ⟨w, w1, this⟩
theorem TRM_ORD_TR {d : S30} (h : Dr d) {A : List Bool} (hA : AS d A) : TR (ORD (TRM d A)) := by
  have hT := TRM_Dr h A
  have hO := OL_OI hT
  intro i b hi hb hp
  have hi' := hi
  rw [ORD_len] at hi'
  have hm : lget (OL (TRM d A)) (i : Int) ∈ OL (TRM d A) := mem_lget (by omega) (by omega)
  have hr := hO.rng _ hm
  rw [TRM_len] at hr
  obtain ⟨s1, s2⟩ := ORD_stp hT hm (c := (b : Int)) (by omega) (by omega)
  rw [pl_idx hO.nd hi'] at s1
  have hne : stp (TRM d A) (lget (OL (TRM d A)) (i : Int)) (b : Int) ≠ -1 := fun e => by
    rw [e, pl_neg1 hT] at s1; omega
  have s3 := s2.resolve_left hne
  rw [TRM_stp h A hr.1 hr.2 hb] at s1 s3 hne
  have hrg := stp_rng h (q := lget (OL (TRM d A)) (i : Int)) (c := (b : Int)) (by omega) (by omega) (by omega)
  generalize stp d (lget (OL (TRM d A)) (i : Int)) (b : Int) = p at *
  have hal : 0 ≤ p ∧ AL d p := by
    unfold tr at hne
    by_cases c : 0 ≤ p ∧ lget A p = false
    · rw [if_pos c] at hne; exact absurd rfl hne
    · rw [if_neg c] at hne
      refine ⟨by omega, (hA.2 _ (by omega) hrg.2).1 ?_⟩
      cases hx : lget A p with
      | true => rfl
      | false => exact absurd ⟨by omega, hx⟩ c
  have etr : tr A p = p := by
    unfold tr
    rw [if_neg]
    rintro ⟨_, c⟩
    rw [(hA.2 _ hal.1 hrg.2).2 hal.2] at c; cases c
  rw [etr] at s1 s3
  obtain ⟨w, w1, w2⟩ := (AL_iff h hal.1 hrg.2).1 hal.2
  rw [s1] at hp ⊢
  have hlt := (pl_lt (L := OL (TRM d A)) p).2
  refine (AL_iff (ORD_Dr hT) hp (by rw [ORD_len]; exact hlt)).2 ⟨w, w1, ?_⟩
  rw [ORD_LL hT w1 (.inr s3), TRM_LL h hA w p w1 (by omega)]
  exact w2
end Go.Avl.T5
/- mini: the quotient's words; blocks are told apart by words. -/
namespace Go.Avl.T5
open Go Go.RowKit Go.Proofs Go.Avl
set_option linter.all false
set_option maxRecDepth 10000

end Go.Avl.T5
/- mini: classes of bytes that lead alike made one. -/
namespace Go.Avl.T5
open Go Go.RowKit Go.Proofs Go.Avl
set_option linter.all false
set_option maxRecDepth 10000

/-- The machine with alike classes made one. -/
def CM (q : S30) (v : Vector Int 256) : S30 := S30.mk v (q.f1.map fun r => (KB q).map fun c => lget r c) q.f2
def CV (q : S30) (v : Vector Int 256) : Prop := ∀ c : Nat, c < 256 → vget v (c : Int) = (ck (kcol q) c : Int)
theorem CV_out (v : Vector Int 256) {c : Int} (h : ¬ c.toNat < 256) : vget v c = 0 := by
  have : v.toList[c.toNat]? = none := List.getElem?_eq_none (by simp; omega)
  simp only [vget, List.getD, this]; rfl
theorem CM_vb {q : S30} {v : Vector Int 256} (h : CV q v) : VB v := by
  intro c
  by_cases hc : c.toNat < 256
  · by_cases h0 : 0 ≤ c
    · obtain ⟨n, rfl⟩ := Int.eq_ofNat_of_zero_le h0
      rw [h n (by omega)]
      have := ck_le (kcol q) n
      omega
    · have e : vget v c = vget v ((0 : Nat) : Int) := by unfold vget; rw [show c.toNat = 0 by omega]; rfl
      rw [e, h 0 (by omega)]
      have := ck_le (kcol q) 0
      omega
  · rw [CV_out v hc]; omega
theorem CM_kcl {q : S30} {v : Vector Int 256} (h : CV q v) : kcl v = (nc (kcol q) 256 : Int) := by
  have h1 := count_eq (CM_vb h)
  have h2 := bcount_l (kk := kcol q) v h 256 0 5000 (by omega) (by omega)
  have h3 : byteset_Count 5000 v = byteset_Count_l1 5000 v 5000 (nc (kcol q) 0 : Int) (0 : Int) := rfl
  rw [h3] at h1
  rw [Int.natCast_zero] at h2
  rw [h2] at h1
  exact (Option.some.inj h1).symm
theorem KB_size (q : S30) : (KB q).length = nc (kcol q) 256 := by
  unfold KB
  rw [List.length_map]
  have := rps_len (kcol q) 256 0
  have z : nc (kcol q) 0 = 0 := rfl
  rw [z, Nat.zero_add, Nat.add_zero] at this
  exact this
theorem CM_len (q : S30) (v : Vector Int 256) : (CM q v).f1.length = q.f1.length := by show (q.f1.map _).length = _; rw [List.length_map]
theorem CM_Dr {q : S30} (h : Dr q) {v : Vector Int 256} (hv : CV q v) : Dr (CM q v) := by
  have hk := CM_kcl hv
  refine ⟨by rw [CM_len]; exact h.n1, by rw [CM_len]; exact h.n2, by rw [CM_len]; exact h.ml, CM_vb hv, fun c hc => ?_, fun r hr => ?_, fun r hr x hx => ?_, h.mark⟩
  · have hc' : (c : Int) < kcl v := hc
    obtain ⟨b, b1, b2, b3⟩ := ck_onto (kk := kcol q) 256 c (by omega)
    refine ⟨b, b1, ?_⟩
    show vget v (b : Int) = _
    rw [hv b b1]; unfold ck; rw [b2, b3]
  · obtain ⟨r', hr', rfl⟩ := List.mem_map.1 (show r ∈ q.f1.map fun r => (KB q).map fun c => lget r c from hr)
    rw [List.length_map, KB_size]; exact hk.symm
  · obtain ⟨r', hr', rfl⟩ := List.mem_map.1 (show r ∈ q.f1.map fun r => (KB q).map fun c => lget r c from hr)
    obtain ⟨c, hc, rfl⟩ := List.mem_map.1 hx
    obtain ⟨k1, k2⟩ := KB_mem h hc
    have hrow := h.row r' hr'
    rw [CM_len]
    exact h.ent r' hr' _ (mem_lget k1 (by omega))
end Go.Avl.T5
/- mini: machines alike but for the numbers of their states are put in one order. -/
namespace Go.Avl.T5
open Go Go.RowKit Go.Proofs Go.Avl
set_option linter.all false
set_option maxRecDepth 10000

structure Iso (a b : S30) (φ : Int → Int) (V : Int → Prop) : Prop where
  f0 : b.f0 = a.f0
  z : φ 0 = 0
  vz : V 0
  pos : ∀ x, V x → (0 ≤ φ x ↔ 0 ≤ x)
  inj : ∀ x y, V x → V y → φ x = φ y → x = y
  row : ∀ x, V x → 0 ≤ x → rw' b (φ x) = (rw' a x).map φ ∧ ∀ y ∈ rw' a x, V y
  mark : ∀ x, V x → 0 ≤ x → lget b.f2 (φ x) = lget a.f2 x
variable {a b : S30} {φ : Int → Int} {V : Int → Prop}
theorem Iso.mem (h : Iso a b φ V) {L : List Int} (hL : ∀ y ∈ L, V y) {x : Int} (hx : V x) : φ x ∈ L.map φ ↔ x ∈ L := by
  constructor
  · intro k
    obtain ⟨y, y1, y2⟩ := List.mem_map.1 k
    rw [← h.inj y x (hL y y1) hx y2]; exact y1
  · intro k; exact List.mem_map_of_mem k
end Go.Avl.T5
/- mini: machines that have the same texts are made the same. -/
namespace Go.Avl.T5
open Go Go.RowKit Go.Proofs Go.Avl
set_option linter.all false
set_option maxRecDepth 10000

/-- What is ahead of the last order: trimmed, in order, cut into blocks. -/
structure Mid (e : S30) (kk : Nat → ByteArray) : Prop where
  dr : Dr e
  cut : Cut e kk
  stb : Stb e kk
  tr : TR e
  rch : RCH e
theorem Mid.of {d : S30} (h : Dr d) {A : List Bool} (hA : AS d A) {kk : Nat → ByteArray} (k : Cut (ORD (TRM d A)) kk) (s : Stb (ORD (TRM d A)) kk) : Mid (ORD (TRM d A)) kk :=
  ⟨ORD_Dr (TRM_Dr h A), k, s, TRM_ORD_TR h hA, ORD_RCH (TRM_Dr h A)⟩
/-- The same texts. -/
def SL (e e' : S30) : Prop := ∀ w, Byt w → LL e 0 w = LL e' 0 w
theorem SL.symm {e e' : S30} (h : SL e e') : SL e' e := fun w hw => (h w hw).symm
theorem SL.trans {a b c : S30} (h : SL a b) (k : SL b c) : SL a c := fun w hw => (h w hw).trans (k w hw)
open Classical in
theorem of_eq {d : S30} (h : Dr d) (hr : dfa_Right 5000 d = some true) (hrr : ∀ e, Dr e → dfa_Right 5000 e = some true) : ∃ e kk v, Mid e kk ∧ SL e d ∧ CV (QO e kk) v ∧ mini_Of 5000 d = some (ORD (CM (QO e kk) v), 0) := by
  obtain ⟨A, kk, hA, hc, hs, eq⟩ := of_mid h hr hrr
  have m := Mid.of h hA hc hs
  obtain ⟨v, v1, v2⟩ := mclasses_eq (QO_Dr m.dr kk)
  refine ⟨_, kk, v, m, fun w hw => ?_, v1, ?_⟩
  · rw [order_LL (TRM_Dr h A) hw, trim_LL h hA hw]
  · have : mini_classes 5000 (QO (ORD (TRM d A)) kk) = some (CM (QO (ORD (TRM d A)) kk) v) := v2
    rw [eq, this, Option.bind_some, order_eq (CM_Dr (QO_Dr m.dr kk) v1), Option.bind_some]
end Go.Avl.T5
/- mini: a state twice: the same texts. -/
namespace Go.Avl.T5
open Go Go.RowKit Go.Proofs Go.Avl
set_option linter.all false
set_option maxRecDepth 10000

section
variable (d : S30) (t : Nat)
end
variable {d : S30} {t : Nat}
end Go.Avl.T5
/- mini: states told apart by short words. -/
namespace Go.Avl.T5
open Go Go.RowKit Go.Proofs Go.Avl
set_option linter.all false
set_option maxRecDepth 10000

/-- A text's mark from a state, or from nowhere. -/
def LN (d : S30) (i : Nat) (w : List Nat) : Int := LL d (if i < d.f1.length then (i : Int) else -1) w
theorem LN_nil {d : S30} (h : Dr d) {i : Nat} (hi : i ≤ d.f1.length) : LN d i [] = mk d (i : Int) := by
  unfold LN
  by_cases a : i < d.f1.length
  · rw [if_pos a]; rfl
  · rw [if_neg a, LL_neg]
    have hm := h.ml
    unfold mk
    rw [if_pos (.inr (by omega))]
theorem LN_cons {d : S30} (h : Dr d) {i b : Nat} (hi : i ≤ d.f1.length) (hb : b < 256) (w : List Nat) : LN d i (b :: w) = LN d (dl d i (cls d b)) w := by
  unfold LN
  by_cases a : i < d.f1.length
  · rw [if_pos a]
    obtain ⟨d1, r1, r2⟩ := stp_dl h a hb
    rw [d1]
    by_cases c : 0 ≤ stp d (i : Int) (b : Int)
    · rw [if_pos c, if_pos (by omega), Int.toNat_of_nonneg c]; rfl
    · rw [if_neg c, if_neg (by omega)]
      have : stp d (i : Int) (b : Int) = -1 := by omega
      show LL d (stp d (i : Int) (b : Int)) w = _
      rw [this]
  · rw [if_neg a, LL_neg]
    have : dl d i (cls d b) = d.f1.length := by unfold dl; rw [if_neg (fun q => a q.1)]
    rw [this, if_neg (by omega), LL_neg]
theorem LN_f0 {d : S30} (h : Dr d) {i j : Nat} (hi : i ≤ d.f1.length) (hj : j ≤ d.f1.length) : f0 d i = f0 d j ↔ LN d i [] = LN d j [] := by
  rw [LN_nil h hi, LN_nil h hj]
  have h1 := mk_ge h (i : Int)
  have h2 := mk_ge h (j : Int)
  unfold f0
  omega
/-- A class has a byte. -/
theorem cls_onto {d : S30} (h : Dr d) {c : Nat} (hc : c < KC d) : ∃ b, b < 256 ∧ cls d b = c := by
  have hk := KC_eq h
  obtain ⟨b, hb, eb⟩ := h.gap c (by omega)
  exact ⟨b, hb, by unfold cls; rw [eb, Int.toNat_natCast]⟩
theorem kk_words {d : S30} (h : Dr d) {kk : Nat → ByteArray} (k : Cut d kk) (s : Stb d kk) {i j : Nat} (hi : i ≤ d.f1.length) (hj : j ≤ d.f1.length) : kk i = kk j ↔ ∀ w, Byt w → LN d i w = LN d j w := by
  constructor
  · intro e w
    induction w generalizing i j with
    | nil => intro _; exact (LN_f0 h hi hj).1 (k.mark i j hi hj e)
    | cons b w ih =>
      intro hw
      have hb := hw.hd
      have hc := (cls_eq h hb).2
      rw [LN_cons h hi hb, LN_cons h hj hb]
      exact ih (dl_le h hc) (dl_le h hc) (s i j hi hj e _ hc) hw.tl
  · intro hl
    refine k.bis (fun i j => ∀ w, Byt w → LN d i w = LN d j w) (fun i j hi hj hE => ⟨(LN_f0 h hi hj).2 (hE [] byt_nil), fun c hc w hw => ?_⟩) i j hi hj hl
    obtain ⟨b, hb, ec⟩ := cls_onto h hc
    have := hE (b :: w) (Byt.cons hb hw)
    rw [LN_cons h hi hb, LN_cons h hj hb, ec] at this
    exact this
/-- The keys, round by round. -/
def KS (d : S30) : Nat → Nat → ByteArray
  | 0 => kr d (f0 d)
  | r + 1 => kr d (ck (KS d r))
theorem KS_cut {d : S30} (h : Dr d) : ∀ r, Cut d (KS d r)
  | 0 => cut0 h
  | r + 1 => (cutS h (KS_cut h r)).1
theorem KS_word {d : S30} (h : Dr d) : ∀ (r : Nat) (i j : Nat), i ≤ d.f1.length → j ≤ d.f1.length → KS d r i ≠ KS d r j → ∃ w, Byt w ∧ w.length ≤ r + 1 ∧ LN d i w ≠ LN d j w
  | 0, i, j, hi, hj, hne => by
    by_cases e : f0 d i = f0 d j
    · have : ∃ c, c < KC d ∧ f0 d (dl d i c) ≠ f0 d (dl d j c) := by
        refine Classical.byContradiction fun q => hne ((kr_iff h (fun i _ => f0_lt h i) hi hj).2 ⟨e, fun c hc => Classical.byContradiction fun u => q ⟨c, hc, u⟩⟩)
      obtain ⟨c, hc, hd⟩ := this
      obtain ⟨b, hb, ec⟩ := cls_onto h hc
      refine ⟨[b], byt_one hb, Nat.le_refl _, ?_⟩
      rw [LN_cons h hi hb, LN_cons h hj hb, ec]
      exact fun u => hd ((LN_f0 h (dl_le h hc) (dl_le h hc)).2 u)
    · exact ⟨[], byt_nil, by simp, fun u => e ((LN_f0 h hi hj).2 u)⟩
  | r + 1, i, j, hi, hj, hne => by
    by_cases e : KS d r i = KS d r j
    · have : ∃ c, c < KC d ∧ KS d r (dl d i c) ≠ KS d r (dl d j c) := by
        refine Classical.byContradiction fun q => hne ((kr_iff h (ck_lt16 h (KS d r)) hi hj).2 ⟨ck_same _ e, fun c hc => ck_same _ (Classical.byContradiction fun u => q ⟨c, hc, u⟩)⟩)
      obtain ⟨c, hc, hd⟩ := this
      obtain ⟨b, hb, ec⟩ := cls_onto h hc
      obtain ⟨w, w1, w2, w3⟩ := KS_word h r _ _ (dl_le h hc) (dl_le h hc) hd
      refine ⟨b :: w, Byt.cons hb w1, by simp; omega, ?_⟩
      rw [LN_cons h hi hb, LN_cons h hj hb, ec]; exact w3
    · obtain ⟨w, w1, w2, w3⟩ := KS_word h r i j hi hj e
      exact ⟨w, w1, by omega, w3⟩
theorem KS_grow {d : S30} (h : Dr d) : ∀ r, (∀ q, q < r → nc (KS d q) (d.f1.length + 1) ≠ nc (KS d (q + 1)) (d.f1.length + 1)) → r + 1 ≤ nc (KS d r) (d.f1.length + 1)
  | 0, _ => by
    have := ck_lt (kk := KS d 0) (i := 0) (N := d.f1.length + 1) (by omega)
    omega
  | r + 1, hq => by
    have ih := KS_grow h r fun q hr => hq q (by omega)
    have h1 := hq r (by omega)
    have h2 := nc_fine (cutS h (KS_cut h r)).2 (d.f1.length + 1)
    have h2' : nc (KS d r) (d.f1.length + 1) ≤ nc (KS d (r + 1)) (d.f1.length + 1) := h2
    omega
theorem KS_stb {d : S30} (h : Dr d) : ∃ r, r ≤ d.f1.length ∧ Stb d (KS d r) := by
  have : ∃ r, r ≤ d.f1.length ∧ nc (KS d r) (d.f1.length + 1) = nc (KS d (r + 1)) (d.f1.length + 1) := by
    refine Classical.byContradiction fun q => ?_
    have := KS_grow h (d.f1.length + 1) fun r hr e => q ⟨r, by omega, e⟩
    have := nc_le (KS d (d.f1.length + 1)) (d.f1.length + 1)
    omega
  obtain ⟨r, r1, r2⟩ := this
  refine ⟨r, r1, fun i j hi hj e c hc => ?_⟩
  have fine := (cutS h (KS_cut h r)).2
  have e2 := fine_same fine r2 (show i < d.f1.length + 1 by omega) (show j < d.f1.length + 1 by omega) e
  have := ((kr_iff h (ck_lt16 h (KS d r)) hi hj).1 e2).2 c hc
  exact ck_iff.1 this
/-- What is told apart is told apart by a short word. -/
theorem apart_short {d : S30} (h : Dr d) {i j : Nat} (hi : i ≤ d.f1.length) (hj : j ≤ d.f1.length) (hw : ∃ w, Byt w ∧ LN d i w ≠ LN d j w) : ∃ w, Byt w ∧ w.length ≤ d.f1.length + 1 ∧ LN d i w ≠ LN d j w := by
  obtain ⟨r, r1, r2⟩ := KS_stb h
  obtain ⟨w, w1, w2⟩ := hw
  obtain ⟨u, u1, u2, u3⟩ := KS_word h r i j hi hj fun e => w2 ((kk_words h (KS_cut h r) r2 hi hj).1 e w w1)
  exact ⟨u, u1, by omega, u3⟩
end Go.Avl.T5
/- The document's Apart. -/
namespace Go.Avl.T5
open Go Go.RowKit Go.Proofs Go.Avl
set_option linter.all false
set_option maxRecDepth 10000

theorem g_lset {α : Type} [Inhabited α] (l : List α) {i q : Nat} (x : α) (h : i < l.length) : lget (lset l (i : Int) x) (q : Int) = if q = i then x else lget l (q : Int) := by
  unfold lget lset
  rw [Int.toNat_natCast, Int.toNat_natCast, List.getD, List.getD]
  by_cases e : q = i
  · rw [if_pos e, e, List.getElem?_set_self h]; rfl
  · rw [if_neg e, List.getElem?_set_ne (fun k => e k.symm)]
theorem g_len {α : Type} (l : List α) (i : Int) (x : α) : (lset l i x).length = l.length := by simp [lset]
def en (x : List (List Bool)) (i k : Nat) : Bool := lget (lget x (i : Int)) (k : Int)
/-- Told apart by words of so many bytes. -/
def Told (d : S30) (r i k : Nat) : Prop := ∃ w, Byt w ∧ w.length ≤ r ∧ LN d i w ≠ LN d k w
structure AJ (d : S30) (r i k : Nat) (x : List (List Bool)) : Prop where
  len : x.length = d.f1.length + 1
  row : ∀ a, a ≤ d.f1.length → (lget x (a : Int)).length = d.f1.length + 1
  snd : ∀ a b, a ≤ d.f1.length → b ≤ d.f1.length → en x a b = true → ∃ w, Byt w ∧ LN d a w ≠ LN d b w
  cmp : ∀ a b, a ≤ d.f1.length → b ≤ d.f1.length → Told d r a b → en x a b = true
  don : ∀ a b, a ≤ d.f1.length → b ≤ d.f1.length → (a < i ∨ (a = i ∧ b < k)) → Told d (r + 1) a b → en x a b = true
theorem rto_eq {d : S30} (h : Dr d) {i c : Nat} (hi : i ≤ d.f1.length) (hc : c < KC d) : bosketref09_to 5000 d (i : Int) (c : Int) = some (dl d i c : Int) := by
  have hk := KC_eq h
  unfold bosketref09_to dl
  by_cases a : (d.f1.length : Int) ≤ (i : Int)
  · rw [if_pos a, Option.bind_some, if_pos rfl, if_neg (by omega)]
  · have hr := h.rowk (i := (i : Int)) (by omega) (by omega)
    have gi : 0 ≤ (i : Int) ∧ (i : Int) < (d.f1.length : Int) := ⟨by omega, by omega⟩
    have gc : 0 ≤ (c : Int) ∧ (c : Int) < ((lget d.f1 (i : Int)).length : Int) := ⟨by omega, by omega⟩
    rw [if_neg a, if_pos gi, if_pos gc, Option.bind_some]
    by_cases b : lget (lget d.f1 (i : Int)) (c : Int) < 0
    · rw [decide_eq_true b, if_pos rfl, if_neg (by omega)]
    · rw [decide_eq_false b, if_neg (by decide), if_pos gi, if_pos gc, if_pos ⟨by omega, by omega⟩, Int.toNat_of_nonneg (by omega)]
theorem en_set {x : List (List Bool)} {i k : Nat} (hi : i < x.length) (hk : k < (lget x (i : Int)).length) (v : Bool) (a b : Nat) : en (lset x (i : Int) (lset (lget x (i : Int)) (k : Int) v)) a b = if a = i ∧ b = k then v else en x a b := by
  unfold en
  rw [g_lset x _ hi]
  by_cases e : a = i
  · rw [if_pos e, g_lset _ _ hk]
    by_cases f : b = k
    · rw [if_pos f, if_pos ⟨e, f⟩]
    · rw [if_neg f, if_neg fun q => f q.2, e]
  · rw [if_neg e, if_neg fun q => e q.1]
theorem AJ.exit {d : S30} {r i k : Nat} {x : List (List Bool)} (j : AJ d r i k x) (hd : Told d (r + 1) i k → en x i k = true) : AJ d r i (k + 1) x :=
  ⟨j.len, j.row, j.snd, j.cmp, fun a b ha hb q t => by
    by_cases e : a = i ∧ b = k
    · rw [e.1, e.2] at t ⊢; exact hd t
    · exact j.don a b ha hb (by omega) t⟩
theorem apart_l4 {d : S30} (h : Dr d) (rec27 : List (List Bool) → Int → Option (List (List Bool))) (r : Nat) {i k : Nat} (hi : i ≤ d.f1.length) (hk : k ≤ d.f1.length) (R : Option (List (List Bool))) (hR : ∀ y, AJ d r i (k + 1) y → rec27 y ((k + 1 : Nat) : Int) = R) : ∀ (m c fuel : Nat) (x : List (List Bool)), c + m = KC d → m < fuel → AJ d r i k x → (∀ c', c' < c → Told d r (dl d i c') (dl d k c') → en x i k = true) →
    bosketref09_Apart_l4 5000 rec27 d (i : Int) (k : Int) fuel x (c : Int) = R := by
  intro m
  have hn := h.n2
  have h1 := h.n1
  have hK := KC_eq h
  have hK2 := KC_le h
  have r0 := h.rowk (i := 0) (by omega) (by omega)
  have g0 : 0 ≤ (0 : Int) ∧ (0 : Int) < (d.f1.length : Int) := ⟨by omega, by omega⟩
  induction m with
  | zero =>
    intro c fuel x hc hf hj hq
    obtain ⟨fu, rfl⟩ : ∃ fu, fuel = fu + 1 := ⟨fuel - 1, by omega⟩
    rw [bosketref09_Apart_l4.eq_2, if_pos g0, if_neg (by omega), Option.bind_some, if_neg (by decide)]
    unfold bosketref09_Apart_c3
    rw [w6 (by omega) (by omega)]
    refine hR x (hj.exit ?_)
    rintro ⟨w, w1, w2, w3⟩
    cases w with
    | nil => exact hj.cmp i k hi hk ⟨[], byt_nil, by simp, w3⟩
    | cons b w =>
      have hb := w1.hd
      rw [LN_cons h hi hb, LN_cons h hk hb] at w3
      exact hq (cls d b) (by have := (cls_eq h hb).2; omega) ⟨w, w1.tl, by simp at w2; omega, w3⟩
  | succ m ih =>
    intro c fuel x hc hf hj hq
    obtain ⟨fu, rfl⟩ : ∃ fu, fuel = fu + 1 := ⟨fuel - 1, by omega⟩
    have hl := hj.len
    have hri := hj.row i hi
    have gi : 0 ≤ (i : Int) ∧ (i : Int) < (x.length : Int) := ⟨by omega, by omega⟩
    have gk : 0 ≤ (k : Int) ∧ (k : Int) < ((lget x (i : Int)).length : Int) := ⟨by omega, by omega⟩
    rw [bosketref09_Apart_l4.eq_2, if_pos g0, if_pos (by omega), if_pos gi, if_pos gk, Option.bind_some]
    cases hb : lget (lget x (i : Int)) (k : Int) with
    | true =>
      rw [if_neg (by decide)]
      unfold bosketref09_Apart_c3
      rw [w6 (by omega) (by omega)]
      exact hR x (hj.exit fun _ => hb)
    | false =>
      have hcK : c < KC d := by omega
      have d1 := dl_le h (i := i) hcK
      have d2 := dl_le h (i := k) hcK
      have hrd := hj.row _ d1
      have hen : en x i k = false := hb
      rw [if_pos (by decide), if_pos gi, rto_eq h hi hcK, Option.bind_some, if_pos ⟨by omega, by omega⟩, rto_eq h hk hcK, Option.bind_some, if_pos ⟨by omega, by omega⟩, if_pos gk, w6 (by omega) (by omega)]
      have es := en_set (x := x) (i := i) (k := k) (by omega) (by omega) (lget (lget x (dl d i c : Int)) (dl d k c : Int))
      have this := ih (c + 1) fu (lset x (i : Int) (lset (lget x (i : Int)) (k : Int) (lget (lget x (dl d i c : Int)) (dl d k c : Int)))) (by omega) (by omega) ⟨by rw [g_len]; exact hl, fun a ha => ?_, fun a b ha hb2 he => ?_, fun a b ha hb2 ht => ?_, fun a b ha hb2 hlt ht => ?_⟩ (fun c' hc' ht => ?_)
      · exact_mod_cast this
      · rw [g_lset x _ (by omega)]
        by_cases e : a = i
        · rw [if_pos e, g_len]; exact hri
        · rw [if_neg e]; exact hj.row a ha
      · rw [es] at he
        by_cases e : a = i ∧ b = k
        · rw [if_pos e] at he
          obtain ⟨w, w1, w2⟩ := hj.snd _ _ d1 d2 he
          obtain ⟨y, y1, y2⟩ := cls_onto h hcK
          rw [e.1, e.2]
          refine ⟨y :: w, Byt.cons y1 w1, ?_⟩
          rw [LN_cons h hi y1, LN_cons h hk y1, y2]; exact w2
        · rw [if_neg e] at he
          exact hj.snd a b ha hb2 he
      · rw [es]
        by_cases e : a = i ∧ b = k
        · rw [e.1, e.2] at ht
          have := hj.cmp i k hi hk ht
          rw [hen] at this; cases this
        · rw [if_neg e]; exact hj.cmp a b ha hb2 ht
      · rw [es]
        have e : ¬ (a = i ∧ b = k) := by omega
        rw [if_neg e]; exact hj.don a b ha hb2 hlt ht
      · rw [es, if_pos ⟨rfl, rfl⟩]
        rcases Nat.lt_or_ge c' c with u | u
        · have := hq c' u ht
          rw [hen] at this; cases this
        · have : c' = c := by omega
          subst this
          exact hj.cmp _ _ d1 d2 ht
theorem apart_l5 {d : S30} (h : Dr d) (rec19 : List (List Bool) → Int → Option (List (List Bool))) (r : Nat) {i : Nat} (hi : i ≤ d.f1.length) (R : Option (List (List Bool))) (hR : ∀ y, AJ d r (i + 1) 0 y → rec19 y ((i + 1 : Nat) : Int) = R) : ∀ (m k fuel : Nat) (x : List (List Bool)), k + m = d.f1.length + 1 → m < fuel → AJ d r i k x →
    bosketref09_Apart_l5 5000 rec19 d (i : Int) fuel x (k : Int) = R
  | 0, k, fu + 1, x, hk, _, hj => by
    have hn := h.n2
    rw [bosketref09_Apart_l5.eq_2, w6 (x := (d.f1.length : Int) + 1) (by omega) (by omega), if_neg (by omega)]
    unfold bosketref09_Apart_c2
    rw [w6 (by omega) (by omega)]
    exact hR x ⟨hj.len, hj.row, hj.snd, hj.cmp, fun a b ha hb q t => hj.don a b ha hb (by omega) t⟩
  | m + 1, k, fu + 1, x, hk, hf, hj => by
    have hn := h.n2
    have hK2 := KC_le h
    rw [bosketref09_Apart_l5.eq_2, w6 (x := (d.f1.length : Int) + 1) (by omega) (by omega), if_pos (by omega)]
    exact apart_l4 h _ r hi (by omega) R (fun y hy => apart_l5 h rec19 r hi R hR m (k + 1) fu y (by omega) (by omega) hy) (KC d) 0 5000 x (by omega) (by omega) hj (fun c' hc' => by omega)
theorem apart_l6 {d : S30} (h : Dr d) (rec11 : List (List Bool) → Int → Option (List (List Bool))) (r : Nat) (hr : r ≤ 10000) (R : Option (List (List Bool))) (hR : ∀ y, AJ d (r + 1) 0 0 y → rec11 y ((r + 1 : Nat) : Int) = R) : ∀ (m i fuel : Nat) (x : List (List Bool)), i + m = d.f1.length + 1 → m < fuel → AJ d r i 0 x →
    bosketref09_Apart_l6 5000 rec11 d (r : Int) fuel x (i : Int) = R
  | 0, i, fu + 1, x, hi, _, hj => by
    have hn := h.n2
    rw [bosketref09_Apart_l6.eq_2, w6 (x := (d.f1.length : Int) + 1) (by omega) (by omega), if_neg (by omega)]
    unfold bosketref09_Apart_c1
    rw [w6 (by omega) (by omega)]
    exact hR x ⟨hj.len, hj.row, hj.snd, fun a b ha hb t => hj.don a b ha hb (by omega) t, fun a b ha hb q t => by omega⟩
  | m + 1, i, fu + 1, x, hi, hf, hj => by
    have hn := h.n2
    rw [bosketref09_Apart_l6.eq_2, w6 (x := (d.f1.length : Int) + 1) (by omega) (by omega), if_pos (by omega)]
    exact apart_l5 h _ r (by omega) R (fun y hy => apart_l6 h rec11 r hr R hR m (i + 1) fu y (by omega) (by omega) hy) (d.f1.length + 1) 0 5000 x (by omega) (by omega) hj
/-- The answer of Apart. -/
structure AP (d : S30) (x : List (List Bool)) : Prop where
  len : x.length = d.f1.length + 1
  row : ∀ a, a ≤ d.f1.length → (lget x (a : Int)).length = d.f1.length + 1
  ap : ∀ a b, a ≤ d.f1.length → b ≤ d.f1.length → (en x a b = true ↔ ∃ w, Byt w ∧ LN d a w ≠ LN d b w)
theorem apart_l7 {d : S30} (h : Dr d) : ∀ (m r fuel : Nat) (x : List (List Bool)), r + m = d.f1.length + 1 → m < fuel → AJ d r 0 0 x → ∃ y, bosketref09_Apart_l7 5000 d fuel x (r : Int) = some y ∧ AP d y
  | 0, r, fu + 1, x, hr, _, hj => by
    have hn := h.n2
    refine ⟨x, ?_, hj.len, hj.row, fun a b ha hb => ⟨hj.snd a b ha hb, fun hw => ?_⟩⟩
    · rw [bosketref09_Apart_l7.eq_2, w6 (x := (d.f1.length : Int) + 1) (by omega) (by omega), if_neg (by omega)]; rfl
    · obtain ⟨w, w1, w2, w3⟩ := apart_short h ha hb hw
      exact hj.cmp a b ha hb ⟨w, w1, by omega, w3⟩
  | m + 1, r, fu + 1, x, hr, hf, hj => by
    have hn := h.n2
    have ex : ∃ R, bosketref09_Apart_l6 5000 (bosketref09_Apart_l7 5000 d fu) d (r : Int) 5000 x (0 : Int) = R := ⟨_, rfl⟩
    -- one round makes a row of rows; the next rounds answer
    have key : ∀ y, AJ d (r + 1) 0 0 y → ∃ z, bosketref09_Apart_l7 5000 d fu y ((r + 1 : Nat) : Int) = some z ∧ AP d z := fun y hy => apart_l7 h m (r + 1) fu y (by omega) (by omega) hy
    rw [bosketref09_Apart_l7.eq_2, w6 (x := (d.f1.length : Int) + 1) (by omega) (by omega), if_pos (by omega)]
    -- all answers are one: Apart's answer is told by AP
    have uniq : ∀ y z, AP d y → AP d z → y = z := by
      intro y z hy hz
      refine List.ext_getElem (by rw [hy.len, hz.len]) fun a a1 a2 => ?_
      have ha : a ≤ d.f1.length := by have := hy.len; omega
      have ry := hy.row a ha
      have rz := hz.row a ha
      rw [lget_lt _ a a1] at ry
      rw [lget_lt _ a a2] at rz
      refine List.ext_getElem (by rw [ry, rz]) fun b b1 b2 => ?_
      have hb : b ≤ d.f1.length := by omega
      have ey := hy.ap a b ha hb
      have ez := hz.ap a b ha hb
      rw [← ez] at ey
      unfold en at ey
      rw [lget_lt _ a a1, lget_lt _ a a2, lget_lt _ b b1, lget_lt _ b b2] at ey
      exact Bool.eq_iff_iff.2 ey
    by_cases hex : ∃ y, AJ d (r + 1) 0 0 y
    · obtain ⟨y0, hy0⟩ := hex
      obtain ⟨z0, e0, p0⟩ := key y0 hy0
      refine ⟨z0, ?_, p0⟩
      exact apart_l6 h _ r (by omega) (some z0) (fun y hy => by
        obtain ⟨z, e1, p1⟩ := key y hy
        rw [e1, uniq z z0 p1 p0]) (d.f1.length + 1) 0 5000 x (by omega) (by omega) hj
    · exfalso
      have := apart_l6 h (fun _ _ => none) r (by omega) (some []) (fun y hy => absurd ⟨y, hy⟩ hex) (d.f1.length + 1) 0 5000 x (by omega) (by omega) hj
      have h2 := apart_l6 h (fun _ _ => none) r (by omega) none (fun y hy => rfl) (d.f1.length + 1) 0 5000 x (by omega) (by omega) hj
      rw [this] at h2; cases h2
theorem rmk_eq (d : S30) (k : Nat) (s : Int) : bosketref08_Mark k d s = some (mk d s) := by
  unfold bosketref08_Mark mk
  by_cases a : s < 0
  · rw [if_pos a, Option.bind_some, if_pos rfl, if_pos (.inl a)]
  · rw [if_neg a, Option.bind_some]
    by_cases b : (d.f2.length : Int) ≤ s
    · rw [decide_eq_true b, if_pos rfl, if_pos (.inr b)]
    · rw [decide_eq_false b, if_neg (by decide), if_pos ⟨by omega, by omega⟩, if_neg (by omega)]
theorem apart_l11 {d : S30} (h : Dr d) (rec54 : List (List Bool) → Int → Option (List (List Bool))) (X : List (List Bool)) (hX : X.length ≤ 2000) {i : Nat} (hi : i ≤ d.f1.length) : ∀ (m k fuel : Nat) (x : List Bool), k + m = d.f1.length + 1 → m < fuel → x.length = d.f1.length + 1 → (∀ q : Nat, q < k → lget x (q : Int) = decide (mk d (i : Int) ≠ mk d (q : Int))) →
    ∃ y : List Bool, y.length = d.f1.length + 1 ∧ (∀ q : Nat, q ≤ d.f1.length → lget y (q : Int) = decide (mk d (i : Int) ≠ mk d (q : Int))) ∧ bosketref09_Apart_l11 5000 rec54 d X (i : Int) fuel x (k : Int) = rec54 (X ++ [y]) ((i + 1 : Nat) : Int)
  | 0, k, fu + 1, x, hk, _, hx, hq => by
    have hn := h.n2
    refine ⟨x, hx, fun q q1 => hq q (by omega), ?_⟩
    rw [bosketref09_Apart_l11.eq_2, w6 (x := (d.f1.length : Int) + 1) (by omega) (by omega), if_neg (by omega)]
    unfold bosketref09_Apart_c10 bosketref09_Apart_c9
    rw [if_pos (by simp; omega), w6 (by omega) (by omega)]; rfl
  | m + 1, k, fu + 1, x, hk, hf, hx, hq => by
    have hn := h.n2
    obtain ⟨y, y1, y2, y3⟩ := apart_l11 h rec54 X hX hi m (k + 1) fu (lset x (k : Int) (decide (mk d (i : Int) ≠ mk d (k : Int)))) (by omega) (by omega) (by rw [g_len]; exact hx) (fun q q1 => by
      rw [g_lset x _ (by omega)]
      by_cases e : q = k
      · rw [if_pos e, e]
      · rw [if_neg e]; exact hq q (by omega))
    refine ⟨y, y1, y2, ?_⟩
    rw [bosketref09_Apart_l11.eq_2, w6 (x := (d.f1.length : Int) + 1) (by omega) (by omega), if_pos (by omega), rmk_eq, rmk_eq, Option.bind_some, Option.bind_some, if_pos ⟨by omega, by omega⟩, w6 (by omega) (by omega)]
    exact_mod_cast y3
theorem apart_l12 {d : S30} (h : Dr d) : ∀ (m i fuel : Nat) (X : List (List Bool)), i + m = d.f1.length + 1 → m < fuel → X.length = i → (∀ a : Nat, a < i → (lget X (a : Int)).length = d.f1.length + 1 ∧ ∀ b : Nat, b ≤ d.f1.length → en X a b = decide (mk d (a : Int) ≠ mk d (b : Int))) →
    ∃ y, bosketref09_Apart_l12 5000 d fuel X (i : Int) = some y ∧ AP d y
  | 0, i, fu + 1, X, hi, _, hX, hq => by
    have hn := h.n2
    rw [bosketref09_Apart_l12.eq_2, w6 (x := (d.f1.length : Int) + 1) (by omega) (by omega), if_neg (by omega)]
    unfold bosketref09_Apart_c8
    refine apart_l7 h (d.f1.length + 1) 0 5000 X (by omega) (by omega) ⟨by omega, fun a ha => (hq a (by omega)).1, fun a b ha hb he => ?_, fun a b ha hb ht => ?_, fun a b ha hb q t => by omega⟩
    · rw [(hq a (by omega)).2 b hb, decide_eq_true_eq] at he
      exact ⟨[], byt_nil, by rw [LN_nil h ha, LN_nil h hb]; exact he⟩
    · obtain ⟨w, w1, w2, w3⟩ := ht
      have : w = [] := List.eq_nil_of_length_eq_zero (by omega)
      subst this
      rw [LN_nil h ha, LN_nil h hb] at w3
      rw [(hq a (by omega)).2 b hb, decide_eq_true_eq]; exact w3
  | m + 1, i, fu + 1, X, hi, hf, hX, hq => by
    have hn := h.n2
    rw [bosketref09_Apart_l12.eq_2, w6 (x := (d.f1.length : Int) + 1) (by omega) (by omega), if_pos (by omega), if_pos ⟨by omega, by omega, by omega⟩]
    have et : ((d.f1.length : Int) + 1).toNat = d.f1.length + 1 := by omega
    rw [et]
    obtain ⟨y, y1, y2, y3⟩ := apart_l11 h (bosketref09_Apart_l12 5000 d fu) X (by omega) (i := i) (by omega) (d.f1.length + 1) 0 5000 (List.replicate (d.f1.length + 1) false) (by omega) (by omega) (by simp) (fun q q1 => by omega)
    have y3 : bosketref09_Apart_l11 5000 _ d X (i : Int) 5000 _ (0 : Int) = _ := y3
    rw [y3]
    refine apart_l12 h m (i + 1) fu (X ++ [y]) (by omega) (by omega) (by simp [hX]) fun a ha => ?_
    rcases Nat.lt_or_ge a i with u | u
    · have e : lget (X ++ [y]) (a : Int) = lget X (a : Int) := by rw [lget_lt _ a (by simp; omega), lget_lt _ a (by omega), List.getElem_append_left]
      have := hq a u
      unfold en at this ⊢
      rw [e]; exact this
    · have : a = i := by omega
      subst this
      have e : lget (X ++ [y]) (a : Int) = y := by
        rw [lget_lt _ a (by simp [hX])]
        rw [List.getElem_append_right (by omega)]; simp [hX]
      unfold en
      rw [e]; exact ⟨y1, y2⟩
theorem apart_eq {d : S30} (h : Dr d) : ∃ y, bosketref09_Apart 5000 d = some y ∧ AP d y :=
  apart_l12 h (d.f1.length + 1) 0 5000 [] (by omega) (by have := h.n2; omega) rfl fun a ha => by omega
end Go.Avl.T5
/- The document's Blocks. -/
namespace Go.Avl.T5
open Go Go.RowKit Go.Proofs Go.Avl
set_option linter.all false
set_option maxRecDepth 10000

theorem AP.kk {d : S30} (h : Dr d) {t : List (List Bool)} (a : AP d t) {kk : Nat → ByteArray} (k : Cut d kk) (s : Stb d kk) {i j : Nat} (hi : i ≤ d.f1.length) (hj : j ≤ d.f1.length) : en t i j = true ↔ kk i ≠ kk j := by
  rw [a.ap i j hi hj]
  constructor
  · rintro ⟨w, w1, w2⟩ e
    exact w2 ((kk_words h k s hi hj).1 e w w1)
  · intro hne
    exact Classical.byContradiction fun q => hne ((kk_words h k s hi hj).2 fun w hw => Classical.byContradiction fun u => q ⟨w, hw, u⟩)
theorem bk_l5 {d : S30} (h : Dr d) {t : List (List Bool)} (ha : AP d t) {kk : Nat → ByteArray} (k : Cut d kk) (s : Stb d kk) (rec10 : List Int → Int → Int → Option (List Int)) (X : List Int) {i : Nat} (hi : i < d.f1.length) (hX : X.length = i) (hq : ∀ j : Nat, j < i → lget X (j : Int) = (ck kk j : Int)) : ∀ (m c fuel : Nat), c + m = i → m + 1 < fuel → (∀ j, j < c → kk j ≠ kk i) →
    bosketref09_Blocks_l5 5000 rec10 t X (nc kk i : Int) (i : Int) fuel (-1) (c : Int) = rec10 (X ++ [(ck kk i : Int)]) (nc kk (i + 1) : Int) ((i + 1 : Nat) : Int)
  | 0, c, fu + 1, hc, _, hd => by
    have hn := h.n2
    obtain rfl : c = i := by omega
    have hr : rc kk c = c := rc_uniq kk rfl hd
    have hnl := nc_le kk c
    have e1 : nc kk (c + 1) = nc kk c + 1 := by rw [nc, if_pos hr]
    have e2 : ck kk c = nc kk c := by unfold ck; rw [hr]
    rw [bosketref09_Blocks_l5.eq_2, if_neg (by omega), Option.bind_some, if_neg (by decide)]
    unfold bosketref09_Blocks_c3
    rw [if_pos (by omega)]
    unfold bosketref09_Blocks_c2 bosketref09_Blocks_c1
    rw [if_pos (by simp; omega), w6 (x := (nc kk c : Int) + 1) (by omega) (by omega), w6 (by omega) (by omega), e1, e2]; rfl
  | m + 1, c, fu + 1, hc, hf, hd => by
    have hn := h.n2
    have hlen := ha.len
    have hrow := ha.row i (by omega)
    have hci : c < i := by omega
    have hap := ha.kk h k s (i := i) (j := c) (by omega) (by omega)
    rw [bosketref09_Blocks_l5.eq_2, if_pos (by omega), Option.bind_some, decide_eq_true (by omega), if_pos rfl, if_pos ⟨by omega, by omega⟩, if_pos ⟨by omega, by omega⟩]
    unfold bosketref09_Blocks_c4
    rw [w6 (x := (c : Int) + 1) (by omega) (by omega)]
    cases hb : lget (lget t (i : Int)) (c : Int) with
    | true =>
      rw [if_neg (by decide)]
      have hne := hap.1 hb
      have := bk_l5 h ha k s rec10 X hi hX hq m (c + 1) fu (by omega) (by omega) fun j hj => by
        by_cases e : j = c
        · rw [e]; exact fun q => hne q.symm
        · exact hd j (by omega)
      exact_mod_cast this
    | false =>
      rw [if_pos (by decide), if_pos ⟨by omega, by omega⟩, hq c hci]
      have he : kk i = kk c := Classical.byContradiction fun q => by
        have := hap.2 q
        have hb' : en t i c = false := hb
        rw [hb'] at this; cases this
      have hr : rc kk i = c := rc_uniq kk he.symm fun j hj => hd j hj
      have e1 : nc kk (i + 1) = nc kk i := by rw [nc, if_neg (by omega)]; rfl
      have e2 : ck kk c = ck kk i := ck_same kk he.symm
      have hck := ck_le kk i
      obtain ⟨fv, rfl⟩ : ∃ fv, fu = fv + 1 := ⟨fu - 1, by omega⟩
      have fin : bosketref09_Blocks_c3 5000 rec10 X (nc kk i : Int) (i : Int) (ck kk i : Int) = rec10 (X ++ [(ck kk i : Int)]) (nc kk (i + 1) : Int) ((i + 1 : Nat) : Int) := by
        unfold bosketref09_Blocks_c3
        rw [if_neg (by omega)]
        unfold bosketref09_Blocks_c2 bosketref09_Blocks_c1
        rw [if_pos (by simp; omega), w6 (by omega) (by omega), e1]; rfl
      rw [e2, bosketref09_Blocks_l5.eq_2]
      by_cases q : (c : Int) + 1 < (i : Int)
      · rw [if_pos q, Option.bind_some, decide_eq_false (by omega), if_neg (by decide)]; exact fin
      · rw [if_neg q, Option.bind_some, if_neg (by decide)]; exact fin
theorem bk_l6 {d : S30} (h : Dr d) {t : List (List Bool)} (ha : AP d t) {kk : Nat → ByteArray} (k : Cut d kk) (s : Stb d kk) : ∀ (m i fuel : Nat) (X : List Int), i + m = d.f1.length → m < fuel → X.length = i → (∀ j : Nat, j < i → lget X (j : Int) = (ck kk j : Int)) →
    ∃ y, bosketref09_Blocks_l6 5000 d t fuel X (nc kk i : Int) (i : Int) = some y ∧ y.length = d.f1.length ∧ ∀ j : Nat, j < d.f1.length → lget y (j : Int) = (ck kk j : Int)
  | 0, i, fu + 1, X, hi, _, hX, hq => ⟨X, by rw [bosketref09_Blocks_l6.eq_2, if_neg (by omega)]; rfl, by omega, fun j hj => hq j (by omega)⟩
  | m + 1, i, fu + 1, X, hi, hf, hX, hq => by
    have hn := h.n2
    rw [bosketref09_Blocks_l6.eq_2, if_pos (by omega)]
    have := bk_l5 h ha k s (bosketref09_Blocks_l6 5000 d t fu) X (i := i) (by omega) hX hq i 0 5000 (by omega) (by omega) (fun j hj => by omega)
    have this : bosketref09_Blocks_l5 5000 _ t X (nc kk i : Int) (i : Int) 5000 (-1) (0 : Int) = _ := this
    rw [this]
    refine bk_l6 h ha k s m (i + 1) fu (X ++ [(ck kk i : Int)]) (by omega) (by omega) (by simp [hX]) fun j hj => ?_
    rcases Nat.lt_or_ge j i with u | u
    · rw [lget_pre (by omega)]; exact hq j u
    · have : j = i := by omega
      subst this
      rw [lget_lt _ j (by simp [hX]), List.getElem_append_right (by omega)]; simp [hX]
theorem rblocks_eq {d : S30} (h : Dr d) {kk : Nat → ByteArray} (k : Cut d kk) (s : Stb d kk) : ∃ y, bosketref09_Blocks 5000 d = some y ∧ y.length = d.f1.length ∧ ∀ j : Nat, j < d.f1.length → lget y (j : Int) = (ck kk j : Int) := by
  obtain ⟨t, t1, t2⟩ := apart_eq h
  obtain ⟨y, y1, y2⟩ := bk_l6 h t2 k s d.f1.length 0 5000 [] (by omega) (by have := h.n2; omega) rfl (fun j hj => by omega)
  refine ⟨y, ?_, y2⟩
  unfold bosketref09_Blocks
  rw [t1, Option.bind_some]
  exact y1
theorem rsame_ints {a : List Int} (hl : a.length ≤ 1000) : ∀ (m i fuel : Nat), i + m = a.length → m < fuel → bosketref01_Same_l1 5000 a a fuel (i : Int) = some true
  | 0, i, fu + 1, hi, _ => by rw [bosketref01_Same_l1.eq_2, if_neg (by omega)]; rfl
  | m + 1, i, fu + 1, hi, hf => by
    have ih := rsame_ints hl m (i + 1) fu (by omega) (by omega)
    rw [bosketref01_Same_l1.eq_2, if_pos (by omega), if_pos ⟨by omega, by omega⟩, if_pos ⟨by omega, by omega⟩, if_neg (by simp), w6 (by omega) (by omega)]
    exact_mod_cast ih
end Go.Avl.T5
/- MiniBlocks: the plain law. -/
namespace Go.Avl.T5
open Go Go.RowKit Go.Proofs Go.Avl
set_option linter.all false
set_option maxRecDepth 10000

theorem awake09b : bosketlaw09_awake 5000 = some true := by decide +kernel
theorem bosketlaw09_MiniBlocks_true (a0 : S30) (h0 : wf30 a0) : ∃ k, bosketlaw09_MiniBlocks k a0 = some true := by
  refine ⟨5000, ?_⟩
  obtain ⟨b, b1, b2⟩ := small_some a0 (Nat.le_refl 5000)
  unfold bosketlaw09_MiniBlocks
  rw [awake09b, Option.bind_some, if_neg (by decide), b1, Option.bind_some]
  cases b with
  | false => rfl
  | true =>
    obtain ⟨s1, s2, s3⟩ := b2 rfl
    have hv : VB a0.f0 := bytes_of h0
    have hr := rdright_eq hv s3 (by omega)
    have hd := dright_eq hv s3 (by omega)
    rw [if_neg (by decide), hr, Option.bind_some]
    cases hb : rgB a0 with
    | false =>
      rw [hb] at hd
      have e1 : ∃ x, mini_Of 5000 a0 = some (x, 1) := by
        unfold mini_Of
        rw [hd, Option.bind_some, if_pos (by decide)]
        exact ⟨_, rfl⟩
      have e2 : mini_Blocks 5000 a0 = some [] := by
        unfold mini_Blocks
        rw [hd, Option.bind_some, if_pos (by decide)]
      obtain ⟨x, e1⟩ := e1
      rw [if_pos (by decide), e1, Option.bind_some, e2, Option.bind_some]; rfl
    | true =>
      have h : Dr a0 := (rgB_iff hv (by omega)).1 hb
      have hn := h.n2
      obtain ⟨kk, x, c1, c2, c3, c4⟩ := Blocks_eq h h.right
      obtain ⟨y, y1, y2, y3⟩ := rblocks_eq h c1 c2
      rw [if_neg (by decide), c4, Option.bind_some, y1, Option.bind_some, lcut0]
      have e : x.take a0.f1.length = y := by
        have hl := c3.1
        refine List.ext_getElem (by rw [List.length_take, y2]; omega) fun i i1 i2 => ?_
        have h1 := y3 i (by omega)
        have h2 := (c3.2 i (by omega)).1
        rw [lget_lt y i i2] at h1
        rw [lget_lt x i (by omega)] at h2
        rw [List.getElem_take, h2, h1]
      rw [e]
      have := rsame_ints (a := y) (by omega) y.length 0 5000 (by omega) (by omega)
      unfold bosketref01_Same
      rw [if_neg (by simp)]
      have this : bosketref01_Same_l1 5000 y y 5000 (0 : Int) = some true := this
      rw [this]; rfl
end Go.Avl.T5
