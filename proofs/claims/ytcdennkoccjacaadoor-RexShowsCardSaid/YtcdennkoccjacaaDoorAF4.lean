/- Parts: TEf15, TEf35, TEf32, TEf45, TEf33, TEf46, TEf34, TEf22, TEf23. -/
import Derived.Test.YtcdennkoccjacaaDoorAF1
import Derived.Test.YtcdennkoccjacaaDoorAF3
/- bosket/bosketref04.Parts; printed by avmain.py. -/
namespace Go.Avl.TE
open Go Go.RowKit Go.Proofs Go.Avl
set_option linter.unusedVariables false
set_option maxRecDepth 100000
set_option maxHeartbeats 4000000
attribute [local irreducible] AW AO AQ Spec SpecH Calm

def bosketref04_Parts_c0 (k : Nat) (x3 : (List (List S40))) : Option (List (List S40)) :=
  some (x3)
def bosketref04_Parts_l1 (k : Nat) (p0 : (List S40)) : Nat → (List (List S40)) → Int → Int → Option (List (List S40))
  | 0, _, _, _ => none
  | j + 1, x7, x8, x9 =>
    if (0 : Int) < x9 then (bosketref04_Start k p0 (w64 (x8 - (1 : Int)))).bind fun t13 =>
    if 0 ≤ t13 ∧ t13 ≤ x8 ∧ x8 ≤ (p0.length : Int) then if (([(lcut p0 t13 x8)] : List (List S40)) ++ x7).length * 24 ≤ 140737488355328 then (bosketref04_Parts_l1 k p0 j) (([(lcut p0 t13 x8)] : List (List S40)) ++ x7) t13 (w64 (x9 - (1 : Int)))
    else none
    else none
    else bosketref04_Parts_c0 k x7
def bosketref04_Parts (k : Nat) (p0 : (List S40)) : Option (List (List S40)) :=
  if 0 ≤ (w64 ((p0.length : Int) - (1 : Int))) ∧ (w64 ((p0.length : Int) - (1 : Int))) < (p0.length : Int) then (bosketref04_Takes k ((lget p0 (w64 ((p0.length : Int) - (1 : Int)))).f0)).bind fun t5 =>
  bosketref04_Parts_l1 k p0 k ([] : List (List S40)) (w64 ((p0.length : Int) - (1 : Int))) t5
  else none
theorem bosketref04_Parts_spec {k : Nat} {p0 : (List S40)} {r : (List (List S40))} (h : bosketref04_Parts k p0 = some r) : Spec Tryd.prog 15 [(.fz 5 (p0.map e40))] (e41 r) := by
  rw [bosketref04_Parts.eq_1] at h
  refine Spec.intro (res := [.tmp 2]) Tryd.func15 rfl rfl rfl (Nat.le_of_ble_eq_true rfl) ?_
  refine AW.sr ?_
  refine AO.c (Calm.assign rfl rfl) ?_
  refine AO.nK [0] ?_
  refine AW.sr ?_
  refine AO.c (Calm.move rfl rfl) ?_
  refine AO.c (Calm.lenL rfl rfl Tryd.underlying23) ?_
  refine AO.c (x := eI64 (w64 ((p0.length : Int) - (1 : Int)))) (Calm.int rfl rfl rfl rfl) ?_
  refine AO.c (Calm.assign rfl rfl) ?_
  refine AO.nK [0, 3] ?_
  refine AW.sr ?_
  refine AO.c (Calm.assign rfl rfl) ?_
  refine AO.nK [0, 3, 4] ?_
  refine AW.sr ?_
  refine AO.c (Calm.move rfl rfl) ?_
  refine AO.c (Calm.assign rfl rfl) ?_
  refine AO.nK [0, 3, 4, 5] ?_
  refine AW.seq_mid (fun ρ H => ∃ (n2 : Nat) (x3 : (List (List S40))), ρ = [(4, (.own n2 0 x3.length))] ∧ H = [(n2, (.mem (.ar 1 (x3.map e23))))] ∧ bosketref04_Parts_c0 k x3 = some r) ?_ ?_
  ·refine AW.sr ?_
   refine AO.c (Calm.move rfl rfl) ?_
   refine AO.c (Calm.move rfl rfl) ?_
   obtain ⟨hg4, h⟩ := of_guard h
   refine AO.c (Calm.idxL (f := e40) rfl rfl rfl hg4 Tryd.underlying23 sz40) ?_
   refine AO.c (Calm.fldRp rfl rfl Tryd.underlying40 rfl sz3 (At.cast (At.fld0 At.here) rfl)) ?_
   refine AO.c (Calm.loadRp rfl rfl ag3 sz3) ?_
   obtain ⟨t5, et5, h⟩ := of_bind h
   refine AO.callS [(eI64 ((lget p0 (w64 ((p0.length : Int) - (1 : Int)))).f0))] (eI64 t5) 17 rfl (by decide) ok19 rfl rfl rfl ⟨rfl, rfl, trivial⟩ (bosketref04_Takes_spec et5) ?_
   refine AO.c (Calm.assign rfl rfl) ?_
   refine AO.nK [0, 4, 5, 6] ?_
   refine AW.block ?_
   refine AW.nilOwn 4 1 rfl fun n18 => ?_
   refine AW.wK [0, 4, 5, 6] ?_
   refine AW.loop (fun kq ρ H => ∃ (n6 : Nat) (x7 : (List (List S40))) (x8 : Int) (x9 : Int), ρ = [(0, (.fz 5 (p0.map e40))), (4, (.own n6 0 x7.length)), (5, (eI64 x8)), (6, (eI64 x9))] ∧ H = [(n6, (.mem (.ar 1 (x7.map e23))))] ∧ bosketref04_Parts_l1 k p0 kq x7 x8 x9 = some r) k ⟨n18, ([] : List (List S40)), (w64 ((p0.length : Int) - (1 : Int))), t5, rfl, rfl, h⟩ ?_
   rintro kq11 _ _ ⟨n6, x7, x8, x9, rfl, rfl, h⟩
   cases kq11 with
   | zero => rw [bosketref04_Parts_l1.eq_1] at h; cases h
   | succ kq11 =>
   rw [bosketref04_Parts_l1.eq_2] at h
   generalize hrec10 : bosketref04_Parts_l1 k p0 kq11 = rec10 at h
   refine AW.seq ?_
   refine AW.sr ?_
   refine AO.c (Calm.move rfl rfl) ?_
   refine AO.c (x := eBool (decide ((0 : Int) < x9))) (Calm.int rfl rfl rfl rfl) ?_
   refine AO.nK [0, 4, 5, 6, 19] ?_
   rcases of_ite h with ⟨hc12, h⟩ | ⟨hc12, h⟩
   ·refine AW.condP _ rfl hc12 ?_
    refine AW.sK [0, 4, 5, 6] ?_
    refine AW.seq ?_
    refine AW.block ?_
    refine AW.sr ?_
    refine AO.c (Calm.move rfl rfl) ?_
    refine AO.c (Calm.move rfl rfl) ?_
    refine AO.c (x := eI64 (w64 (x8 - (1 : Int)))) (Calm.int rfl rfl rfl rfl) ?_
    obtain ⟨t13, et13, h⟩ := of_bind h
    refine AO.callS [(.fz 5 (p0.map e40)), (eI64 (w64 (x8 - (1 : Int))))] (eI64 t13) 25 rfl (by decide) ok17 rfl rfl rfl ⟨rfl, rfl, rfl, rfl, trivial⟩ (bosketref04_Start_spec et13) ?_
    refine AO.c (Calm.assign rfl rfl) ?_
    refine AO.nK [0, 4, 5, 6, 7] ?_
    refine AW.sr ?_
    refine AO.c (Calm.move rfl rfl) ?_
    refine AO.c (Calm.move rfl rfl) ?_
    refine AO.c (Calm.move rfl rfl) ?_
    obtain ⟨hg14, h⟩ := of_guard h
    refine AO.c (x := .fz 5 ((lcut p0 t13 x8).map e40)) (Calm.sliceL rfl rfl rfl rfl hg14 Tryd.underlying23 sz40) ?_
    refine AO.lit (Z := (.fl (.slice none 0 0))) (xs := (([(lcut p0 t13 x8)] : List (List S40)).map e23)) (qs := [(0, (.fz 5 ((lcut p0 t13 x8).map e40)))]) rfl 30 rfl (by decide) rfl ⟨rfl, rfl, rfl, trivial⟩ Tryd.underlying41 sz23 zr23 lay23 rfl (by decide) (litOK (z := 1) [(.fz 5 ((lcut p0 t13 x8).map e40))] rfl ⟨⟨rfl, rfl⟩, trivial⟩) rfl fun n15 => ?_
    refine AO.c (Calm.move rfl rfl) ?_
    obtain ⟨hg17, h⟩ := of_guard h
    refine AO.appendL (l := ([(lcut p0 t13 x8)] : List (List S40))) (m := x7) 0 32 rfl (by decide) rfl rfl rfl rfl rfl (Src.ownL (f := e23) (l := x7) 1 rfl) Tryd.underlying41 Tryd.underlying41 sz23 by23 zr23 rfl hg17 (by decide) fun n16 => ?_
    refine AO.c (Calm.assign rfl rfl) ?_
    refine AO.nH [0, 4, 6, 7] (H' := [(n16, (.mem (.ar 1 ((([(lcut p0 t13 x8)] : List (List S40)) ++ x7).map e23))))]) (Sub.cons 0 rfl (Sub.nil _)) ?_
    refine AW.reg ?_
    refine AO.c (Calm.move rfl rfl) ?_
    refine AO.c (Calm.assign rfl rfl) ?_
    refine AO.nK [0, 4, 5, 6] ?_
    refine AW.reg ?_
    refine AO.c (Calm.move rfl rfl) ?_
    refine AO.c (x := eI64 (w64 (x9 - (1 : Int)))) (Calm.int rfl rfl rfl rfl) ?_
    refine AO.c (Calm.assign rfl rfl) ?_
    refine AO.nK [0, 4, 5, 6] ?_
    exact ⟨kq11, Nat.lt_succ_self _, n16, (([(lcut p0 t13 x8)] : List (List S40)) ++ x7), t13, (w64 (x9 - (1 : Int))), rfl, rfl, by rw [hrec10]; exact h⟩
   ·refine AW.condN _ rfl hc12 ?_
    refine AW.eK [4] ?_
    exact ⟨n6, x7, rfl, rfl, h⟩
  ·rintro _ _ ⟨n2, x3, rfl, rfl, h⟩
   rw [bosketref04_Parts_c0.eq_1] at h
   refine AW.sr ?_
   refine AO.c (Calm.move rfl rfl) ?_
   refine AO.c (Calm.assign rfl rfl) ?_
   refine AO.nK [2] ?_
   refine AW.freezeS 0 [(2, (.fz 1 (x3.map e23)))] rfl ⟨fz_all rfl, trivial⟩ ?_
   refine AW.rK [2] ?_
   have hr := Option.some.inj h
   subst hr
   exact ⟨[(.fz 1 (x3.map e23))], ⟨rfl, rfl, trivial⟩, rfl⟩
end Go.Avl.TE
/- bosket/bosketref02.Has; printed by avmain.py. -/
namespace Go.Avl.TE
open Go Go.RowKit Go.Proofs Go.Avl
set_option linter.unusedVariables false
set_option maxRecDepth 100000
set_option maxHeartbeats 4000000
attribute [local irreducible] AW AO AQ Spec SpecH Calm

def bosketref02_Has_c0 (k : Nat) (x5 : Int) : Option Bool :=
  some (decide ((x5.tmod (2 : Int)) = (1 : Int)))
def bosketref02_Has_l1 (k : Nat) (p1 : Int) : Nat → Int → Int → Option Bool
  | 0, _, _ => none
  | j + 1, x6, x7 =>
    if x7 < (p1.tmod (64 : Int)) then (bosketref02_Has_l1 k p1 j) (IntKind.u64.wrap (x6.tdiv (2 : Int))) (w64 (x7 + (1 : Int)))
    else bosketref02_Has_c0 k x6
def bosketref02_Has (k : Nat) (p0 : (Vector Int 4)) (p1 : Int) : Option Bool :=
  if 0 ≤ (IntKind.i64.wrap (p1.tdiv (64 : Int))) ∧ (IntKind.i64.wrap (p1.tdiv (64 : Int))) < (4 : Int) then bosketref02_Has_l1 k p1 k (vget p0 (IntKind.i64.wrap (p1.tdiv (64 : Int)))) (0 : Int)
  else none
theorem bosketref02_Has_spec {k : Nat} {p0 : (Vector Int 4)} {p1 : Int} {r : Bool} (h : bosketref02_Has k p0 p1 = some r) : Spec Tryd.prog 35 [(.ar 1 (p0.toList.map eU64)), (eI64 p1)] (eBool r) := by
  rw [bosketref02_Has.eq_1] at h
  refine Spec.intro (res := [.tmp 4]) Tryd.func35 rfl rfl rfl (Nat.le_of_ble_eq_true rfl) ?_
  refine AW.sr ?_
  refine AO.box rfl 2 rfl (by decide) rfl rfl rfl fun n3 => ?_
  refine AO.c (Calm.assign rfl rfl) ?_
  refine AO.nK [1, 2] ?_
  refine AW.sr ?_
  refine AO.c (Calm.move rfl rfl) ?_
  refine AO.c (x := eI64 (IntKind.i64.wrap (p1.tdiv (64 : Int)))) (Calm.quo rfl rfl rfl (by decide)) ?_
  obtain ⟨hg4, h⟩ := of_guard h
  refine AO.c (Calm.idxP rfl rfl rfl hg4 Tryd.underlying38 sz36) ?_
  refine AO.c (Calm.load 0 rfl rfl rfl (At.cast (At.vidx (IntKind.i64.wrap (p1.tdiv (64 : Int))) hg4.1 hg4.2 At.here) (by omega)) ag36 sz36) ?_
  refine AO.c (Calm.assign rfl rfl) ?_
  refine AO.nH [1, 5] (H' := []) (Sub.nil _) ?_
  refine AW.seq_mid (fun ρ H => ∃ (x5 : Int), ρ = [(5, (eU64 x5))] ∧ H = [] ∧ bosketref02_Has_c0 k x5 = some r) ?_ ?_
  ·refine AW.sr ?_
   refine AO.c (Calm.assign rfl rfl) ?_
   refine AO.nK [1, 5, 6] ?_
   refine AW.block ?_
   refine AW.wK [1, 5, 6] ?_
   refine AW.loop (fun kq ρ H => ∃ (x6 : Int) (x7 : Int), ρ = [(1, (eI64 p1)), (5, (eU64 x6)), (6, (eI64 x7))] ∧ H = [] ∧ bosketref02_Has_l1 k p1 kq x6 x7 = some r) k ⟨(vget p0 (IntKind.i64.wrap (p1.tdiv (64 : Int)))), (0 : Int), rfl, rfl, h⟩ ?_
   rintro kq9 _ _ ⟨x6, x7, rfl, rfl, h⟩
   cases kq9 with
   | zero => rw [bosketref02_Has_l1.eq_1] at h; cases h
   | succ kq9 =>
   rw [bosketref02_Has_l1.eq_2] at h
   generalize hrec8 : bosketref02_Has_l1 k p1 kq9 = rec8 at h
   refine AW.seq ?_
   refine AW.sr ?_
   refine AO.c (Calm.move rfl rfl) ?_
   refine AO.c (Calm.move rfl rfl) ?_
   refine AO.c (x := eI64 (p1.tmod (64 : Int))) (Calm.rem rfl rfl rfl (by decide)) ?_
   refine AO.c (x := eBool (decide (x7 < (p1.tmod (64 : Int))))) (Calm.int rfl rfl rfl rfl) ?_
   refine AO.nK [1, 5, 6, 14] ?_
   rcases of_ite h with ⟨hc10, h⟩ | ⟨hc10, h⟩
   ·refine AW.condP _ rfl hc10 ?_
    refine AW.sK [1, 5, 6] ?_
    refine AW.seq ?_
    refine AW.block ?_
    refine AW.reg ?_
    refine AO.c (Calm.move rfl rfl) ?_
    refine AO.c (x := eU64 (IntKind.u64.wrap (x6.tdiv (2 : Int)))) (Calm.quo rfl rfl rfl (by decide)) ?_
    refine AO.c (Calm.assign rfl rfl) ?_
    refine AO.nK [1, 5, 6] ?_
    refine AW.reg ?_
    refine AO.c (Calm.move rfl rfl) ?_
    refine AO.c (x := eI64 (w64 (x7 + (1 : Int)))) (Calm.int rfl rfl rfl rfl) ?_
    refine AO.c (Calm.assign rfl rfl) ?_
    refine AO.nK [1, 5, 6] ?_
    exact ⟨kq9, Nat.lt_succ_self _, (IntKind.u64.wrap (x6.tdiv (2 : Int))), (w64 (x7 + (1 : Int))), rfl, rfl, by rw [hrec8]; exact h⟩
   ·refine AW.condN _ rfl hc10 ?_
    refine AW.eK [5] ?_
    exact ⟨x6, rfl, rfl, h⟩
  ·rintro _ _ ⟨x5, rfl, rfl, h⟩
   rw [bosketref02_Has_c0.eq_1] at h
   refine AW.sr ?_
   refine AO.c (Calm.move rfl rfl) ?_
   refine AO.c (x := eU64 (x5.tmod (2 : Int))) (Calm.rem rfl rfl rfl (by decide)) ?_
   refine AO.c (x := eBool (decide ((x5.tmod (2 : Int)) = (1 : Int)))) (Calm.int rfl rfl rfl rfl) ?_
   refine AO.c (Calm.assign rfl rfl) ?_
   refine AO.nK [4] ?_
   refine AW.rK [4] ?_
   have hr := Option.some.inj h
   subst hr
   exact ⟨[(eBool (decide ((x5.tmod (2 : Int)) = (1 : Int))))], ⟨rfl, rfl, trivial⟩, rfl⟩
end Go.Avl.TE
/- bosket/bosketref02.List; printed by avmain.py. -/
namespace Go.Avl.TE
open Go Go.RowKit Go.Proofs Go.Avl
set_option linter.unusedVariables false
set_option maxRecDepth 100000
set_option maxHeartbeats 4000000
attribute [local irreducible] AW AO AQ Spec SpecH Calm

def bosketref02_List_c0 (k : Nat) (x4 : (List Int)) : Option (List Int) :=
  some (x4)
def bosketref02_List_c1 (k : Nat) (rec8 : ((List Int) → Int → Option (List Int))) (x7 : Int) (x12 : (List Int)) : Option (List Int) :=
  rec8 x12 (w64 (x7 + (1 : Int)))
def bosketref02_List_l2 (k : Nat) (p0 : (Vector Int 4)) : Nat → (List Int) → Int → Option (List Int)
  | 0, _, _ => none
  | j + 1, x6, x7 =>
    if x7 < (256 : Int) then (bosketref02_Has k p0 x7).bind fun t13 =>
    if t13 = true then if (x6 ++ ([(w8 x7)] : List Int)).length * 1 ≤ 140737488355328 then bosketref02_List_c1 k (bosketref02_List_l2 k p0 j) x7 (x6 ++ ([(w8 x7)] : List Int))
    else none
    else bosketref02_List_c1 k (bosketref02_List_l2 k p0 j) x7 x6
    else bosketref02_List_c0 k x6
def bosketref02_List (k : Nat) (p0 : (Vector Int 4)) : Option (List Int) :=
  bosketref02_List_l2 k p0 k ([] : List Int) (0 : Int)
theorem bosketref02_List_spec {k : Nat} {p0 : (Vector Int 4)} {r : (List Int)} (h : bosketref02_List k p0 = some r) : Spec Tryd.prog 32 [(.ar 1 (p0.toList.map eU64))] (e60 r) := by
  rw [bosketref02_List.eq_1] at h
  refine Spec.intro (res := [.tmp 2]) Tryd.func32 rfl rfl rfl (Nat.le_of_ble_eq_true rfl) ?_
  refine AW.sr ?_
  refine AO.box rfl 1 rfl (by decide) rfl rfl rfl fun n2 => ?_
  refine AO.c (Calm.assign rfl rfl) ?_
  refine AO.nK [1] ?_
  refine AW.sr ?_
  refine AO.c (Calm.assign rfl rfl) ?_
  refine AO.nK [1, 3] ?_
  refine AW.seq_mid (fun ρ H => ∃ (n3 : Nat) (x4 : (List Int)), ρ = [(3, (.own n3 0 x4.length))] ∧ H = [(n3, (.mem (.ar 1 (x4.map eU8))))] ∧ bosketref02_List_c0 k x4 = some r) ?_ ?_
  ·refine AW.sr ?_
   refine AO.c (Calm.assign rfl rfl) ?_
   refine AO.nK [1, 3, 4] ?_
   refine AW.block ?_
   refine AW.nilOwn 3 1 rfl fun n18 => ?_
   refine AW.wH [1, 3, 4] (H' := [(n2, (.mem (.ar 1 (p0.toList.map eU64)))), (n18, (.mem (.ar 1 (([] : List Int).map eU8))))]) (Sub.cons 1 rfl (Sub.cons 0 rfl (Sub.nil _))) ?_
   refine AW.loop (fun kq ρ H => ∃ (n5 : Nat) (x6 : (List Int)) (x7 : Int), ρ = [(1, (.ptr n2 0)), (3, (.own n5 0 x6.length)), (4, (eI64 x7))] ∧ H = [(n2, (.mem (.ar 1 (p0.toList.map eU64)))), (n5, (.mem (.ar 1 (x6.map eU8))))] ∧ bosketref02_List_l2 k p0 kq x6 x7 = some r) k ⟨n18, ([] : List Int), (0 : Int), rfl, rfl, h⟩ ?_
   rintro kq9 _ _ ⟨n5, x6, x7, rfl, rfl, h⟩
   cases kq9 with
   | zero => rw [bosketref02_List_l2.eq_1] at h; cases h
   | succ kq9 =>
   rw [bosketref02_List_l2.eq_2] at h
   generalize hrec8 : bosketref02_List_l2 k p0 kq9 = rec8 at h
   refine AW.seq ?_
   refine AW.sr ?_
   refine AO.c (Calm.move rfl rfl) ?_
   refine AO.c (x := eBool (decide (x7 < (256 : Int)))) (Calm.int rfl rfl rfl rfl) ?_
   refine AO.nK [1, 3, 4, 6] ?_
   rcases of_ite h with ⟨hc10, h⟩ | ⟨hc10, h⟩
   ·refine AW.condP _ rfl hc10 ?_
    refine AW.sK [1, 3, 4] ?_
    refine AW.seq_mid (fun ρ H => ∃ (n11 : Nat) (x12 : (List Int)), ρ = [(1, (.ptr n2 0)), (3, (.own n11 0 x12.length)), (4, (eI64 x7))] ∧ H = [(n2, (.mem (.ar 1 (p0.toList.map eU64)))), (n11, (.mem (.ar 1 (x12.map eU8))))] ∧ bosketref02_List_c1 k rec8 x7 x12 = some r) ?_ ?_
    ·refine AW.block ?_
     refine AW.sr ?_
     refine AO.c (Calm.load 0 rfl rfl rfl (At.cast At.here rfl) ag38 (by rw [sz38]; simp [AV.size])) ?_
     refine AO.c (Calm.move rfl rfl) ?_
     obtain ⟨t13, et13, h⟩ := of_bind h
     refine AO.callS [(.ar 1 (p0.toList.map eU64)), (eI64 x7)] (eBool t13) 11 rfl (by decide) ok35 rfl rfl rfl ⟨rfl, rfl, rfl, rfl, trivial⟩ (bosketref02_Has_spec et13) ?_
     refine AO.nK [1, 3, 4, 11] ?_
     rcases of_ite h with ⟨hc14, h⟩ | ⟨hc14, h⟩
     ·refine AW.condT' _ rfl hc14 ?_
      refine AW.reg ?_
      refine AO.c (Calm.move rfl rfl) ?_
      refine AO.c (Calm.move rfl rfl) ?_
      refine AO.c (x := eU8 (w8 x7)) (Calm.conv rfl rfl Tryd.underlying3 Tryd.underlying5) ?_
      refine AO.lit (Z := (eU8 (0 : Int))) (xs := (([(w8 x7)] : List Int).map eU8)) (qs := [(0, (eU8 (w8 x7)))]) rfl 15 rfl (by decide) rfl ⟨rfl, rfl, rfl, trivial⟩ Tryd.underlying60 sz5 zr5 lay5 rfl (by decide) (litOK (z := 1) [(eU8 (w8 x7))] rfl ⟨⟨rfl, rfl⟩, trivial⟩) rfl fun n15 => ?_
      obtain ⟨hg17, h⟩ := of_guard h
      refine AO.appendL (l := x6) (m := ([(w8 x7)] : List Int)) 2 16 rfl (by decide) rfl rfl rfl rfl rfl (Src.ownL (f := eU8) (l := ([(w8 x7)] : List Int)) 0 rfl) Tryd.underlying60 Tryd.underlying60 sz5 by5 zr5 rfl hg17 (by decide) fun n16 => ?_
      refine AO.c (Calm.assign rfl rfl) ?_
      refine AO.nH [1, 3, 4] (H' := [(n2, (.mem (.ar 1 (p0.toList.map eU64)))), (n16, (.mem (.ar 1 ((x6 ++ ([(w8 x7)] : List Int)).map eU8))))]) (Sub.cons 1 rfl (Sub.cons 1 rfl (Sub.nil _))) ?_
      exact ⟨n16, (x6 ++ ([(w8 x7)] : List Int)), rfl, rfl, h⟩
     ·refine AW.condF' _ rfl hc14 ?_
      refine AW.sK [1, 3, 4] ?_
      exact ⟨n5, x6, rfl, rfl, h⟩
    ·rintro _ _ ⟨n11, x12, rfl, rfl, h⟩
     rw [bosketref02_List_c1.eq_1] at h
     refine AW.reg ?_
     refine AO.c (Calm.move rfl rfl) ?_
     refine AO.c (x := eI64 (w64 (x7 + (1 : Int)))) (Calm.int rfl rfl rfl rfl) ?_
     refine AO.c (Calm.assign rfl rfl) ?_
     refine AO.nK [1, 3, 4] ?_
     exact ⟨kq9, Nat.lt_succ_self _, n11, x12, (w64 (x7 + (1 : Int))), rfl, rfl, by rw [hrec8]; exact h⟩
   ·refine AW.condN _ rfl hc10 ?_
    refine AW.eH [3] (H' := [(n5, (.mem (.ar 1 (x6.map eU8))))]) (Sub.cons 1 rfl (Sub.nil _)) ?_
    exact ⟨n5, x6, rfl, rfl, h⟩
  ·rintro _ _ ⟨n3, x4, rfl, rfl, h⟩
   rw [bosketref02_List_c0.eq_1] at h
   refine AW.sr ?_
   refine AO.c (Calm.move rfl rfl) ?_
   refine AO.c (Calm.assign rfl rfl) ?_
   refine AO.nK [2] ?_
   refine AW.freezeS 0 [(2, (.fz 1 (x4.map eU8)))] rfl ⟨fz_all rfl, trivial⟩ ?_
   refine AW.rK [2] ?_
   have hr := Option.some.inj h
   subst hr
   exact ⟨[(.fz 1 (x4.map eU8))], ⟨rfl, rfl, trivial⟩, rfl⟩
end Go.Avl.TE
/- bosket/bosketref03.in; printed by avmain.py. -/
namespace Go.Avl.TE
open Go Go.RowKit Go.Proofs Go.Avl
set_option linter.unusedVariables false
set_option maxRecDepth 100000
set_option maxHeartbeats 4000000
attribute [local irreducible] AW AO AQ Spec SpecH Calm

def bosketref03_in_c0 (k : Nat) : Option Bool :=
  some (false)
def bosketref03_in_l1 (k : Nat) (p0 : ByteArray) (p1 : Int) : Nat → Int → Option Bool
  | 0, _ => none
  | j + 1, x3 =>
    if x3 < (p0.size : Int) then if 0 ≤ x3 ∧ x3 < (p0.size : Int) then if (byteAt p0 x3) = p1 then some (true)
    else (bosketref03_in_l1 k p0 p1 j) (w64 (x3 + (1 : Int)))
    else none
    else bosketref03_in_c0 k
def bosketref03_in (k : Nat) (p0 : ByteArray) (p1 : Int) : Option Bool :=
  bosketref03_in_l1 k p0 p1 k (0 : Int)
theorem bosketref03_in_spec {k : Nat} {p0 : ByteArray} {p1 : Int} {r : Bool} (h : bosketref03_in k p0 p1 = some r) : Spec Tryd.prog 45 [(eStr p0), (eU8 p1)] (eBool r) := by
  rw [bosketref03_in.eq_1] at h
  refine Spec.intro (res := [.tmp 4]) Tryd.func45 rfl rfl rfl (Nat.le_of_ble_eq_true rfl) ?_
  refine AW.sr ?_
  refine AO.c (Calm.assign rfl rfl) ?_
  refine AO.nK [0, 1] ?_
  refine AW.seq_mid (fun ρ H => ρ = [] ∧ H = [] ∧ bosketref03_in_c0 k = some r) ?_ ?_
  ·refine AW.sr ?_
   refine AO.c (Calm.assign rfl rfl) ?_
   refine AO.nK [0, 1, 5] ?_
   refine AW.block ?_
   refine AW.wK [0, 1, 5] ?_
   refine AW.loop (fun kq ρ H => ∃ (x3 : Int), ρ = [(0, (eStr p0)), (1, (eU8 p1)), (5, (eI64 x3))] ∧ H = [] ∧ bosketref03_in_l1 k p0 p1 kq x3 = some r) k ⟨(0 : Int), rfl, rfl, h⟩ ?_
   rintro kq5 _ _ ⟨x3, rfl, rfl, h⟩
   cases kq5 with
   | zero => rw [bosketref03_in_l1.eq_1] at h; cases h
   | succ kq5 =>
   rw [bosketref03_in_l1.eq_2] at h
   generalize hrec4 : bosketref03_in_l1 k p0 p1 kq5 = rec4 at h
   refine AW.seq ?_
   refine AW.sr ?_
   refine AO.c (Calm.move rfl rfl) ?_
   refine AO.c (Calm.move rfl rfl) ?_
   refine AO.c (Calm.lenStr rfl rfl Tryd.underlying9) ?_
   refine AO.c (x := eBool (decide (x3 < (p0.size : Int)))) (Calm.int rfl rfl rfl rfl) ?_
   refine AO.nK [0, 1, 5, 9] ?_
   rcases of_ite h with ⟨hc6, h⟩ | ⟨hc6, h⟩
   ·refine AW.condP _ rfl hc6 ?_
    refine AW.sK [0, 1, 5] ?_
    refine AW.seq ?_
    refine AW.block ?_
    refine AW.sr ?_
    refine AO.c (Calm.move rfl rfl) ?_
    refine AO.c (Calm.move rfl rfl) ?_
    obtain ⟨hg7, h⟩ := of_guard h
    refine AO.c (x := eU8 (byteAt p0 x3)) (Calm.idxS rfl rfl rfl hg7 Tryd.underlying9) ?_
    refine AO.c (Calm.move rfl rfl) ?_
    refine AO.c (x := eBool (decide ((byteAt p0 x3) = p1))) (Calm.int rfl rfl rfl rfl) ?_
    refine AO.nK [0, 1, 5, 16] ?_
    rcases of_ite h with ⟨hc8, h⟩ | ⟨hc8, h⟩
    ·refine AW.condP _ rfl hc8 ?_
     refine AW.sr ?_
     refine AO.c (Calm.assign rfl rfl) ?_
     refine AO.nK [4] ?_
     refine AW.rK [4] ?_
     have hr := Option.some.inj h
     subst hr
     exact ⟨[(eBool true)], ⟨rfl, rfl, trivial⟩, rfl⟩
    ·refine AW.condN _ rfl hc8 ?_
     refine AW.sK [0, 1, 5] ?_
     refine AW.reg ?_
     refine AO.c (Calm.move rfl rfl) ?_
     refine AO.c (x := eI64 (w64 (x3 + (1 : Int)))) (Calm.int rfl rfl rfl rfl) ?_
     refine AO.c (Calm.assign rfl rfl) ?_
     refine AO.nK [0, 1, 5] ?_
     exact ⟨kq5, Nat.lt_succ_self _, (w64 (x3 + (1 : Int))), rfl, rfl, by rw [hrec4]; exact h⟩
   ·refine AW.condN _ rfl hc6 ?_
    refine AW.eK [] ?_
    exact ⟨rfl, rfl, h⟩
  ·rintro _ _ ⟨rfl, rfl, h⟩
   rw [bosketref03_in_c0.eq_1] at h
   refine AW.sr ?_
   refine AO.c (Calm.assign rfl rfl) ?_
   refine AO.nK [4] ?_
   refine AW.rK [4] ?_
   have hr := Option.some.inj h
   subst hr
   exact ⟨[(eBool false)], ⟨rfl, rfl, trivial⟩, rfl⟩
end Go.Avl.TE
/- bosket/bosketref03.Byte; printed by avmain.py. -/
namespace Go.Avl.TE
open Go Go.RowKit Go.Proofs Go.Avl
set_option linter.unusedVariables false
set_option maxRecDepth 100000
set_option maxHeartbeats 4000000
attribute [local irreducible] AW AO AQ Spec SpecH Calm

def bosketref03_Byte (k : Nat) (p0 : Int) (p1 : ByteArray) : Option ByteArray :=
  (some (ByteArray.mk #[48, 49, 50, 51, 52, 53, 54, 55, 56, 57, 97, 98, 99, 100, 101, 102])).bind fun x3 =>
  if p0 = (10 : Int) then some ((ByteArray.mk #[92, 110]))
  else if p0 = (9 : Int) then some ((ByteArray.mk #[92, 116]))
  else if p0 = (13 : Int) then some ((ByteArray.mk #[92, 114]))
  else Option.bind (α := Bool) (if p0 < (32 : Int) then some (true)
  else some (decide ((126 : Int) < p0))) fun b7 =>
  if b7 = true then if 0 ≤ (IntKind.u8.wrap (p0.tdiv (16 : Int))) ∧ (IntKind.u8.wrap (p0.tdiv (16 : Int))) ≤ (w8 ((IntKind.u8.wrap (p0.tdiv (16 : Int))) + (1 : Int))) ∧ (w8 ((IntKind.u8.wrap (p0.tdiv (16 : Int))) + (1 : Int))) ≤ (x3.size : Int) then if (ByteArray.mk #[92, 120]).size + (x3.extract (IntKind.u8.wrap (p0.tdiv (16 : Int))).toNat (w8 ((IntKind.u8.wrap (p0.tdiv (16 : Int))) + (1 : Int))).toNat).size ≤ 9223372036854775807 then if 0 ≤ (p0.tmod (16 : Int)) ∧ (p0.tmod (16 : Int)) ≤ (w8 ((p0.tmod (16 : Int)) + (1 : Int))) ∧ (w8 ((p0.tmod (16 : Int)) + (1 : Int))) ≤ (x3.size : Int) then if ((ByteArray.mk #[92, 120]) ++ (x3.extract (IntKind.u8.wrap (p0.tdiv (16 : Int))).toNat (w8 ((IntKind.u8.wrap (p0.tdiv (16 : Int))) + (1 : Int))).toNat)).size + (x3.extract (p0.tmod (16 : Int)).toNat (w8 ((p0.tmod (16 : Int)) + (1 : Int))).toNat).size ≤ 9223372036854775807 then some ((((ByteArray.mk #[92, 120]) ++ (x3.extract (IntKind.u8.wrap (p0.tdiv (16 : Int))).toNat (w8 ((IntKind.u8.wrap (p0.tdiv (16 : Int))) + (1 : Int))).toNat)) ++ (x3.extract (p0.tmod (16 : Int)).toNat (w8 ((p0.tmod (16 : Int)) + (1 : Int))).toNat)))
  else none
  else none
  else none
  else none
  else Option.bind (α := Bool) (if p0 = (92 : Int) then some (true)
  else (bosketref03_in k p1 p0).bind fun t18 =>
  some (t18)) fun b15 =>
  if b15 = true then if (ByteArray.mk #[92]).size + (strOfNums ([p0] : List Int)).size ≤ 9223372036854775807 then some (((ByteArray.mk #[92]) ++ (strOfNums ([p0] : List Int))))
  else none
  else some ((strOfNums ([p0] : List Int)))
theorem bosketref03_Byte_spec {k : Nat} {p0 : Int} {p1 : ByteArray} {r : ByteArray} (h : bosketref03_Byte k p0 p1 = some r) : Spec Tryd.prog 33 [(eU8 p0), (eStr p1)] (eStr r) := by
  rw [bosketref03_Byte.eq_1] at h
  refine Spec.intro (res := [.tmp 4]) Tryd.func33 rfl rfl rfl (Nat.le_of_ble_eq_true rfl) ?_
  refine AW.sr ?_
  refine AO.c (Calm.assign rfl rfl) ?_
  refine AO.nK [0, 1] ?_
  refine AW.sr ?_
  obtain ⟨x3, ex3, h⟩ := of_bind h
  refine AO.c (Calm.assign rfl (congrArg (fun x => some (eStr x)) (Option.some.inj ex3))) ?_
  refine AO.nK [0, 1, 5] ?_
  refine AW.seq ?_
  refine AW.block ?_
  refine AW.sr ?_
  refine AO.c (Calm.move rfl rfl) ?_
  refine AO.c (x := eBool (decide (p0 = (10 : Int)))) (Calm.int rfl rfl rfl rfl) ?_
  refine AO.c (Calm.assign rfl rfl) ?_
  refine AO.nK [0, 1, 5, 6] ?_
  rcases of_ite h with ⟨hc4, h⟩ | ⟨hc4, h⟩
  ·refine AW.condP _ rfl hc4 ?_
   refine AW.sr ?_
   refine AO.c (Calm.assign rfl rfl) ?_
   refine AO.nK [4] ?_
   refine AW.rK [4] ?_
   have hr := Option.some.inj h
   subst hr
   exact ⟨[(eStr (ByteArray.mk #[92, 110]))], ⟨rfl, rfl, trivial⟩, rfl⟩
  ·refine AW.condN _ rfl hc4 ?_
   refine AW.sr ?_
   refine AO.c (Calm.move rfl rfl) ?_
   refine AO.c (x := eBool (decide (p0 = (9 : Int)))) (Calm.int rfl rfl rfl rfl) ?_
   refine AO.c (Calm.assign rfl rfl) ?_
   refine AO.nK [0, 1, 5, 9] ?_
   rcases of_ite h with ⟨hc5, h⟩ | ⟨hc5, h⟩
   ·refine AW.condP _ rfl hc5 ?_
    refine AW.sr ?_
    refine AO.c (Calm.assign rfl rfl) ?_
    refine AO.nK [4] ?_
    refine AW.rK [4] ?_
    have hr := Option.some.inj h
    subst hr
    exact ⟨[(eStr (ByteArray.mk #[92, 116]))], ⟨rfl, rfl, trivial⟩, rfl⟩
   ·refine AW.condN _ rfl hc5 ?_
    refine AW.sr ?_
    refine AO.c (Calm.move rfl rfl) ?_
    refine AO.c (x := eBool (decide (p0 = (13 : Int)))) (Calm.int rfl rfl rfl rfl) ?_
    refine AO.c (Calm.assign rfl rfl) ?_
    refine AO.nK [0, 1, 5, 12] ?_
    rcases of_ite h with ⟨hc6, h⟩ | ⟨hc6, h⟩
    ·refine AW.condP _ rfl hc6 ?_
     refine AW.sr ?_
     refine AO.c (Calm.assign rfl rfl) ?_
     refine AO.nK [4] ?_
     refine AW.rK [4] ?_
     have hr := Option.some.inj h
     subst hr
     exact ⟨[(eStr (ByteArray.mk #[92, 114]))], ⟨rfl, rfl, trivial⟩, rfl⟩
    ·refine AW.condN _ rfl hc6 ?_
     refine AW.seq ?_
     obtain ⟨b7, hq8, h⟩ := of_bind h
     refine AW.regM [(0, (eU8 p0)), (1, (eStr p1)), (5, (eStr x3)), (15, (eBool b7))] [] ?_ ?_
     ·refine AO.c (Calm.move rfl rfl) ?_
      refine AO.c (x := eBool (decide (p0 < (32 : Int)))) (Calm.int rfl rfl rfl rfl) ?_
      refine AO.c (Calm.move rfl rfl) ?_
      rcases of_ite hq8 with ⟨hc9, hq8⟩ | ⟨hc9, hq8⟩
      ·refine AO.sF rfl rfl (bD (decide_eq_true hc9)) ?_
       refine AO.sF rfl rfl (bD (decide_eq_true hc9)) ?_
       refine AO.c (Calm.pickT rfl (bD (decide_eq_true hc9)) rfl) ?_
       refine AO.c (Calm.assign rfl rfl) ?_
       cases hq8
       refine AO.nilE ⟨rfl, rfl⟩ ?_ ?_
       · exact ⟨rfl, rfl, rfl, rfl, trivial⟩
       · exact (Sub.refl _)
      ·refine AO.cG rfl rfl (bD (decide_eq_false hc9)) (Calm.move rfl rfl) ?_
       refine AO.cG (x := eBool (decide ((126 : Int) < p0))) rfl rfl (bD (decide_eq_false hc9)) (Calm.int rfl rfl rfl rfl) ?_
       refine AO.c (Calm.pickF rfl (bD (decide_eq_false hc9)) rfl) ?_
       refine AO.c (Calm.assign rfl rfl) ?_
       cases hq8
       refine AO.nilE ⟨rfl, rfl⟩ ?_ ?_
       · exact ⟨rfl, rfl, rfl, rfl, trivial⟩
       · exact (Sub.refl _)
     ·rcases of_ite h with ⟨hc10, h⟩ | ⟨hc10, h⟩
      ·refine AW.condT' _ rfl hc10 ?_
       refine AW.seq ?_
       refine AW.regQ (by rfl) (by decide +kernel) ?_
       refine AQ.c (Calm.move rfl rfl) ?_
       refine AQ.c (Calm.move rfl rfl) ?_
       refine AQ.c (x := eU8 (IntKind.u8.wrap (p0.tdiv (16 : Int)))) (Calm.quo rfl rfl rfl (by decide)) ?_
       refine AQ.c (Calm.move rfl rfl) ?_
       refine AQ.c (x := eU8 (IntKind.u8.wrap (p0.tdiv (16 : Int)))) (Calm.quo rfl rfl rfl (by decide)) ?_
       refine AQ.c (x := eU8 (w8 ((IntKind.u8.wrap (p0.tdiv (16 : Int))) + (1 : Int)))) (Calm.int rfl rfl rfl rfl) ?_
       obtain ⟨hg11, h⟩ := of_guard h
       refine AQ.c (x := eStr (x3.extract (IntKind.u8.wrap (p0.tdiv (16 : Int))).toNat (w8 ((IntKind.u8.wrap (p0.tdiv (16 : Int))) + (1 : Int))).toNat)) (Calm.sliceS rfl rfl rfl rfl hg11 Tryd.underlying9) ?_
       obtain ⟨hg12, h⟩ := of_guard h
       refine AQ.c (x := eStr ((ByteArray.mk #[92, 120]) ++ (x3.extract (IntKind.u8.wrap (p0.tdiv (16 : Int))).toNat (w8 ((IntKind.u8.wrap (p0.tdiv (16 : Int))) + (1 : Int))).toNat))) (Calm.cat rfl rfl rfl hg12) ?_
       refine AQ.c (Calm.move rfl rfl) ?_
       refine AQ.c (Calm.move rfl rfl) ?_
       refine AQ.c (x := eU8 (p0.tmod (16 : Int))) (Calm.rem rfl rfl rfl (by decide)) ?_
       refine AQ.c (Calm.move rfl rfl) ?_
       refine AQ.c (x := eU8 (p0.tmod (16 : Int))) (Calm.rem rfl rfl rfl (by decide)) ?_
       refine AQ.c (x := eU8 (w8 ((p0.tmod (16 : Int)) + (1 : Int)))) (Calm.int rfl rfl rfl rfl) ?_
       obtain ⟨hg13, h⟩ := of_guard h
       refine AQ.c (x := eStr (x3.extract (p0.tmod (16 : Int)).toNat (w8 ((p0.tmod (16 : Int)) + (1 : Int))).toNat)) (Calm.sliceS rfl rfl rfl rfl hg13 Tryd.underlying9) ?_
       obtain ⟨hg14, h⟩ := of_guard h
       refine AQ.c (x := eStr (((ByteArray.mk #[92, 120]) ++ (x3.extract (IntKind.u8.wrap (p0.tdiv (16 : Int))).toNat (w8 ((IntKind.u8.wrap (p0.tdiv (16 : Int))) + (1 : Int))).toNat)) ++ (x3.extract (p0.tmod (16 : Int)).toNat (w8 ((p0.tmod (16 : Int)) + (1 : Int))).toNat))) (Calm.cat rfl rfl rfl hg14) ?_
       refine AQ.c (Calm.assign rfl rfl) ?_
       refine AQ.nK [4] ?_
       refine AW.rK [4] ?_
       have hr := Option.some.inj h
       subst hr
       exact ⟨[(eStr (((ByteArray.mk #[92, 120]) ++ (x3.extract (IntKind.u8.wrap (p0.tdiv (16 : Int))).toNat (w8 ((IntKind.u8.wrap (p0.tdiv (16 : Int))) + (1 : Int))).toNat)) ++ (x3.extract (p0.tmod (16 : Int)).toNat (w8 ((p0.tmod (16 : Int)) + (1 : Int))).toNat)))], ⟨rfl, rfl, trivial⟩, rfl⟩
      ·refine AW.condF' _ rfl hc10 ?_
       refine AW.seq ?_
       obtain ⟨b15, hq16, h⟩ := of_bind h
       refine AW.regM [(0, (eU8 p0)), (38, (eBool b15))] [] ?_ ?_
       ·refine AO.c (Calm.move rfl rfl) ?_
        refine AO.c (x := eBool (decide (p0 = (92 : Int)))) (Calm.int rfl rfl rfl rfl) ?_
        refine AO.c (Calm.move rfl rfl) ?_
        rcases of_ite hq16 with ⟨hc17, hq16⟩ | ⟨hc17, hq16⟩
        ·refine AO.sF rfl rfl (bD (decide_eq_true hc17)) ?_
         refine AO.sF rfl rfl (bD (decide_eq_true hc17)) ?_
         refine AO.sF rfl rfl (bD (decide_eq_true hc17)) ?_
         refine AO.c (Calm.pickT rfl (bD (decide_eq_true hc17)) rfl) ?_
         refine AO.c (Calm.assign rfl rfl) ?_
         cases hq16
         refine AO.nilE ⟨rfl, rfl⟩ ?_ ?_
         · exact ⟨rfl, rfl, trivial⟩
         · exact (Sub.refl _)
        ·refine AO.cG rfl rfl (bD (decide_eq_false hc17)) (Calm.move rfl rfl) ?_
         refine AO.cG rfl rfl (bD (decide_eq_false hc17)) (Calm.move rfl rfl) ?_
         obtain ⟨t18, et18, hq16⟩ := of_bind hq16
         refine AO.callG 2 false 41 [(eStr p1), (eU8 p0)] (eBool t18) 44 rfl (by decide) ok45 rfl rfl (bD (decide_eq_false hc17)) rfl rfl ⟨rfl, rfl, rfl, rfl, trivial⟩ (bosketref03_in_spec et18) ?_
         refine AO.c (Calm.pickF rfl (bD (decide_eq_false hc17)) rfl) ?_
         refine AO.c (Calm.assign rfl rfl) ?_
         cases hq16
         refine AO.nilE ⟨rfl, rfl⟩ ?_ ?_
         · exact ⟨rfl, rfl, trivial⟩
         · exact (Sub.refl _)
       ·rcases of_ite h with ⟨hc19, h⟩ | ⟨hc19, h⟩
        ·refine AW.condT' _ rfl hc19 ?_
         refine AW.sr ?_
         refine AO.c (Calm.move rfl rfl) ?_
         refine AO.lit (Z := (eU8 (0 : Int))) (xs := (([p0] : List Int).map eU8)) (qs := [(0, (eU8 p0))]) rfl 47 rfl (by decide) rfl ⟨rfl, rfl, rfl, trivial⟩ Tryd.underlying60 sz5 zr5 lay5 rfl (by decide) (litOK (z := 1) [(eU8 p0)] rfl ⟨⟨rfl, rfl⟩, trivial⟩) rfl fun n20 => ?_
         refine AO.c (x := eStr (strOfNums ([p0] : List Int))) (Calm.strO 0 rfl rfl rfl Tryd.underlying60 Tryd.underlying9 Tryd.underlying5) ?_
         obtain ⟨hg21, h⟩ := of_guard h
         refine AO.c (x := eStr ((ByteArray.mk #[92]) ++ (strOfNums ([p0] : List Int)))) (Calm.cat rfl rfl rfl hg21) ?_
         refine AO.c (Calm.assign rfl rfl) ?_
         refine AO.nH [4] (H' := []) (Sub.nil _) ?_
         refine AW.rK [4] ?_
         have hr := Option.some.inj h
         subst hr
         exact ⟨[(eStr ((ByteArray.mk #[92]) ++ (strOfNums ([p0] : List Int))))], ⟨rfl, rfl, trivial⟩, rfl⟩
        ·refine AW.condF' _ rfl hc19 ?_
         refine AW.sK [0] ?_
         refine AW.sr ?_
         refine AO.c (Calm.move rfl rfl) ?_
         refine AO.lit (Z := (eU8 (0 : Int))) (xs := (([p0] : List Int).map eU8)) (qs := [(0, (eU8 p0))]) rfl 51 rfl (by decide) rfl ⟨rfl, rfl, rfl, trivial⟩ Tryd.underlying60 sz5 zr5 lay5 rfl (by decide) (litOK (z := 1) [(eU8 p0)] rfl ⟨⟨rfl, rfl⟩, trivial⟩) rfl fun n22 => ?_
         refine AO.c (x := eStr (strOfNums ([p0] : List Int))) (Calm.strO 0 rfl rfl rfl Tryd.underlying60 Tryd.underlying9 Tryd.underlying5) ?_
         refine AO.c (Calm.assign rfl rfl) ?_
         refine AO.nH [4] (H' := []) (Sub.nil _) ?_
         refine AW.rK [4] ?_
         have hr := Option.some.inj h
         subst hr
         exact ⟨[(eStr (strOfNums ([p0] : List Int)))], ⟨rfl, rfl, trivial⟩, rfl⟩
end Go.Avl.TE
/- bosket/bosketref02.Of; printed by avmain.py. -/
namespace Go.Avl.TE
open Go Go.RowKit Go.Proofs Go.Avl
set_option linter.unusedVariables false
set_option maxRecDepth 100000
set_option maxHeartbeats 4000000
attribute [local irreducible] AW AO AQ Spec SpecH Calm

def bosketref02_Of_c0 (k : Nat) (x4 : (Vector Int 4)) : Option (Vector Int 4) :=
  some (x4)
def bosketref02_Of_c1 (k : Nat) (rec7 : ((Vector Int 4) → Int → Option (Vector Int 4))) (x6 : Int) (x13 : (Vector Int 4)) : Option (Vector Int 4) :=
  rec7 x13 (w64 (x6 + (1 : Int)))
def bosketref02_Of_l2 (k : Nat) (p0 : (List Bool)) : Nat → (Vector Int 4) → Int → Option (Vector Int 4)
  | 0, _, _ => none
  | j + 1, x5, x6 =>
    Option.bind (α := Bool) (if x6 < (256 : Int) then some (decide (x6 < (p0.length : Int)))
    else some (false)) fun b9 =>
    if b9 = true then if 0 ≤ x6 ∧ x6 < (p0.length : Int) then if (lget p0 x6) = true then if 0 ≤ (IntKind.i64.wrap (x6.tdiv (64 : Int))) ∧ (IntKind.i64.wrap (x6.tdiv (64 : Int))) < (4 : Int) then if 0 ≤ (u64 (x6.tmod (64 : Int))) then if 0 ≤ (IntKind.i64.wrap (x6.tdiv (64 : Int))) ∧ (IntKind.i64.wrap (x6.tdiv (64 : Int))) < (4 : Int) then bosketref02_Of_c1 k (bosketref02_Of_l2 k p0 j) x6 (vset x5 (IntKind.i64.wrap (x6.tdiv (64 : Int))) (u64 ((vget x5 (IntKind.i64.wrap (x6.tdiv (64 : Int)))) + (IntKind.u64.wrap ((1 : Int) * 2 ^ (min (u64 (x6.tmod (64 : Int))).toNat IntKind.u64.bits))))))
    else none
    else none
    else none
    else bosketref02_Of_c1 k (bosketref02_Of_l2 k p0 j) x6 x5
    else none
    else bosketref02_Of_c0 k x5
def bosketref02_Of (k : Nat) (p0 : (List Bool)) : Option (Vector Int 4) :=
  bosketref02_Of_l2 k p0 k (Vector.replicate 4 (0 : Int)) (0 : Int)
theorem bosketref02_Of_spec {k : Nat} {p0 : (List Bool)} {r : (Vector Int 4)} (h : bosketref02_Of k p0 = some r) : Spec Tryd.prog 46 [(.fz 1 (p0.map eBool))] (e38 r) := by
  rw [bosketref02_Of.eq_1] at h
  refine Spec.intro (res := [.cell 2 38]) Tryd.func46 rfl rfl rfl (Nat.le_of_ble_eq_true rfl) ?_
  refine AW.sr ?_
  refine AO.alloc rfl 2 rfl (by decide) rfl zr38 lay38 fun n2 => ?_
  refine AO.nK [0, 2] ?_
  refine AW.sr ?_
  refine AO.alloc rfl 3 rfl (by decide) rfl zr38 lay38 fun n3 => ?_
  refine AO.nH [0, 2, 3] (H' := [(n2, (.mem (.ar 1 ((Vector.replicate 4 (0 : Int)).toList.map eU64)))), (n3, (.mem (.ar 1 ((Vector.replicate 4 (0 : Int)).toList.map eU64))))]) (Sub.cons 1 rfl (Sub.cons 0 rfl (Sub.nil _))) ?_
  refine AW.seq_mid (fun ρ H => ∃ (x4 : (Vector Int 4)), ρ = [(2, (.ptr n2 0)), (3, (.ptr n3 0))] ∧ H = [(n2, (.mem (.ar 1 ((Vector.replicate 4 (0 : Int)).toList.map eU64)))), (n3, (.mem (.ar 1 (x4.toList.map eU64))))] ∧ bosketref02_Of_c0 k x4 = some r) ?_ ?_
  ·refine AW.sr ?_
   refine AO.c (Calm.assign rfl rfl) ?_
   refine AO.nK [0, 2, 3, 4] ?_
   refine AW.block ?_
   refine AW.wK [0, 2, 3, 4] ?_
   refine AW.loop (fun kq ρ H => ∃ (x5 : (Vector Int 4)) (x6 : Int), ρ = [(0, (.fz 1 (p0.map eBool))), (2, (.ptr n2 0)), (3, (.ptr n3 0)), (4, (eI64 x6))] ∧ H = [(n2, (.mem (.ar 1 ((Vector.replicate 4 (0 : Int)).toList.map eU64)))), (n3, (.mem (.ar 1 (x5.toList.map eU64))))] ∧ bosketref02_Of_l2 k p0 kq x5 x6 = some r) k ⟨(Vector.replicate 4 (0 : Int)), (0 : Int), rfl, rfl, h⟩ ?_
   rintro kq8 _ _ ⟨x5, x6, rfl, rfl, h⟩
   cases kq8 with
   | zero => rw [bosketref02_Of_l2.eq_1] at h; cases h
   | succ kq8 =>
   rw [bosketref02_Of_l2.eq_2] at h
   generalize hrec7 : bosketref02_Of_l2 k p0 kq8 = rec7 at h
   refine AW.seq ?_
   refine AW.seq ?_
   obtain ⟨b9, hq10, h⟩ := of_bind h
   refine AW.regM [(0, (.fz 1 (p0.map eBool))), (2, (.ptr n2 0)), (3, (.ptr n3 0)), (4, (eI64 x6)), (12, (eBool b9))] [(n2, (.mem (.ar 1 ((Vector.replicate 4 (0 : Int)).toList.map eU64)))), (n3, (.mem (.ar 1 (x5.toList.map eU64))))] ?_ ?_
   ·refine AO.c (Calm.move rfl rfl) ?_
    refine AO.c (x := eBool (decide (x6 < (256 : Int)))) (Calm.int rfl rfl rfl rfl) ?_
    refine AO.c (Calm.move rfl rfl) ?_
    rcases of_ite hq10 with ⟨hc11, hq10⟩ | ⟨hc11, hq10⟩
    ·refine AO.cG rfl rfl (bD (decide_eq_true hc11)) (Calm.move rfl rfl) ?_
     refine AO.cG rfl rfl (bD (decide_eq_true hc11)) (Calm.move rfl rfl) ?_
     refine AO.cG rfl rfl (bD (decide_eq_true hc11)) (Calm.lenL rfl rfl Tryd.underlying74) ?_
     refine AO.cG (x := eBool (decide (x6 < (p0.length : Int)))) rfl rfl (bD (decide_eq_true hc11)) (Calm.int rfl rfl rfl rfl) ?_
     refine AO.c (Calm.pickT rfl (bD (decide_eq_true hc11)) rfl) ?_
     cases hq10
     refine AO.nilE ⟨rfl, rfl⟩ ?_ ?_
     · exact ⟨rfl, rfl, rfl, rfl, rfl, trivial⟩
     · exact (Sub.refl _)
    ·refine AO.sT rfl rfl (bD (decide_eq_false hc11)) ?_
     refine AO.sT rfl rfl (bD (decide_eq_false hc11)) ?_
     refine AO.sT rfl rfl (bD (decide_eq_false hc11)) ?_
     refine AO.sT rfl rfl (bD (decide_eq_false hc11)) ?_
     refine AO.c (Calm.pickF rfl (bD (decide_eq_false hc11)) rfl) ?_
     cases hq10
     refine AO.nilE ⟨rfl, rfl⟩ ?_ ?_
     · exact ⟨rfl, rfl, rfl, rfl, rfl, trivial⟩
     · exact (Sub.refl _)
   ·rcases of_ite h with ⟨hc12, h⟩ | ⟨hc12, h⟩
    ·refine AW.condT' _ rfl hc12 ?_
     refine AW.sK [0, 2, 3, 4] ?_
     refine AW.seq_mid (fun ρ H => ∃ (x13 : (Vector Int 4)), ρ = [(0, (.fz 1 (p0.map eBool))), (2, (.ptr n2 0)), (3, (.ptr n3 0)), (4, (eI64 x6))] ∧ H = [(n2, (.mem (.ar 1 ((Vector.replicate 4 (0 : Int)).toList.map eU64)))), (n3, (.mem (.ar 1 (x13.toList.map eU64))))] ∧ bosketref02_Of_c1 k rec7 x6 x13 = some r) ?_ ?_
     ·refine AW.block ?_
      refine AW.sr ?_
      refine AO.c (Calm.move rfl rfl) ?_
      refine AO.c (Calm.move rfl rfl) ?_
      obtain ⟨hg14, h⟩ := of_guard h
      refine AO.c (Calm.idxL (f := eBool) rfl rfl rfl hg14 Tryd.underlying74 sz4) ?_
      refine AO.c (Calm.loadRp rfl rfl ag4 sz4) ?_
      refine AO.nK [0, 2, 3, 4, 18] ?_
      rcases of_ite h with ⟨hc15, h⟩ | ⟨hc15, h⟩
      ·refine AW.condT' _ rfl hc15 ?_
       refine AW.reg ?_
       refine AO.c (Calm.move rfl rfl) ?_
       refine AO.c (x := eI64 (IntKind.i64.wrap (x6.tdiv (64 : Int)))) (Calm.quo rfl rfl rfl (by decide)) ?_
       refine AO.c (Calm.move rfl rfl) ?_
       refine AO.c (x := eI64 (IntKind.i64.wrap (x6.tdiv (64 : Int)))) (Calm.quo rfl rfl rfl (by decide)) ?_
       obtain ⟨hg16, h⟩ := of_guard h
       refine AO.c (Calm.idxP rfl rfl rfl hg16 Tryd.underlying38 sz36) ?_
       refine AO.c (Calm.load 1 rfl rfl rfl (At.cast (At.vidx (IntKind.i64.wrap (x6.tdiv (64 : Int))) hg16.1 hg16.2 At.here) (by omega)) ag36 sz36) ?_
       refine AO.c (Calm.move rfl rfl) ?_
       refine AO.c (x := eI64 (x6.tmod (64 : Int))) (Calm.rem rfl rfl rfl (by decide)) ?_
       refine AO.c (x := eU64 (u64 (x6.tmod (64 : Int)))) (Calm.conv rfl rfl Tryd.underlying3 Tryd.underlying78) ?_
       obtain ⟨hg17, h⟩ := of_guard h
       refine AO.c (x := eU64 (IntKind.u64.wrap ((1 : Int) * 2 ^ (min (u64 (x6.tmod (64 : Int))).toNat IntKind.u64.bits)))) (Calm.shl rfl rfl rfl hg17) ?_
       refine AO.c (x := eU64 (u64 ((vget x5 (IntKind.i64.wrap (x6.tdiv (64 : Int)))) + (IntKind.u64.wrap ((1 : Int) * 2 ^ (min (u64 (x6.tmod (64 : Int))).toNat IntKind.u64.bits)))))) (Calm.int rfl rfl rfl rfl) ?_
       obtain ⟨hg18, h⟩ := of_guard h
       refine AO.c (Calm.idxP rfl rfl rfl hg18 Tryd.underlying38 sz36) ?_
       refine AO.store (X' := (.ar 1 ((vset x5 (IntKind.i64.wrap (x6.tdiv (64 : Int))) (u64 ((vget x5 (IntKind.i64.wrap (x6.tdiv (64 : Int)))) + (IntKind.u64.wrap ((1 : Int) * 2 ^ (min (u64 (x6.tmod (64 : Int))).toNat IntKind.u64.bits)))))).toList.map eU64))) 1 rfl rfl rfl rfl rfl rfl (Put.cast (Put.vidx (IntKind.i64.wrap (x6.tdiv (64 : Int))) (u64 ((vget x5 (IntKind.i64.wrap (x6.tdiv (64 : Int)))) + (IntKind.u64.wrap ((1 : Int) * 2 ^ (min (u64 (x6.tmod (64 : Int))).toNat IntKind.u64.bits))))) hg18.1 hg18.2 Put.here) (by omega)) rfl rfl sz36 rfl ?_
       refine AO.nK [0, 2, 3, 4] ?_
       exact ⟨(vset x5 (IntKind.i64.wrap (x6.tdiv (64 : Int))) (u64 ((vget x5 (IntKind.i64.wrap (x6.tdiv (64 : Int)))) + (IntKind.u64.wrap ((1 : Int) * 2 ^ (min (u64 (x6.tmod (64 : Int))).toNat IntKind.u64.bits)))))), rfl, rfl, h⟩
      ·refine AW.condF' _ rfl hc15 ?_
       refine AW.sK [0, 2, 3, 4] ?_
       exact ⟨x5, rfl, rfl, h⟩
     ·rintro _ _ ⟨x13, rfl, rfl, h⟩
      rw [bosketref02_Of_c1.eq_1] at h
      refine AW.reg ?_
      refine AO.c (Calm.move rfl rfl) ?_
      refine AO.c (x := eI64 (w64 (x6 + (1 : Int)))) (Calm.int rfl rfl rfl rfl) ?_
      refine AO.c (Calm.assign rfl rfl) ?_
      refine AO.nK [0, 2, 3, 4] ?_
      exact ⟨kq8, Nat.lt_succ_self _, x13, (w64 (x6 + (1 : Int))), rfl, rfl, by rw [hrec7]; exact h⟩
    ·refine AW.condF' _ rfl hc12 ?_
     refine AW.eK [2, 3] ?_
     exact ⟨x5, rfl, rfl, h⟩
  ·rintro _ _ ⟨x4, rfl, rfl, h⟩
   rw [bosketref02_Of_c0.eq_1] at h
   refine AW.sr ?_
   refine AO.c (Calm.load 1 rfl rfl rfl (At.cast At.here rfl) ag38 (by rw [sz38]; simp [AV.size])) ?_
   refine AO.store (X' := (.ar 1 (x4.toList.map eU64))) 0 rfl rfl rfl rfl rfl rfl (Put.cast Put.here rfl) rfl (by simp [AV.size]) (by rw [sz38]; simp [AV.size]) rfl ?_
   refine AO.nH [2] (H' := [(n2, (.mem (.ar 1 (x4.toList.map eU64))))]) (Sub.cons 0 rfl (Sub.nil _)) ?_
   refine AW.rK [2] ?_
   have hr := Option.some.inj h
   subst hr
   exact ⟨[(.ar 1 (x4.toList.map eU64))], ⟨⟨_, 0, rfl, rfl, ag38, (by rw [sz38]; simp [AV.size])⟩, trivial⟩, rfl⟩
end Go.Avl.TE
/- bosket/bosketref02.Put; printed by avmain.py. -/
namespace Go.Avl.TE
open Go Go.RowKit Go.Proofs Go.Avl
set_option linter.unusedVariables false
set_option maxRecDepth 100000
set_option maxHeartbeats 4000000
attribute [local irreducible] AW AO AQ Spec SpecH Calm

def bosketref02_Put_c0 (k : Nat) (x8 : (List Bool)) : Option (Vector Int 4) :=
  (bosketref02_Of k x8).bind fun t9 =>
  some (t9)
def bosketref02_Put_c1 (k : Nat) (rec13 : ((List Bool) → Int → Option (Vector Int 4))) (x12 : Int) (x17 : (List Bool)) : Option (Vector Int 4) :=
  rec13 x17 (w64 (x12 + (1 : Int)))
def bosketref02_Put_l2 (k : Nat) (p0 : Int) (p1 : (Vector Int 4)) (p2 : (Vector Int 4)) : Nat → (List Bool) → Int → Option (Vector Int 4)
  | 0, _, _ => none
  | j + 1, x11, x12 =>
    if x12 < (256 : Int) then (bosketref02_Has k p1 x12).bind fun t18 =>
    (bosketref02_Has k p2 x12).bind fun t19 =>
    if p0 = (0 : Int) then if t18 = true then if (x11 ++ ([true] : List Bool)).length * 1 ≤ 140737488355328 then bosketref02_Put_c1 k (bosketref02_Put_l2 k p0 p1 p2 j) x12 (x11 ++ ([true] : List Bool))
    else none
    else if (x11 ++ ([t19] : List Bool)).length * 1 ≤ 140737488355328 then bosketref02_Put_c1 k (bosketref02_Put_l2 k p0 p1 p2 j) x12 (x11 ++ ([t19] : List Bool))
    else none
    else if p0 = (1 : Int) then if t18 = true then if (x11 ++ ([t19] : List Bool)).length * 1 ≤ 140737488355328 then bosketref02_Put_c1 k (bosketref02_Put_l2 k p0 p1 p2 j) x12 (x11 ++ ([t19] : List Bool))
    else none
    else if (x11 ++ ([false] : List Bool)).length * 1 ≤ 140737488355328 then bosketref02_Put_c1 k (bosketref02_Put_l2 k p0 p1 p2 j) x12 (x11 ++ ([false] : List Bool))
    else none
    else if p0 = (2 : Int) then if t18 = true then if (x11 ++ ([!t19] : List Bool)).length * 1 ≤ 140737488355328 then bosketref02_Put_c1 k (bosketref02_Put_l2 k p0 p1 p2 j) x12 (x11 ++ ([!t19] : List Bool))
    else none
    else if (x11 ++ ([false] : List Bool)).length * 1 ≤ 140737488355328 then bosketref02_Put_c1 k (bosketref02_Put_l2 k p0 p1 p2 j) x12 (x11 ++ ([false] : List Bool))
    else none
    else if (x11 ++ ([!t18] : List Bool)).length * 1 ≤ 140737488355328 then bosketref02_Put_c1 k (bosketref02_Put_l2 k p0 p1 p2 j) x12 (x11 ++ ([!t18] : List Bool))
    else none
    else bosketref02_Put_c0 k x11
def bosketref02_Put (k : Nat) (p0 : Int) (p1 : (Vector Int 4)) (p2 : (Vector Int 4)) : Option (Vector Int 4) :=
  bosketref02_Put_l2 k p0 p1 p2 k ([] : List Bool) (0 : Int)
theorem bosketref02_Put_spec {k : Nat} {p0 : Int} {p1 : (Vector Int 4)} {p2 : (Vector Int 4)} {r : (Vector Int 4)} (h : bosketref02_Put k p0 p1 p2 = some r) : Spec Tryd.prog 34 [(eI64 p0), (.ar 1 (p1.toList.map eU64)), (.ar 1 (p2.toList.map eU64))] (e38 r) := by
  rw [bosketref02_Put.eq_1] at h
  refine Spec.intro (res := [.cell 6 38]) Tryd.func34 rfl rfl rfl (Nat.le_of_ble_eq_true rfl) ?_
  refine AW.sr ?_
  refine AO.box rfl 4 rfl (by decide) rfl rfl rfl fun n4 => ?_
  refine AO.box rfl 5 rfl (by decide) rfl rfl rfl fun n5 => ?_
  refine AO.alloc rfl 6 rfl (by decide) rfl zr38 lay38 fun n6 => ?_
  refine AO.nH [0, 4, 5, 6] (H' := [(n4, (.mem (.ar 1 (p1.toList.map eU64)))), (n5, (.mem (.ar 1 (p2.toList.map eU64)))), (n6, (.mem (.ar 1 ((Vector.replicate 4 (0 : Int)).toList.map eU64))))]) (Sub.cons 2 rfl (Sub.cons 1 rfl (Sub.cons 0 rfl (Sub.nil _)))) ?_
  refine AW.sr ?_
  refine AO.c (Calm.assign rfl rfl) ?_
  refine AO.nK [0, 4, 5, 6, 7] ?_
  refine AW.seq_mid (fun ρ H => ∃ (n7 : Nat) (x8 : (List Bool)), ρ = [(6, (.ptr n6 0)), (7, (.own n7 0 x8.length))] ∧ H = [(n6, (.mem (.ar 1 ((Vector.replicate 4 (0 : Int)).toList.map eU64)))), (n7, (.mem (.ar 1 (x8.map eBool))))] ∧ bosketref02_Put_c0 k x8 = some r) ?_ ?_
  ·refine AW.sr ?_
   refine AO.c (Calm.assign rfl rfl) ?_
   refine AO.nK [0, 4, 5, 6, 7, 8] ?_
   refine AW.block ?_
   refine AW.nilOwn 7 1 rfl fun n47 => ?_
   refine AW.wH [0, 4, 5, 6, 7, 8] (H' := [(n4, (.mem (.ar 1 (p1.toList.map eU64)))), (n5, (.mem (.ar 1 (p2.toList.map eU64)))), (n6, (.mem (.ar 1 ((Vector.replicate 4 (0 : Int)).toList.map eU64)))), (n47, (.mem (.ar 1 (([] : List Bool).map eBool))))]) (Sub.cons 1 rfl (Sub.cons 1 rfl (Sub.cons 1 rfl (Sub.cons 0 rfl (Sub.nil _))))) ?_
   refine AW.loop (fun kq ρ H => ∃ (n10 : Nat) (x11 : (List Bool)) (x12 : Int), ρ = [(0, (eI64 p0)), (4, (.ptr n4 0)), (5, (.ptr n5 0)), (6, (.ptr n6 0)), (7, (.own n10 0 x11.length)), (8, (eI64 x12))] ∧ H = [(n4, (.mem (.ar 1 (p1.toList.map eU64)))), (n5, (.mem (.ar 1 (p2.toList.map eU64)))), (n6, (.mem (.ar 1 ((Vector.replicate 4 (0 : Int)).toList.map eU64)))), (n10, (.mem (.ar 1 (x11.map eBool))))] ∧ bosketref02_Put_l2 k p0 p1 p2 kq x11 x12 = some r) k ⟨n47, ([] : List Bool), (0 : Int), rfl, rfl, h⟩ ?_
   rintro kq14 _ _ ⟨n10, x11, x12, rfl, rfl, h⟩
   cases kq14 with
   | zero => rw [bosketref02_Put_l2.eq_1] at h; cases h
   | succ kq14 =>
   rw [bosketref02_Put_l2.eq_2] at h
   generalize hrec13 : bosketref02_Put_l2 k p0 p1 p2 kq14 = rec13 at h
   refine AW.seq ?_
   refine AW.sr ?_
   refine AO.c (Calm.move rfl rfl) ?_
   refine AO.c (x := eBool (decide (x12 < (256 : Int)))) (Calm.int rfl rfl rfl rfl) ?_
   refine AO.nK [0, 4, 5, 6, 7, 8, 12] ?_
   rcases of_ite h with ⟨hc15, h⟩ | ⟨hc15, h⟩
   ·refine AW.condP _ rfl hc15 ?_
    refine AW.sK [0, 4, 5, 6, 7, 8] ?_
    refine AW.seq_mid (fun ρ H => ∃ (n16 : Nat) (x17 : (List Bool)), ρ = [(0, (eI64 p0)), (4, (.ptr n4 0)), (5, (.ptr n5 0)), (6, (.ptr n6 0)), (7, (.own n16 0 x17.length)), (8, (eI64 x12))] ∧ H = [(n4, (.mem (.ar 1 (p1.toList.map eU64)))), (n5, (.mem (.ar 1 (p2.toList.map eU64)))), (n6, (.mem (.ar 1 ((Vector.replicate 4 (0 : Int)).toList.map eU64)))), (n16, (.mem (.ar 1 (x17.map eBool))))] ∧ bosketref02_Put_c1 k rec13 x12 x17 = some r) ?_ ?_
    ·refine AW.block ?_
     refine AW.seq ?_
     refine AW.regQ (by rfl) (by decide +kernel) ?_
     refine AQ.c (Calm.load 0 rfl rfl rfl (At.cast At.here rfl) ag38 (by rw [sz38]; simp [AV.size])) ?_
     refine AQ.c (Calm.move rfl rfl) ?_
     obtain ⟨t18, et18, h⟩ := of_bind h
     refine AQ.c (Calm.call (args := [(.ar 1 (p1.toList.map eU64)), (eI64 x12)]) rfl rfl ok35 ⟨rfl, rfl, rfl, rfl, trivial⟩ rfl (bosketref02_Has_spec et18)) ?_
     refine AQ.c (Calm.load 1 rfl rfl rfl (At.cast At.here rfl) ag38 (by rw [sz38]; simp [AV.size])) ?_
     refine AQ.c (Calm.move rfl rfl) ?_
     obtain ⟨t19, et19, h⟩ := of_bind h
     refine AQ.c (Calm.call (args := [(.ar 1 (p2.toList.map eU64)), (eI64 x12)]) rfl rfl ok35 ⟨rfl, rfl, rfl, rfl, trivial⟩ rfl (bosketref02_Has_spec et19)) ?_
     refine AQ.c (Calm.assign rfl rfl) ?_
     refine AQ.c (Calm.assign rfl rfl) ?_
     refine AQ.nK [0, 4, 5, 6, 7, 8, 9, 10] ?_
     refine AW.sr ?_
     refine AO.c (Calm.move rfl rfl) ?_
     refine AO.nK [0, 4, 5, 6, 7, 8, 9, 10, 21] ?_
     refine AW.block ?_
     refine AW.sr ?_
     refine AO.c (x := eBool (decide (p0 = (0 : Int)))) (Calm.int rfl rfl rfl rfl) ?_
     refine AO.c (Calm.assign rfl rfl) ?_
     refine AO.nK [0, 4, 5, 6, 7, 8, 9, 10, 21, 27] ?_
     rcases of_ite h with ⟨hc20, h⟩ | ⟨hc20, h⟩
     ·refine AW.condP _ rfl hc20 ?_
      refine AW.reg ?_
      refine AO.c (Calm.move rfl rfl) ?_
      refine AO.c (Calm.move rfl rfl) ?_
      refine AO.c (Calm.move rfl rfl) ?_
      rcases of_ite h with ⟨hc21, h⟩ | ⟨hc21, h⟩
      ·refine AO.sF rfl rfl (bD hc21) ?_
       refine AO.c (Calm.pickT rfl (bD hc21) rfl) ?_
       refine AO.lit (Z := (eBool false)) (xs := (([true] : List Bool).map eBool)) (qs := [(0, (eBool true))]) rfl 34 rfl (by decide) rfl ⟨rfl, rfl, rfl, trivial⟩ Tryd.underlying74 sz4 zr4 lay4 rfl (by decide) (litOK (z := 1) [(eBool true)] rfl ⟨⟨rfl, rfl⟩, trivial⟩) rfl fun n22 => ?_
       obtain ⟨hg24, h⟩ := of_guard h
       refine AO.appendL (l := x11) (m := ([true] : List Bool)) 4 35 rfl (by decide) rfl rfl rfl rfl rfl (Src.ownL (f := eBool) (l := ([true] : List Bool)) 0 rfl) Tryd.underlying74 Tryd.underlying74 sz4 by4 zr4 rfl hg24 (by decide) fun n23 => ?_
       refine AO.c (Calm.assign rfl rfl) ?_
       refine AO.nH [0, 4, 5, 6, 7, 8] (H' := [(n4, (.mem (.ar 1 (p1.toList.map eU64)))), (n5, (.mem (.ar 1 (p2.toList.map eU64)))), (n6, (.mem (.ar 1 ((Vector.replicate 4 (0 : Int)).toList.map eU64)))), (n23, (.mem (.ar 1 ((x11 ++ ([true] : List Bool)).map eBool))))]) (Sub.cons 1 rfl (Sub.cons 1 rfl (Sub.cons 1 rfl (Sub.cons 1 rfl (Sub.nil _))))) ?_
       exact ⟨n23, (x11 ++ ([true] : List Bool)), rfl, rfl, h⟩
      ·refine AO.cG rfl rfl (bD (eq_false_of_ne_true hc21)) (Calm.move rfl rfl) ?_
       refine AO.c (Calm.pickF rfl (bD (eq_false_of_ne_true hc21)) rfl) ?_
       refine AO.lit (Z := (eBool false)) (xs := (([t19] : List Bool).map eBool)) (qs := [(0, (eBool t19))]) rfl 34 rfl (by decide) rfl ⟨rfl, rfl, rfl, trivial⟩ Tryd.underlying74 sz4 zr4 lay4 rfl (by decide) (litOK (z := 1) [(eBool t19)] rfl ⟨⟨rfl, rfl⟩, trivial⟩) rfl fun n25 => ?_
       obtain ⟨hg27, h⟩ := of_guard h
       refine AO.appendL (l := x11) (m := ([t19] : List Bool)) 4 35 rfl (by decide) rfl rfl rfl rfl rfl (Src.ownL (f := eBool) (l := ([t19] : List Bool)) 0 rfl) Tryd.underlying74 Tryd.underlying74 sz4 by4 zr4 rfl hg27 (by decide) fun n26 => ?_
       refine AO.c (Calm.assign rfl rfl) ?_
       refine AO.nH [0, 4, 5, 6, 7, 8] (H' := [(n4, (.mem (.ar 1 (p1.toList.map eU64)))), (n5, (.mem (.ar 1 (p2.toList.map eU64)))), (n6, (.mem (.ar 1 ((Vector.replicate 4 (0 : Int)).toList.map eU64)))), (n26, (.mem (.ar 1 ((x11 ++ ([t19] : List Bool)).map eBool))))]) (Sub.cons 1 rfl (Sub.cons 1 rfl (Sub.cons 1 rfl (Sub.cons 1 rfl (Sub.nil _))))) ?_
       exact ⟨n26, (x11 ++ ([t19] : List Bool)), rfl, rfl, h⟩
     ·refine AW.condN _ rfl hc20 ?_
      refine AW.sr ?_
      refine AO.c (x := eBool (decide (p0 = (1 : Int)))) (Calm.int rfl rfl rfl rfl) ?_
      refine AO.c (Calm.assign rfl rfl) ?_
      refine AO.nK [0, 4, 5, 6, 7, 8, 9, 10, 21, 36] ?_
      rcases of_ite h with ⟨hc28, h⟩ | ⟨hc28, h⟩
      ·refine AW.condP _ rfl hc28 ?_
       refine AW.reg ?_
       refine AO.c (Calm.move rfl rfl) ?_
       refine AO.c (Calm.move rfl rfl) ?_
       refine AO.c (Calm.move rfl rfl) ?_
       rcases of_ite h with ⟨hc29, h⟩ | ⟨hc29, h⟩
       ·refine AO.cG rfl rfl (bD hc29) (Calm.move rfl rfl) ?_
        refine AO.c (Calm.pickT rfl (bD hc29) rfl) ?_
        refine AO.lit (Z := (eBool false)) (xs := (([t19] : List Bool).map eBool)) (qs := [(0, (eBool t19))]) rfl 43 rfl (by decide) rfl ⟨rfl, rfl, rfl, trivial⟩ Tryd.underlying74 sz4 zr4 lay4 rfl (by decide) (litOK (z := 1) [(eBool t19)] rfl ⟨⟨rfl, rfl⟩, trivial⟩) rfl fun n30 => ?_
        obtain ⟨hg32, h⟩ := of_guard h
        refine AO.appendL (l := x11) (m := ([t19] : List Bool)) 4 44 rfl (by decide) rfl rfl rfl rfl rfl (Src.ownL (f := eBool) (l := ([t19] : List Bool)) 0 rfl) Tryd.underlying74 Tryd.underlying74 sz4 by4 zr4 rfl hg32 (by decide) fun n31 => ?_
        refine AO.c (Calm.assign rfl rfl) ?_
        refine AO.nH [0, 4, 5, 6, 7, 8] (H' := [(n4, (.mem (.ar 1 (p1.toList.map eU64)))), (n5, (.mem (.ar 1 (p2.toList.map eU64)))), (n6, (.mem (.ar 1 ((Vector.replicate 4 (0 : Int)).toList.map eU64)))), (n31, (.mem (.ar 1 ((x11 ++ ([t19] : List Bool)).map eBool))))]) (Sub.cons 1 rfl (Sub.cons 1 rfl (Sub.cons 1 rfl (Sub.cons 1 rfl (Sub.nil _))))) ?_
        exact ⟨n31, (x11 ++ ([t19] : List Bool)), rfl, rfl, h⟩
       ·refine AO.sT rfl rfl (bD (eq_false_of_ne_true hc29)) ?_
        refine AO.c (Calm.pickF rfl (bD (eq_false_of_ne_true hc29)) rfl) ?_
        refine AO.lit (Z := (eBool false)) (xs := (([false] : List Bool).map eBool)) (qs := [(0, (eBool false))]) rfl 43 rfl (by decide) rfl ⟨rfl, rfl, rfl, trivial⟩ Tryd.underlying74 sz4 zr4 lay4 rfl (by decide) (litOK (z := 1) [(eBool false)] rfl ⟨⟨rfl, rfl⟩, trivial⟩) rfl fun n33 => ?_
        obtain ⟨hg35, h⟩ := of_guard h
        refine AO.appendL (l := x11) (m := ([false] : List Bool)) 4 44 rfl (by decide) rfl rfl rfl rfl rfl (Src.ownL (f := eBool) (l := ([false] : List Bool)) 0 rfl) Tryd.underlying74 Tryd.underlying74 sz4 by4 zr4 rfl hg35 (by decide) fun n34 => ?_
        refine AO.c (Calm.assign rfl rfl) ?_
        refine AO.nH [0, 4, 5, 6, 7, 8] (H' := [(n4, (.mem (.ar 1 (p1.toList.map eU64)))), (n5, (.mem (.ar 1 (p2.toList.map eU64)))), (n6, (.mem (.ar 1 ((Vector.replicate 4 (0 : Int)).toList.map eU64)))), (n34, (.mem (.ar 1 ((x11 ++ ([false] : List Bool)).map eBool))))]) (Sub.cons 1 rfl (Sub.cons 1 rfl (Sub.cons 1 rfl (Sub.cons 1 rfl (Sub.nil _))))) ?_
        exact ⟨n34, (x11 ++ ([false] : List Bool)), rfl, rfl, h⟩
      ·refine AW.condN _ rfl hc28 ?_
       refine AW.sr ?_
       refine AO.c (x := eBool (decide (p0 = (2 : Int)))) (Calm.int rfl rfl rfl rfl) ?_
       refine AO.c (Calm.assign rfl rfl) ?_
       refine AO.nK [0, 4, 5, 6, 7, 8, 9, 10, 45] ?_
       rcases of_ite h with ⟨hc36, h⟩ | ⟨hc36, h⟩
       ·refine AW.condP _ rfl hc36 ?_
        refine AW.reg ?_
        refine AO.c (Calm.move rfl rfl) ?_
        refine AO.c (Calm.move rfl rfl) ?_
        refine AO.c (Calm.move rfl rfl) ?_
        rcases of_ite h with ⟨hc37, h⟩ | ⟨hc37, h⟩
        ·refine AO.cG rfl rfl (bD hc37) (Calm.move rfl rfl) ?_
         refine AO.cG rfl rfl (bD hc37) (Calm.not rfl rfl) ?_
         refine AO.c (Calm.pickT rfl (bD hc37) rfl) ?_
         refine AO.lit (Z := (eBool false)) (xs := (([!t19] : List Bool).map eBool)) (qs := [(0, (eBool (!t19)))]) rfl 53 rfl (by decide) rfl ⟨rfl, rfl, rfl, trivial⟩ Tryd.underlying74 sz4 zr4 lay4 rfl (by decide) (litOK (z := 1) [(eBool (!t19))] rfl ⟨⟨rfl, rfl⟩, trivial⟩) rfl fun n38 => ?_
         obtain ⟨hg40, h⟩ := of_guard h
         refine AO.appendL (l := x11) (m := ([!t19] : List Bool)) 4 54 rfl (by decide) rfl rfl rfl rfl rfl (Src.ownL (f := eBool) (l := ([!t19] : List Bool)) 0 rfl) Tryd.underlying74 Tryd.underlying74 sz4 by4 zr4 rfl hg40 (by decide) fun n39 => ?_
         refine AO.c (Calm.assign rfl rfl) ?_
         refine AO.nH [0, 4, 5, 6, 7, 8] (H' := [(n4, (.mem (.ar 1 (p1.toList.map eU64)))), (n5, (.mem (.ar 1 (p2.toList.map eU64)))), (n6, (.mem (.ar 1 ((Vector.replicate 4 (0 : Int)).toList.map eU64)))), (n39, (.mem (.ar 1 ((x11 ++ ([!t19] : List Bool)).map eBool))))]) (Sub.cons 1 rfl (Sub.cons 1 rfl (Sub.cons 1 rfl (Sub.cons 1 rfl (Sub.nil _))))) ?_
         exact ⟨n39, (x11 ++ ([!t19] : List Bool)), rfl, rfl, h⟩
        ·refine AO.sT rfl rfl (bD (eq_false_of_ne_true hc37)) ?_
         refine AO.sT rfl rfl (bD (eq_false_of_ne_true hc37)) ?_
         refine AO.c (Calm.pickF rfl (bD (eq_false_of_ne_true hc37)) rfl) ?_
         refine AO.lit (Z := (eBool false)) (xs := (([false] : List Bool).map eBool)) (qs := [(0, (eBool false))]) rfl 53 rfl (by decide) rfl ⟨rfl, rfl, rfl, trivial⟩ Tryd.underlying74 sz4 zr4 lay4 rfl (by decide) (litOK (z := 1) [(eBool false)] rfl ⟨⟨rfl, rfl⟩, trivial⟩) rfl fun n41 => ?_
         obtain ⟨hg43, h⟩ := of_guard h
         refine AO.appendL (l := x11) (m := ([false] : List Bool)) 4 54 rfl (by decide) rfl rfl rfl rfl rfl (Src.ownL (f := eBool) (l := ([false] : List Bool)) 0 rfl) Tryd.underlying74 Tryd.underlying74 sz4 by4 zr4 rfl hg43 (by decide) fun n42 => ?_
         refine AO.c (Calm.assign rfl rfl) ?_
         refine AO.nH [0, 4, 5, 6, 7, 8] (H' := [(n4, (.mem (.ar 1 (p1.toList.map eU64)))), (n5, (.mem (.ar 1 (p2.toList.map eU64)))), (n6, (.mem (.ar 1 ((Vector.replicate 4 (0 : Int)).toList.map eU64)))), (n42, (.mem (.ar 1 ((x11 ++ ([false] : List Bool)).map eBool))))]) (Sub.cons 1 rfl (Sub.cons 1 rfl (Sub.cons 1 rfl (Sub.cons 1 rfl (Sub.nil _))))) ?_
         exact ⟨n42, (x11 ++ ([false] : List Bool)), rfl, rfl, h⟩
       ·refine AW.condN _ rfl hc36 ?_
        refine AW.reg ?_
        refine AO.c (Calm.move rfl rfl) ?_
        refine AO.c (Calm.move rfl rfl) ?_
        refine AO.c (Calm.not rfl rfl) ?_
        refine AO.lit (Z := (eBool false)) (xs := (([!t18] : List Bool).map eBool)) (qs := [(0, (eBool (!t18)))]) rfl 25 rfl (by decide) rfl ⟨rfl, rfl, rfl, trivial⟩ Tryd.underlying74 sz4 zr4 lay4 rfl (by decide) (litOK (z := 1) [(eBool (!t18))] rfl ⟨⟨rfl, rfl⟩, trivial⟩) rfl fun n44 => ?_
        obtain ⟨hg46, h⟩ := of_guard h
        refine AO.appendL (l := x11) (m := ([!t18] : List Bool)) 4 26 rfl (by decide) rfl rfl rfl rfl rfl (Src.ownL (f := eBool) (l := ([!t18] : List Bool)) 0 rfl) Tryd.underlying74 Tryd.underlying74 sz4 by4 zr4 rfl hg46 (by decide) fun n45 => ?_
        refine AO.c (Calm.assign rfl rfl) ?_
        refine AO.nH [0, 4, 5, 6, 7, 8] (H' := [(n4, (.mem (.ar 1 (p1.toList.map eU64)))), (n5, (.mem (.ar 1 (p2.toList.map eU64)))), (n6, (.mem (.ar 1 ((Vector.replicate 4 (0 : Int)).toList.map eU64)))), (n45, (.mem (.ar 1 ((x11 ++ ([!t18] : List Bool)).map eBool))))]) (Sub.cons 1 rfl (Sub.cons 1 rfl (Sub.cons 1 rfl (Sub.cons 1 rfl (Sub.nil _))))) ?_
        exact ⟨n45, (x11 ++ ([!t18] : List Bool)), rfl, rfl, h⟩
    ·rintro _ _ ⟨n16, x17, rfl, rfl, h⟩
     rw [bosketref02_Put_c1.eq_1] at h
     refine AW.reg ?_
     refine AO.c (Calm.move rfl rfl) ?_
     refine AO.c (x := eI64 (w64 (x12 + (1 : Int)))) (Calm.int rfl rfl rfl rfl) ?_
     refine AO.c (Calm.assign rfl rfl) ?_
     refine AO.nK [0, 4, 5, 6, 7, 8] ?_
     exact ⟨kq14, Nat.lt_succ_self _, n16, x17, (w64 (x12 + (1 : Int))), rfl, rfl, by rw [hrec13]; exact h⟩
   ·refine AW.condN _ rfl hc15 ?_
    refine AW.eH [6, 7] (H' := [(n6, (.mem (.ar 1 ((Vector.replicate 4 (0 : Int)).toList.map eU64)))), (n10, (.mem (.ar 1 (x11.map eBool))))]) (Sub.cons 2 rfl (Sub.cons 2 rfl (Sub.nil _))) ?_
    exact ⟨n10, x11, rfl, rfl, h⟩
  ·rintro _ _ ⟨n7, x8, rfl, rfl, h⟩
   rw [bosketref02_Put_c0.eq_1] at h
   refine AW.sr ?_
   refine AO.c (Calm.move rfl rfl) ?_
   obtain ⟨t9, et9, h⟩ := of_bind h
   refine AO.freezeS 1 [(7, (.fz 1 (x8.map eBool))), (55, (.fz 1 (x8.map eBool)))] rfl ⟨fz_all rfl, fz_all rfl, trivial⟩ ?_
   refine AO.callS [(.fz 1 (x8.map eBool))] (.ar 1 (t9.toList.map eU64)) 56 rfl (by decide) ok46 rfl rfl rfl ⟨rfl, rfl, trivial⟩ (bosketref02_Of_spec et9) ?_
   refine AO.store (X' := (.ar 1 (t9.toList.map eU64))) 0 rfl rfl rfl rfl rfl rfl (Put.cast Put.here rfl) rfl (by simp [AV.size]) (by rw [sz38]; simp [AV.size]) rfl ?_
   refine AO.nK [6] ?_
   refine AW.rK [6] ?_
   have hr := Option.some.inj h
   subst hr
   exact ⟨[(.ar 1 (t9.toList.map eU64))], ⟨⟨_, 0, rfl, rfl, ag38, (by rw [sz38]; simp [AV.size])⟩, trivial⟩, rfl⟩
end Go.Avl.TE
/- bosket/bosketref04.set; printed by avmain.py. -/
namespace Go.Avl.TE
open Go Go.RowKit Go.Proofs Go.Avl
set_option linter.unusedVariables false
set_option maxRecDepth 100000
set_option maxHeartbeats 4000000
attribute [local irreducible] AW AO AQ Spec SpecH Calm

def bosketref04_set_c0 (k : Nat) (x10 : ByteArray) : Option ByteArray :=
  if x10.size + (ByteArray.mk #[93]).size ≤ 9223372036854775807 then some ((x10 ++ (ByteArray.mk #[93])))
  else none
def bosketref04_set_c1 (k : Nat) (rec14 : (ByteArray → Int → Option ByteArray)) (x17 : ByteArray) (x18 : Int) : Option ByteArray :=
  rec14 x17 (w64 (x18 + (1 : Int)))
def bosketref04_set_c2 (k : Nat) (rec14 : (ByteArray → Int → Option ByteArray)) (x21 : Int) (x24 : ByteArray) : Option ByteArray :=
  bosketref04_set_c1 k rec14 x24 x21
def bosketref04_set_c3 (k : Nat) (rec14 : (ByteArray → Int → Option ByteArray)) (x12 : ByteArray) (x13 : Int) (x21 : Int) : Option ByteArray :=
  (bosketref03_Byte k (w8 x13) (ByteArray.mk #[47, 93, 94, 45, 34])).bind fun t22 =>
  if x12.size + t22.size ≤ 9223372036854775807 then if x13 < x21 then if (x12 ++ t22).size + (ByteArray.mk #[45]).size ≤ 9223372036854775807 then (bosketref03_Byte k (w8 x21) (ByteArray.mk #[47, 93, 94, 45, 34])).bind fun t27 =>
  if ((x12 ++ t22) ++ (ByteArray.mk #[45])).size + t27.size ≤ 9223372036854775807 then bosketref04_set_c2 k rec14 x21 (((x12 ++ t22) ++ (ByteArray.mk #[45])) ++ t27)
  else none
  else none
  else bosketref04_set_c2 k rec14 x21 (x12 ++ t22)
  else none
def bosketref04_set_l4 (k : Nat) (rec14 : (ByteArray → Int → Option ByteArray)) (x8 : (Vector Int 4)) (x12 : ByteArray) (x13 : Int) : Nat → Int → Option ByteArray
  | 0, _ => none
  | j + 1, x29 =>
    Option.bind (α := Bool) (if x29 < (255 : Int) then (bosketref02_Has k x8 (w64 (x29 + (1 : Int)))).bind fun t35 =>
    some (t35)
    else some (false)) fun b32 =>
    if b32 = true then (bosketref04_set_l4 k rec14 x8 x12 x13 j) (w64 (x29 + (1 : Int)))
    else bosketref04_set_c3 k rec14 x12 x13 x29
def bosketref04_set_l5 (k : Nat) (x8 : (Vector Int 4)) : Nat → ByteArray → Int → Option ByteArray
  | 0, _, _ => none
  | j + 1, x12, x13 =>
    if x13 < (256 : Int) then (bosketref02_Has k x8 x13).bind fun t19 =>
    if (!t19) = true then bosketref04_set_c1 k (bosketref04_set_l5 k x8 j) x12 x13
    else bosketref04_set_l4 k (bosketref04_set_l5 k x8 j) x8 x12 x13 k x13
    else bosketref04_set_c0 k x12
def bosketref04_set_c6 (k : Nat) (x8 : (Vector Int 4)) (x9 : ByteArray) : Option ByteArray :=
  bosketref04_set_l5 k x8 k x9 (0 : Int)
def bosketref04_set (k : Nat) (p0 : (Vector Int 4)) : Option ByteArray :=
  (bosketref02_List k p0).bind fun t3 =>
  if (t3.length : Int) = (256 : Int) then some ((ByteArray.mk #[46]))
  else if (t3.length : Int) = (1 : Int) then if 0 ≤ (0 : Int) ∧ (0 : Int) < (t3.length : Int) then (bosketref03_Byte k (lget t3 (0 : Int)) (ByteArray.mk #[47, 40, 41, 91, 93, 124, 42, 43, 63, 46, 34, 126])).bind fun t7 =>
  some (t7)
  else none
  else if (128 : Int) < (t3.length : Int) then (bosketref02_Put k (3 : Int) p0 p0).bind fun t38 =>
  bosketref04_set_c6 k t38 (ByteArray.mk #[91, 94])
  else bosketref04_set_c6 k p0 (ByteArray.mk #[91])
theorem bosketref04_set_spec {k : Nat} {p0 : (Vector Int 4)} {r : ByteArray} (h : bosketref04_set k p0 = some r) : Spec Tryd.prog 22 [(.ar 1 (p0.toList.map eU64))] (eStr r) := by
  rw [bosketref04_set.eq_1] at h
  refine Spec.intro (res := [.tmp 2]) Tryd.func22 rfl rfl rfl (Nat.le_of_ble_eq_true rfl) ?_
  refine AW.sr ?_
  refine AO.box rfl 1 rfl (by decide) rfl rfl rfl fun n2 => ?_
  refine AO.c (Calm.assign rfl rfl) ?_
  refine AO.nK [1] ?_
  refine AW.sr ?_
  refine AO.c (Calm.load 0 rfl rfl rfl (At.cast At.here rfl) ag38 (by rw [sz38]; simp [AV.size])) ?_
  obtain ⟨t3, et3, h⟩ := of_bind h
  refine AO.callS [(.ar 1 (p0.toList.map eU64))] (.fz 1 (t3.map eU8)) 8 rfl (by decide) ok32 rfl rfl rfl ⟨rfl, rfl, trivial⟩ (bosketref02_List_spec et3) ?_
  refine AO.c (Calm.assign rfl rfl) ?_
  refine AO.nK [1, 3] ?_
  refine AW.seq ?_
  refine AW.sr ?_
  refine AO.c (Calm.move rfl rfl) ?_
  refine AO.c (Calm.lenL rfl rfl Tryd.underlying60) ?_
  refine AO.c (x := eBool (decide ((t3.length : Int) = (256 : Int)))) (Calm.int rfl rfl rfl rfl) ?_
  refine AO.nK [1, 3, 11] ?_
  rcases of_ite h with ⟨hc4, h⟩ | ⟨hc4, h⟩
  ·refine AW.condP _ rfl hc4 ?_
   refine AW.sr ?_
   refine AO.c (Calm.assign rfl rfl) ?_
   refine AO.nH [2] (H' := []) (Sub.nil _) ?_
   refine AW.rK [2] ?_
   have hr := Option.some.inj h
   subst hr
   exact ⟨[(eStr (ByteArray.mk #[46]))], ⟨rfl, rfl, trivial⟩, rfl⟩
  ·refine AW.condN _ rfl hc4 ?_
   refine AW.sK [1, 3] ?_
   refine AW.seq ?_
   refine AW.sr ?_
   refine AO.c (Calm.move rfl rfl) ?_
   refine AO.c (Calm.lenL rfl rfl Tryd.underlying60) ?_
   refine AO.c (x := eBool (decide ((t3.length : Int) = (1 : Int)))) (Calm.int rfl rfl rfl rfl) ?_
   refine AO.nK [1, 3, 14] ?_
   rcases of_ite h with ⟨hc5, h⟩ | ⟨hc5, h⟩
   ·refine AW.condP _ rfl hc5 ?_
    refine AW.sr ?_
    refine AO.c (Calm.move rfl rfl) ?_
    obtain ⟨hg6, h⟩ := of_guard h
    refine AO.c (Calm.idxL (f := eU8) rfl rfl rfl hg6 Tryd.underlying60 sz5) ?_
    refine AO.c (Calm.loadRp rfl rfl ag5 sz5) ?_
    obtain ⟨t7, et7, h⟩ := of_bind h
    refine AO.callS [(eU8 (lget t3 (0 : Int))), (eStr (ByteArray.mk #[47, 40, 41, 91, 93, 124, 42, 43, 63, 46, 34, 126]))] (eStr t7) 18 rfl (by decide) ok33 rfl rfl rfl ⟨rfl, rfl, rfl, rfl, trivial⟩ (bosketref03_Byte_spec et7) ?_
    refine AO.c (Calm.assign rfl rfl) ?_
    refine AO.nH [2] (H' := []) (Sub.nil _) ?_
    refine AW.rK [2] ?_
    have hr := Option.some.inj h
    subst hr
    exact ⟨[(eStr t7)], ⟨rfl, rfl, trivial⟩, rfl⟩
   ·refine AW.condN _ rfl hc5 ?_
    refine AW.sK [1, 3] ?_
    refine AW.sr ?_
    refine AO.c (Calm.assign rfl rfl) ?_
    refine AO.nK [1, 3, 4] ?_
    refine AW.seq_mid (fun ρ H => ∃ (x8 : (Vector Int 4)) (x9 : ByteArray), ρ = [(1, (.ptr n2 0)), (4, (eStr x9))] ∧ H = [(n2, (.mem (.ar 1 (x8.toList.map eU64))))] ∧ bosketref04_set_c6 k x8 x9 = some r) ?_ ?_
    ·refine AW.sr ?_
     refine AO.c (Calm.move rfl rfl) ?_
     refine AO.c (Calm.lenL rfl rfl Tryd.underlying60) ?_
     refine AO.c (x := eBool (decide ((128 : Int) < (t3.length : Int)))) (Calm.int rfl rfl rfl rfl) ?_
     refine AO.nK [1, 4, 21] ?_
     rcases of_ite h with ⟨hc37, h⟩ | ⟨hc37, h⟩
     ·refine AW.condP _ rfl hc37 ?_
      refine AW.sr ?_
      refine AO.c (Calm.assign rfl rfl) ?_
      refine AO.nK [1, 4] ?_
      refine AW.reg ?_
      refine AO.c (Calm.load 0 rfl rfl rfl (At.cast At.here rfl) ag38 (by rw [sz38]; simp [AV.size])) ?_
      refine AO.c (Calm.load 0 rfl rfl rfl (At.cast At.here rfl) ag38 (by rw [sz38]; simp [AV.size])) ?_
      obtain ⟨t38, et38, h⟩ := of_bind h
      refine AO.callS [(eI64 (3 : Int)), (.ar 1 (p0.toList.map eU64)), (.ar 1 (p0.toList.map eU64))] (.ar 1 (t38.toList.map eU64)) 24 rfl (by decide) ok34 rfl rfl rfl ⟨rfl, rfl, rfl, rfl, rfl, rfl, trivial⟩ (bosketref02_Put_spec et38) ?_
      refine AO.store (X' := (.ar 1 (t38.toList.map eU64))) 0 rfl rfl rfl rfl rfl rfl (Put.cast Put.here rfl) rfl (by simp [AV.size]) (by rw [sz38]; simp [AV.size]) rfl ?_
      refine AO.nK [1, 4] ?_
      exact ⟨t38, (ByteArray.mk #[91, 94]), rfl, rfl, h⟩
     ·refine AW.condN _ rfl hc37 ?_
      refine AW.sK [1, 4] ?_
      exact ⟨p0, (ByteArray.mk #[91]), rfl, rfl, h⟩
    ·rintro _ _ ⟨x8, x9, rfl, rfl, h⟩
     rw [bosketref04_set_c6.eq_1] at h
     refine AW.seq_mid (fun ρ H => ∃ (x10 : ByteArray), ρ = [(4, (eStr x10))] ∧ H = [] ∧ bosketref04_set_c0 k x10 = some r) ?_ ?_
     ·refine AW.sr ?_
      refine AO.c (Calm.assign rfl rfl) ?_
      refine AO.nK [1, 4, 5] ?_
      refine AW.block ?_
      refine AW.wK [1, 4, 5] ?_
      refine AW.loop (fun kq ρ H => ∃ (x12 : ByteArray) (x13 : Int), ρ = [(1, (.ptr n2 0)), (4, (eStr x12)), (5, (eI64 x13))] ∧ H = [(n2, (.mem (.ar 1 (x8.toList.map eU64))))] ∧ bosketref04_set_l5 k x8 kq x12 x13 = some r) k ⟨x9, (0 : Int), rfl, rfl, h⟩ ?_
      rintro kq15 _ _ ⟨x12, x13, rfl, rfl, h⟩
      cases kq15 with
      | zero => rw [bosketref04_set_l5.eq_1] at h; cases h
      | succ kq15 =>
      rw [bosketref04_set_l5.eq_2] at h
      generalize hrec14 : bosketref04_set_l5 k x8 kq15 = rec14 at h
      refine AW.seq ?_
      refine AW.sr ?_
      refine AO.c (Calm.move rfl rfl) ?_
      refine AO.c (x := eBool (decide (x13 < (256 : Int)))) (Calm.int rfl rfl rfl rfl) ?_
      refine AO.nK [1, 4, 5, 26] ?_
      rcases of_ite h with ⟨hc16, h⟩ | ⟨hc16, h⟩
      ·refine AW.condP _ rfl hc16 ?_
       refine AW.sK [1, 4, 5] ?_
       refine AW.seq_mid (fun ρ H => ∃ (x17 : ByteArray) (x18 : Int), ρ = [(1, (.ptr n2 0)), (4, (eStr x17)), (5, (eI64 x18))] ∧ H = [(n2, (.mem (.ar 1 (x8.toList.map eU64))))] ∧ bosketref04_set_c1 k rec14 x17 x18 = some r) ?_ ?_
       ·refine AW.block ?_
        refine AW.seq ?_
        refine AW.sr ?_
        refine AO.c (Calm.load 0 rfl rfl rfl (At.cast At.here rfl) ag38 (by rw [sz38]; simp [AV.size])) ?_
        refine AO.c (Calm.move rfl rfl) ?_
        obtain ⟨t19, et19, h⟩ := of_bind h
        refine AO.callS [(.ar 1 (x8.toList.map eU64)), (eI64 x13)] (eBool t19) 31 rfl (by decide) ok35 rfl rfl rfl ⟨rfl, rfl, rfl, rfl, trivial⟩ (bosketref02_Has_spec et19) ?_
        refine AO.c (Calm.not rfl rfl) ?_
        refine AO.nK [1, 4, 5, 32] ?_
        rcases of_ite h with ⟨hc20, h⟩ | ⟨hc20, h⟩
        ·refine AW.condT' _ rfl hc20 ?_
         refine AW.eK [1, 4, 5] ?_
         exact ⟨x12, x13, rfl, rfl, h⟩
        ·refine AW.condF' _ rfl hc20 ?_
         refine AW.sK [1, 4, 5] ?_
         refine AW.sr ?_
         refine AO.c (Calm.move rfl rfl) ?_
         refine AO.c (Calm.assign rfl rfl) ?_
         refine AO.nK [1, 4, 5, 6] ?_
         refine AW.seq_mid (fun ρ H => ∃ (x21 : Int), ρ = [(1, (.ptr n2 0)), (4, (eStr x12)), (5, (eI64 x13)), (6, (eI64 x21))] ∧ H = [(n2, (.mem (.ar 1 (x8.toList.map eU64))))] ∧ bosketref04_set_c3 k rec14 x12 x13 x21 = some r) ?_ ?_
         ·refine AW.block ?_
          refine AW.wK [1, 4, 5, 6] ?_
          refine AW.loop (fun kq ρ H => ∃ (x29 : Int), ρ = [(1, (.ptr n2 0)), (4, (eStr x12)), (5, (eI64 x13)), (6, (eI64 x29))] ∧ H = [(n2, (.mem (.ar 1 (x8.toList.map eU64))))] ∧ bosketref04_set_l4 k rec14 x8 x12 x13 kq x29 = some r) k ⟨x13, rfl, rfl, h⟩ ?_
          rintro kq31 _ _ ⟨x29, rfl, rfl, h⟩
          cases kq31 with
          | zero => rw [bosketref04_set_l4.eq_1] at h; cases h
          | succ kq31 =>
          rw [bosketref04_set_l4.eq_2] at h
          generalize hrec30 : bosketref04_set_l4 k rec14 x8 x12 x13 kq31 = rec30 at h
          refine AW.seq ?_
          refine AW.seq ?_
          obtain ⟨b32, hq33, h⟩ := of_bind h
          refine AW.regM [(1, (.ptr n2 0)), (4, (eStr x12)), (5, (eI64 x13)), (6, (eI64 x29)), (41, (eBool b32))] [(n2, (.mem (.ar 1 (x8.toList.map eU64))))] ?_ ?_
          ·refine AO.c (Calm.move rfl rfl) ?_
           refine AO.c (x := eBool (decide (x29 < (255 : Int)))) (Calm.int rfl rfl rfl rfl) ?_
           refine AO.c (Calm.move rfl rfl) ?_
           rcases of_ite hq33 with ⟨hc34, hq33⟩ | ⟨hc34, hq33⟩
           ·refine AO.cG rfl rfl (bD (decide_eq_true hc34)) (Calm.load 0 rfl rfl rfl (At.cast At.here rfl) ag38 (by rw [sz38]; simp [AV.size])) ?_
            refine AO.cG rfl rfl (bD (decide_eq_true hc34)) (Calm.move rfl rfl) ?_
            refine AO.cG (x := eI64 (w64 (x29 + (1 : Int)))) rfl rfl (bD (decide_eq_true hc34)) (Calm.int rfl rfl rfl rfl) ?_
            obtain ⟨t35, et35, hq33⟩ := of_bind hq33
            refine AO.callG 2 true 36 [(.ar 1 (x8.toList.map eU64)), (eI64 (w64 (x29 + (1 : Int))))] (eBool t35) 40 rfl (by decide) ok35 rfl rfl (bD (decide_eq_true hc34)) rfl rfl ⟨rfl, rfl, rfl, rfl, trivial⟩ (bosketref02_Has_spec et35) ?_
            refine AO.c (Calm.pickT rfl (bD (decide_eq_true hc34)) rfl) ?_
            cases hq33
            refine AO.nilE ⟨rfl, rfl⟩ ?_ ?_
            · exact ⟨rfl, rfl, rfl, rfl, rfl, trivial⟩
            · exact (Sub.refl _)
           ·refine AO.sT rfl rfl (bD (decide_eq_false hc34)) ?_
            refine AO.sT rfl rfl (bD (decide_eq_false hc34)) ?_
            refine AO.sT rfl rfl (bD (decide_eq_false hc34)) ?_
            refine AO.sT rfl rfl (bD (decide_eq_false hc34)) ?_
            refine AO.c (Calm.pickF rfl (bD (decide_eq_false hc34)) rfl) ?_
            cases hq33
            refine AO.nilE ⟨rfl, rfl⟩ ?_ ?_
            · exact ⟨rfl, rfl, rfl, rfl, rfl, trivial⟩
            · exact (Sub.refl _)
          ·rcases of_ite h with ⟨hc36, h⟩ | ⟨hc36, h⟩
           ·refine AW.condT' _ rfl hc36 ?_
            refine AW.sK [1, 4, 5, 6] ?_
            refine AW.block ?_
            refine AW.reg ?_
            refine AO.c (Calm.move rfl rfl) ?_
            refine AO.c (x := eI64 (w64 (x29 + (1 : Int)))) (Calm.int rfl rfl rfl rfl) ?_
            refine AO.c (Calm.assign rfl rfl) ?_
            refine AO.nK [1, 4, 5, 6] ?_
            exact ⟨kq31, Nat.lt_succ_self _, (w64 (x29 + (1 : Int))), rfl, rfl, by rw [hrec30]; exact h⟩
           ·refine AW.condF' _ rfl hc36 ?_
            refine AW.eK [1, 4, 5, 6] ?_
            exact ⟨x29, rfl, rfl, h⟩
         ·rintro _ _ ⟨x21, rfl, rfl, h⟩
          rw [bosketref04_set_c3.eq_1] at h
          refine AW.sr ?_
          refine AO.c (Calm.move rfl rfl) ?_
          refine AO.c (Calm.move rfl rfl) ?_
          refine AO.c (x := eU8 (w8 x13)) (Calm.conv rfl rfl Tryd.underlying3 Tryd.underlying5) ?_
          obtain ⟨t22, et22, h⟩ := of_bind h
          refine AO.callS [(eU8 (w8 x13)), (eStr (ByteArray.mk #[47, 93, 94, 45, 34]))] (eStr t22) 47 rfl (by decide) ok33 rfl rfl rfl ⟨rfl, rfl, rfl, rfl, trivial⟩ (bosketref03_Byte_spec et22) ?_
          obtain ⟨hg23, h⟩ := of_guard h
          refine AO.c (x := eStr (x12 ++ t22)) (Calm.cat rfl rfl rfl hg23) ?_
          refine AO.c (Calm.assign rfl rfl) ?_
          refine AO.nK [1, 4, 5, 6] ?_
          refine AW.seq_mid (fun ρ H => ∃ (x24 : ByteArray), ρ = [(1, (.ptr n2 0)), (4, (eStr x24)), (6, (eI64 x21))] ∧ H = [(n2, (.mem (.ar 1 (x8.toList.map eU64))))] ∧ bosketref04_set_c2 k rec14 x21 x24 = some r) ?_ ?_
          ·refine AW.sr ?_
           refine AO.c (Calm.move rfl rfl) ?_
           refine AO.c (Calm.move rfl rfl) ?_
           refine AO.c (x := eBool (decide (x13 < x21))) (Calm.int rfl rfl rfl rfl) ?_
           refine AO.nK [1, 4, 6, 51] ?_
           rcases of_ite h with ⟨hc25, h⟩ | ⟨hc25, h⟩
           ·refine AW.condP _ rfl hc25 ?_
            refine AW.reg ?_
            refine AO.c (Calm.move rfl rfl) ?_
            obtain ⟨hg26, h⟩ := of_guard h
            refine AO.c (x := eStr ((x12 ++ t22) ++ (ByteArray.mk #[45]))) (Calm.cat rfl rfl rfl hg26) ?_
            refine AO.c (Calm.move rfl rfl) ?_
            refine AO.c (x := eU8 (w8 x21)) (Calm.conv rfl rfl Tryd.underlying3 Tryd.underlying5) ?_
            obtain ⟨t27, et27, h⟩ := of_bind h
            refine AO.callS [(eU8 (w8 x21)), (eStr (ByteArray.mk #[47, 93, 94, 45, 34]))] (eStr t27) 56 rfl (by decide) ok33 rfl rfl rfl ⟨rfl, rfl, rfl, rfl, trivial⟩ (bosketref03_Byte_spec et27) ?_
            obtain ⟨hg28, h⟩ := of_guard h
            refine AO.c (x := eStr (((x12 ++ t22) ++ (ByteArray.mk #[45])) ++ t27)) (Calm.cat rfl rfl rfl hg28) ?_
            refine AO.c (Calm.assign rfl rfl) ?_
            refine AO.nK [1, 4, 6] ?_
            exact ⟨(((x12 ++ t22) ++ (ByteArray.mk #[45])) ++ t27), rfl, rfl, h⟩
           ·refine AW.condN _ rfl hc25 ?_
            refine AW.sK [1, 4, 6] ?_
            exact ⟨(x12 ++ t22), rfl, rfl, h⟩
          ·rintro _ _ ⟨x24, rfl, rfl, h⟩
           rw [bosketref04_set_c2.eq_1] at h
           refine AW.reg ?_
           refine AO.c (Calm.move rfl rfl) ?_
           refine AO.c (Calm.assign rfl rfl) ?_
           refine AO.nK [1, 4, 5] ?_
           exact ⟨x24, x21, rfl, rfl, h⟩
       ·rintro _ _ ⟨x17, x18, rfl, rfl, h⟩
        rw [bosketref04_set_c1.eq_1] at h
        refine AW.reg ?_
        refine AO.c (Calm.move rfl rfl) ?_
        refine AO.c (x := eI64 (w64 (x18 + (1 : Int)))) (Calm.int rfl rfl rfl rfl) ?_
        refine AO.c (Calm.assign rfl rfl) ?_
        refine AO.nK [1, 4, 5] ?_
        exact ⟨kq15, Nat.lt_succ_self _, x17, (w64 (x18 + (1 : Int))), rfl, rfl, by rw [hrec14]; exact h⟩
      ·refine AW.condN _ rfl hc16 ?_
       refine AW.eH [4] (H' := []) (Sub.nil _) ?_
       exact ⟨x12, rfl, rfl, h⟩
     ·rintro _ _ ⟨x10, rfl, rfl, h⟩
      rw [bosketref04_set_c0.eq_1] at h
      refine AW.sr ?_
      refine AO.c (Calm.move rfl rfl) ?_
      obtain ⟨hg11, h⟩ := of_guard h
      refine AO.c (x := eStr (x10 ++ (ByteArray.mk #[93]))) (Calm.cat rfl rfl rfl hg11) ?_
      refine AO.c (Calm.assign rfl rfl) ?_
      refine AO.nK [2] ?_
      refine AW.rK [2] ?_
      have hr := Option.some.inj h
      subst hr
      exact ⟨[(eStr (x10 ++ (ByteArray.mk #[93])))], ⟨rfl, rfl, trivial⟩, rfl⟩
end Go.Avl.TE
/- bosket/bosketref04.around; printed by avmain.py. -/
namespace Go.Avl.TE
open Go Go.RowKit Go.Proofs Go.Avl
set_option linter.unusedVariables false
set_option maxRecDepth 100000
set_option maxHeartbeats 4000000
attribute [local irreducible] AW AO AQ Spec SpecH Calm

def bosketref04_around (k : Nat) (p0 : ByteArray) (p1 : Bool) : Option ByteArray :=
  if p1 = true then if (ByteArray.mk #[40]).size + p0.size ≤ 9223372036854775807 then if ((ByteArray.mk #[40]) ++ p0).size + (ByteArray.mk #[41]).size ≤ 9223372036854775807 then some ((((ByteArray.mk #[40]) ++ p0) ++ (ByteArray.mk #[41])))
  else none
  else none
  else some (p0)
theorem bosketref04_around_spec {k : Nat} {p0 : ByteArray} {p1 : Bool} {r : ByteArray} (h : bosketref04_around k p0 p1 = some r) : Spec Tryd.prog 23 [(eStr p0), (eBool p1)] (eStr r) := by
  rw [bosketref04_around.eq_1] at h
  refine Spec.intro (res := [.tmp 4]) Tryd.func23 rfl rfl rfl (Nat.le_of_ble_eq_true rfl) ?_
  refine AW.sr ?_
  refine AO.c (Calm.assign rfl rfl) ?_
  refine AO.nK [0, 1] ?_
  refine AW.seq ?_
  refine AW.sr ?_
  refine AO.c (Calm.move rfl rfl) ?_
  refine AO.nK [0, 5] ?_
  rcases of_ite h with ⟨hc3, h⟩ | ⟨hc3, h⟩
  ·refine AW.condT' _ rfl hc3 ?_
   refine AW.sr ?_
   refine AO.c (Calm.move rfl rfl) ?_
   obtain ⟨hg4, h⟩ := of_guard h
   refine AO.c (x := eStr ((ByteArray.mk #[40]) ++ p0)) (Calm.cat rfl rfl rfl hg4) ?_
   obtain ⟨hg5, h⟩ := of_guard h
   refine AO.c (x := eStr (((ByteArray.mk #[40]) ++ p0) ++ (ByteArray.mk #[41]))) (Calm.cat rfl rfl rfl hg5) ?_
   refine AO.c (Calm.assign rfl rfl) ?_
   refine AO.nK [4] ?_
   refine AW.rK [4] ?_
   have hr := Option.some.inj h
   subst hr
   exact ⟨[(eStr (((ByteArray.mk #[40]) ++ p0) ++ (ByteArray.mk #[41])))], ⟨rfl, rfl, trivial⟩, rfl⟩
  ·refine AW.condF' _ rfl hc3 ?_
   refine AW.sK [0] ?_
   refine AW.sr ?_
   refine AO.c (Calm.move rfl rfl) ?_
   refine AO.c (Calm.assign rfl rfl) ?_
   refine AO.nK [4] ?_
   refine AW.rK [4] ?_
   have hr := Option.some.inj h
   subst hr
   exact ⟨[(eStr p0)], ⟨rfl, rfl, trivial⟩, rfl⟩
end Go.Avl.TE
