/- Parts: T3f42. -/
import Derived.Test.YtcdennkoccjacaaAF1
/- bosket/deriv.First; printed by avmain.py. -/
namespace Go.Avl.T3
open Go Go.RowKit Go.Proofs Go.Avl
set_option linter.unusedVariables false
set_option maxRecDepth 100000
set_option maxHeartbeats 4000000
set_option linter.unusedSimpArgs false
attribute [local irreducible] AW AO AQ Spec SpecH Calm

def deriv_First_c0 (k : Nat) (x4 : (List S102)) : Option (Vector Int 4) :=
  if (x4.length : Int) ≠ (1 : Int) then some ((Vector.replicate 4 (0 : Int)))
  else if 0 ≤ (0 : Int) ∧ (0 : Int) < (x4.length : Int) then some ((lget x4 (0 : Int)).f0)
  else none
def deriv_First_c1 (k : Nat) (rec10 : ((List S102) → Int → Option (Vector Int 4))) (x9 : Int) (x14 : (List S102)) : Option (Vector Int 4) :=
  rec10 x14 (w64 (x9 + (1 : Int)))
def deriv_First_c2 (k : Nat) (rec10 : ((List S102) → Int → Option (Vector Int 4))) (x8 : (List S102)) (x9 : Int) (x30 : (Vector Int 4)) : Option (Vector Int 4) :=
  if 0 ≤ (w64 ((x8.length : Int) - (2 : Int))) ∧ (w64 ((x8.length : Int) - (2 : Int))) ≤ (x8.length : Int) then if ((lget x8 (w64 ((x8.length : Int) - (2 : Int)))).f1) = true then if (x8.take ((w64 ((x8.length : Int) - (2 : Int))).toNat) ++ ([(S102.mk x30 ((lget x8 (w64 ((x8.length : Int) - (1 : Int)))).f1))] : List S102)).length * 40 ≤ 140737488355328 then deriv_First_c1 k rec10 x9 (x8.take ((w64 ((x8.length : Int) - (2 : Int))).toNat) ++ ([(S102.mk x30 ((lget x8 (w64 ((x8.length : Int) - (1 : Int)))).f1))] : List S102))
  else none
  else if (x8.take ((w64 ((x8.length : Int) - (2 : Int))).toNat) ++ ([(S102.mk x30 false)] : List S102)).length * 40 ≤ 140737488355328 then deriv_First_c1 k rec10 x9 (x8.take ((w64 ((x8.length : Int) - (2 : Int))).toNat) ++ ([(S102.mk x30 false)] : List S102))
  else none
  else none
def deriv_First_c3 (k : Nat) (rec10 : ((List S102) → Int → Option (Vector Int 4))) (x8 : (List S102)) (x9 : Int) (b55 : Bool) : Option (Vector Int 4) :=
  if b55 = true then if 0 ≤ (w64 ((x8.length : Int) - (1 : Int))) ∧ (w64 ((x8.length : Int) - (1 : Int))) < (x8.length : Int) then deriv_First_c1 k rec10 x9 (lset x8 (w64 ((x8.length : Int) - (1 : Int))) (S102.mk ((lget x8 (w64 ((x8.length : Int) - (1 : Int)))).f0) true))
  else none
  else deriv_First_c1 k rec10 x9 x8
def deriv_First_l4 (k : Nat) (p0 : (List S82)) : Nat → (List S102) → Int → Option (Vector Int 4)
  | 0, _, _ => none
  | j + 1, x8, x9 =>
    if x9 < (p0.length : Int) then if 0 ≤ x9 ∧ x9 < (p0.length : Int) then if ((lget p0 x9).f0) = (0 : Int) then if (x8 ++ ([(S102.mk (Vector.replicate 4 (0 : Int)) true)] : List S102)).length * 40 ≤ 140737488355328 then deriv_First_c1 k (deriv_First_l4 k p0 j) x9 (x8 ++ ([(S102.mk (Vector.replicate 4 (0 : Int)) true)] : List S102))
    else none
    else if ((lget p0 x9).f0) = (1 : Int) then if (x8 ++ ([(S102.mk ((lget p0 x9).f1) false)] : List S102)).length * 40 ≤ 140737488355328 then deriv_First_c1 k (deriv_First_l4 k p0 j) x9 (x8 ++ ([(S102.mk ((lget p0 x9).f1) false)] : List S102))
    else none
    else if ((lget p0 x9).f0) = (2 : Int) then if 0 ≤ (w64 ((x8.length : Int) - (2 : Int))) ∧ (w64 ((x8.length : Int) - (2 : Int))) < (x8.length : Int) then if 0 ≤ (w64 ((x8.length : Int) - (1 : Int))) ∧ (w64 ((x8.length : Int) - (1 : Int))) < (x8.length : Int) then if ((lget x8 (w64 ((x8.length : Int) - (2 : Int)))).f1) = true then (byteset_Or k ((lget x8 (w64 ((x8.length : Int) - (2 : Int)))).f0) ((lget x8 (w64 ((x8.length : Int) - (1 : Int)))).f0)).bind fun t40 =>
    deriv_First_c2 k (deriv_First_l4 k p0 j) x8 x9 t40
    else deriv_First_c2 k (deriv_First_l4 k p0 j) x8 x9 ((lget x8 (w64 ((x8.length : Int) - (2 : Int)))).f0)
    else none
    else none
    else if ((lget p0 x9).f0) = (3 : Int) then if 0 ≤ (w64 ((x8.length : Int) - (2 : Int))) ∧ (w64 ((x8.length : Int) - (2 : Int))) ≤ (x8.length : Int) then if 0 ≤ (w64 ((x8.length : Int) - (2 : Int))) ∧ (w64 ((x8.length : Int) - (2 : Int))) < (x8.length : Int) then if 0 ≤ (w64 ((x8.length : Int) - (1 : Int))) ∧ (w64 ((x8.length : Int) - (1 : Int))) < (x8.length : Int) then (byteset_Or k ((lget x8 (w64 ((x8.length : Int) - (2 : Int)))).f0) ((lget x8 (w64 ((x8.length : Int) - (1 : Int)))).f0)).bind fun t45 =>
    if 0 ≤ (w64 ((x8.length : Int) - (2 : Int))) ∧ (w64 ((x8.length : Int) - (2 : Int))) < (x8.length : Int) then if ((lget x8 (w64 ((x8.length : Int) - (2 : Int)))).f1) = true then if (x8.take ((w64 ((x8.length : Int) - (2 : Int))).toNat) ++ ([(S102.mk t45 true)] : List S102)).length * 40 ≤ 140737488355328 then deriv_First_c1 k (deriv_First_l4 k p0 j) x9 (x8.take ((w64 ((x8.length : Int) - (2 : Int))).toNat) ++ ([(S102.mk t45 true)] : List S102))
    else none
    else if 0 ≤ (w64 ((x8.length : Int) - (1 : Int))) ∧ (w64 ((x8.length : Int) - (1 : Int))) < (x8.length : Int) then if (x8.take ((w64 ((x8.length : Int) - (2 : Int))).toNat) ++ ([(S102.mk t45 ((lget x8 (w64 ((x8.length : Int) - (1 : Int)))).f1))] : List S102)).length * 40 ≤ 140737488355328 then deriv_First_c1 k (deriv_First_l4 k p0 j) x9 (x8.take ((w64 ((x8.length : Int) - (2 : Int))).toNat) ++ ([(S102.mk t45 ((lget x8 (w64 ((x8.length : Int) - (1 : Int)))).f1))] : List S102))
    else none
    else none
    else none
    else none
    else none
    else none
    else if ((lget p0 x9).f0) = (4 : Int) then deriv_First_c3 k (deriv_First_l4 k p0 j) x8 x9 (decide (((lget p0 x9).f0) = (4 : Int)))
    else deriv_First_c3 k (deriv_First_l4 k p0 j) x8 x9 (decide (((lget p0 x9).f0) = (6 : Int)))
    else none
    else deriv_First_c0 k x8
def deriv_First (k : Nat) (p0 : (List S82)) : Option (Vector Int 4) :=
  deriv_First_l4 k p0 k ([] : List S102) (0 : Int)
theorem deriv_First_spec {k : Nat} {p0 : (List S82)} {r : (Vector Int 4)} (h : deriv_First k p0 = some r) : Spec Try.prog 42 [(.fz 5 (p0.map e82))] (e33 r) := by
  rw [deriv_First.eq_1] at h
  refine Spec.intro (res := [.cell 2 33]) Try.func42 rfl rfl rfl (Nat.le_of_ble_eq_true rfl) ?_
  refine AW.sr ?_
  refine AO.alloc rfl 2 rfl (by decide) rfl zr33 lay33 fun n2 => ?_
  refine AO.nK [0, 2] ?_
  refine AW.sr ?_
  refine AO.c (Calm.assign rfl rfl) ?_
  refine AO.nK [0, 2, 3] ?_
  refine AW.seq_mid (fun ρ H => ∃ (n3 : Nat) (x4 : (List S102)), ρ = [(2, (.ptr n2 0)), (3, (.own n3 0 x4.length))] ∧ H = [(n2, (.mem (.ar 1 ((Vector.replicate 4 (0 : Int)).toList.map eU64)))), (n3, (.mem (.ar 5 (x4.map e102))))] ∧ deriv_First_c0 k x4 = some r) ?_ ?_
  ·refine AW.sr ?_
   refine AO.c (Calm.move rfl rfl) ?_
   refine AO.c (Calm.lenL rfl rfl Try.underlying58) ?_
   refine AO.c (Calm.move rfl rfl) ?_
   refine AO.nK [2, 3, 9, 10, 11] ?_
   refine AW.block ?_
   refine AW.nilOwn 3 5 rfl fun n59 => ?_
   refine AW.wH [2, 3, 9, 10, 11] (H' := [(n2, (.mem (.ar 1 ((Vector.replicate 4 (0 : Int)).toList.map eU64)))), (n59, (.mem (.ar 5 (([] : List S102).map e102))))]) (Sub.cons 1 rfl (Sub.cons 0 rfl (Sub.nil _))) ?_
   refine AW.loop (fun kq ρ H => ∃ (n7 : Nat) (x8 : (List S102)) (x9 : Int), ρ = [(2, (.ptr n2 0)), (3, (.own n7 0 x8.length)), (9, (.fz 5 (p0.map e82))), (10, (eI64 (p0.length : Int))), (11, (eI64 x9))] ∧ H = [(n2, (.mem (.ar 1 ((Vector.replicate 4 (0 : Int)).toList.map eU64)))), (n7, (.mem (.ar 5 (x8.map e102))))] ∧ deriv_First_l4 k p0 kq x8 x9 = some r) k ⟨n59, ([] : List S102), (0 : Int), rfl, rfl, h⟩ ?_
   rintro kq11 _ _ ⟨n7, x8, x9, rfl, rfl, h⟩
   cases kq11 with
   | zero => rw [deriv_First_l4.eq_1] at h; cases h
   | succ kq11 =>
   rw [deriv_First_l4.eq_2] at h
   generalize hrec10 : deriv_First_l4 k p0 kq11 = rec10 at h
   refine AW.sr ?_
   refine AO.c (x := eBool (decide (x9 < (p0.length : Int)))) (Calm.int rfl rfl rfl rfl) ?_
   refine AO.nK [2, 3, 9, 10, 11, 12] ?_
   refine AW.seq ?_
   rcases of_ite h with ⟨hc12, h⟩ | ⟨hc12, h⟩
   ·refine AW.condP _ rfl hc12 ?_
    refine AW.sK [2, 3, 9, 10, 11] ?_
    refine AW.seq_mid (fun ρ H => ∃ (n13 : Nat) (x14 : (List S102)), ρ = [(2, (.ptr n2 0)), (3, (.own n13 0 x14.length)), (9, (.fz 5 (p0.map e82))), (10, (eI64 (p0.length : Int))), (11, (eI64 x9))] ∧ H = [(n2, (.mem (.ar 1 ((Vector.replicate 4 (0 : Int)).toList.map eU64)))), (n13, (.mem (.ar 5 (x14.map e102))))] ∧ deriv_First_c1 k rec10 x9 x14 = some r) ?_ ?_
    ·refine AW.block ?_
     refine AW.sr ?_
     obtain ⟨hg15, h⟩ := of_guard h
     refine AO.c (Calm.idxL (f := e82) rfl rfl rfl hg15 Try.underlying58 sz82) ?_
     refine AO.c (Calm.loadRp rfl rfl ag82 sz82) ?_
     refine AO.alloc rfl 5 rfl (by decide) rfl zr82 lay82 fun n16 => ?_
     refine AO.store (X' := (e82 (lget p0 x9))) 0 rfl rfl rfl rfl rfl rfl (Put.cast Put.here rfl) rfl rfl sz82 rfl ?_
     refine AO.nH [2, 3, 5, 9, 10, 11] (H' := [(n2, (.mem (.ar 1 ((Vector.replicate 4 (0 : Int)).toList.map eU64)))), (n7, (.mem (.ar 5 (x8.map e102)))), (n16, (.mem (e82 (lget p0 x9))))]) (Sub.cons 1 rfl (Sub.cons 1 rfl (Sub.cons 0 rfl (Sub.nil _)))) ?_
     refine AW.sr ?_
     refine AO.c (Calm.move rfl rfl) ?_
     refine AO.c (Calm.lenOwn rfl rfl Try.underlying100) ?_
     refine AO.c (Calm.assign rfl rfl) ?_
     refine AO.nK [2, 3, 5, 6, 9, 10, 11] ?_
     refine AW.sr ?_
     refine AO.c (x := .ptr n16 0) (Calm.fldPtr rfl rfl Try.underlying82 rfl sz3 _ rfl) ?_
     refine AO.c (Calm.load 2 rfl rfl rfl (At.cast (At.fld0 At.here) rfl) ag3 sz3) ?_
     refine AO.nK [2, 3, 5, 6, 9, 10, 11, 18] ?_
     refine AW.block ?_
     refine AW.sr ?_
     refine AO.c (x := eBool (decide (((lget p0 x9).f0) = (0 : Int)))) (Calm.int rfl rfl rfl rfl) ?_
     refine AO.c (Calm.assign rfl rfl) ?_
     refine AO.nK [2, 3, 5, 6, 9, 10, 11, 18, 19] ?_
     rcases of_ite h with ⟨hc17, h⟩ | ⟨hc17, h⟩
     ·refine AW.condP _ rfl hc17 ?_
      refine AW.reg ?_
      refine AO.c (Calm.move rfl rfl) ?_
      refine AO.c (x := .st [(4, (.ar 1 ((Vector.replicate 4 (0 : Int)).toList.map eU64))), (1, (eBool true))]) (Calm.build (qs := [(1, (eBool true))]) rfl ⟨rfl, rfl, rfl, trivial⟩ Try.underlying102 rfl zr102 lay102 (.cons rfl rfl rfl rfl (Put.cast (Put.fldS (Put.fld0 Put.here)) rfl) .nil) rfl) ?_
      refine AO.lit (Z := (.st [(4, (.ar 1 ((Vector.replicate 4 (0 : Int)).toList.map eU64))), (1, (eBool false))])) (xs := (([(S102.mk (Vector.replicate 4 (0 : Int)) true)] : List S102).map e102)) (qs := [(0, (e102 (S102.mk (Vector.replicate 4 (0 : Int)) true)))]) rfl 23 rfl (by decide) rfl ⟨rfl, rfl, rfl, trivial⟩ Try.underlying100 sz102 zr102 lay102 rfl (by decide) (litOK (z := 5) [(e102 (S102.mk (Vector.replicate 4 (0 : Int)) true))] rfl ⟨⟨rfl, rfl⟩, trivial⟩) rfl fun n18 => ?_
      obtain ⟨hg20, h⟩ := of_guard h
      refine AO.appendL (l := x8) (m := ([(S102.mk (Vector.replicate 4 (0 : Int)) true)] : List S102)) 2 24 rfl (by decide) rfl rfl rfl rfl rfl (Src.ownL (f := e102) (l := ([(S102.mk (Vector.replicate 4 (0 : Int)) true)] : List S102)) 0 rfl) Try.underlying100 Try.underlying100 sz102 by102 zr102 rfl hg20 (by decide) fun n19 => ?_
      refine AO.c (Calm.assign rfl rfl) ?_
      refine AO.nH [2, 3, 9, 10, 11] (H' := [(n2, (.mem (.ar 1 ((Vector.replicate 4 (0 : Int)).toList.map eU64)))), (n19, (.mem (.ar 5 ((x8 ++ ([(S102.mk (Vector.replicate 4 (0 : Int)) true)] : List S102)).map e102))))]) (Sub.cons 1 rfl (Sub.cons 1 rfl (Sub.nil _))) ?_
      exact ⟨n19, (x8 ++ ([(S102.mk (Vector.replicate 4 (0 : Int)) true)] : List S102)), rfl, rfl, h⟩
     ·refine AW.condN _ rfl hc17 ?_
      refine AW.sr ?_
      refine AO.c (x := eBool (decide (((lget p0 x9).f0) = (1 : Int)))) (Calm.int rfl rfl rfl rfl) ?_
      refine AO.c (Calm.assign rfl rfl) ?_
      refine AO.nK [2, 3, 5, 6, 9, 10, 11, 18, 25] ?_
      rcases of_ite h with ⟨hc21, h⟩ | ⟨hc21, h⟩
      ·refine AW.condP _ rfl hc21 ?_
       refine AW.reg ?_
       refine AO.c (Calm.move rfl rfl) ?_
       refine AO.c (x := .ptr n16 1) (Calm.fldPtr rfl rfl Try.underlying82 rfl sz33 _ rfl) ?_
       refine AO.c (Calm.load 2 rfl rfl rfl (At.cast (At.fldS (At.fld0 At.here)) rfl) ag33 (by rw [sz33]; simp [AV.size])) ?_
       refine AO.c (x := .st [(4, (.ar 1 (((lget p0 x9).f1).toList.map eU64))), (1, (eBool false))]) (Calm.build (qs := [(0, (.ar 1 (((lget p0 x9).f1).toList.map eU64)))]) rfl ⟨rfl, rfl, rfl, trivial⟩ Try.underlying102 rfl zr102 lay102 (.cons rfl rfl (vec_size _ _) (vec_size _ _) (Put.cast (Put.fld0 Put.here) rfl) .nil) rfl) ?_
       refine AO.lit (Z := (.st [(4, (.ar 1 ((Vector.replicate 4 (0 : Int)).toList.map eU64))), (1, (eBool false))])) (xs := (([(S102.mk ((lget p0 x9).f1) false)] : List S102).map e102)) (qs := [(0, (e102 (S102.mk ((lget p0 x9).f1) false)))]) rfl 31 rfl (by decide) rfl ⟨rfl, rfl, rfl, trivial⟩ Try.underlying100 sz102 zr102 lay102 rfl (by decide) (litOK (z := 5) [(e102 (S102.mk ((lget p0 x9).f1) false))] rfl ⟨⟨rfl, rfl⟩, trivial⟩) rfl fun n22 => ?_
       obtain ⟨hg24, h⟩ := of_guard h
       refine AO.appendL (l := x8) (m := ([(S102.mk ((lget p0 x9).f1) false)] : List S102)) 2 32 rfl (by decide) rfl rfl rfl rfl rfl (Src.ownL (f := e102) (l := ([(S102.mk ((lget p0 x9).f1) false)] : List S102)) 0 rfl) Try.underlying100 Try.underlying100 sz102 by102 zr102 rfl hg24 (by decide) fun n23 => ?_
       refine AO.c (Calm.assign rfl rfl) ?_
       refine AO.nH [2, 3, 9, 10, 11] (H' := [(n2, (.mem (.ar 1 ((Vector.replicate 4 (0 : Int)).toList.map eU64)))), (n23, (.mem (.ar 5 ((x8 ++ ([(S102.mk ((lget p0 x9).f1) false)] : List S102)).map e102))))]) (Sub.cons 1 rfl (Sub.cons 1 rfl (Sub.nil _))) ?_
       exact ⟨n23, (x8 ++ ([(S102.mk ((lget p0 x9).f1) false)] : List S102)), rfl, rfl, h⟩
      ·refine AW.condN _ rfl hc21 ?_
       refine AW.sr ?_
       refine AO.c (x := eBool (decide (((lget p0 x9).f0) = (2 : Int)))) (Calm.int rfl rfl rfl rfl) ?_
       refine AO.c (Calm.assign rfl rfl) ?_
       refine AO.nH [2, 3, 6, 9, 10, 11, 18, 33] (H' := [(n2, (.mem (.ar 1 ((Vector.replicate 4 (0 : Int)).toList.map eU64)))), (n7, (.mem (.ar 5 (x8.map e102))))]) (Sub.cons 0 rfl (Sub.cons 0 rfl (Sub.nil _))) ?_
       rcases of_ite h with ⟨hc25, h⟩ | ⟨hc25, h⟩
       ·refine AW.condP _ rfl hc25 ?_
        refine AW.seq ?_
        obtain ⟨hg26, h⟩ := of_guard h
        obtain ⟨hg27, h⟩ := of_guard h
        refine AW.regEff (by rfl) (by decide +kernel) (fun (σ : Nat → Nat) => ([(.own n7 0 x8.length), (eI64 (x8.length : Int)), (eI64 (w64 ((x8.length : Int) - (2 : Int)))), (.ptr n7 ((w64 ((x8.length : Int) - (2 : Int))).toNat * 5 + 0)), (e102 (lget x8 (w64 ((x8.length : Int) - (2 : Int))))), (.own n7 0 x8.length), (eI64 (x8.length : Int)), (eI64 (w64 ((x8.length : Int) - (1 : Int)))), (.ptr n7 ((w64 ((x8.length : Int) - (1 : Int))).toNat * 5 + 0)), (e102 (lget x8 (w64 ((x8.length : Int) - (1 : Int))))), (.ptr (σ 10) 0), (.ptr (σ 11) 0), (.fl undef), (.fl undef)] : List AV)) (fun (L : Nat → Bool) (σ : Nat → Nat) => ((n2, (.mem (.ar 1 ((Vector.replicate 4 (0 : Int)).toList.map eU64)))) :: (n7, (.mem (.ar 5 (x8.map e102)))) :: (bif L 10 then (bif L 11 then (bif L 12 then (bif L 13 then (((σ 11), (.mem (e102 (lget x8 (w64 ((x8.length : Int) - (1 : Int))))))) :: ((σ 10), (.mem (e102 (lget x8 (w64 ((x8.length : Int) - (2 : Int))))))) :: []) else (((σ 11), (.mem (.st [(4, (.ar 1 ((Vector.replicate 4 (0 : Int)).toList.map eU64))), (1, (eBool false))]))) :: ((σ 10), (.mem (e102 (lget x8 (w64 ((x8.length : Int) - (2 : Int))))))) :: [])) else (((σ 11), (.mem (.st [(4, (.ar 1 ((Vector.replicate 4 (0 : Int)).toList.map eU64))), (1, (eBool false))]))) :: ((σ 10), (.mem (.st [(4, (.ar 1 ((Vector.replicate 4 (0 : Int)).toList.map eU64))), (1, (eBool false))]))) :: [])) else (((σ 10), (.mem (.st [(4, (.ar 1 ((Vector.replicate 4 (0 : Int)).toList.map eU64))), (1, (eBool false))]))) :: [])) else (bif L 11 then (((σ 11), (.mem (.st [(4, (.ar 1 ((Vector.replicate 4 (0 : Int)).toList.map eU64))), (1, (eBool false))]))) :: []) else ([]))) : Heap)) [(2, (.ptr n2 0)), (3, (.own n7 0 x8.length)), (6, (eI64 (x8.length : Int))), (9, (.fz 5 (p0.map e82))), (10, (eI64 (p0.length : Int))), (11, (eI64 x9))] ⟨rfl, rfl, rfl, rfl, rfl, rfl, trivial⟩ (fun _ => rfl) (fun σ => (Sub.refl _)) ⟨?_, ?_, ?_, ?_, ?_, ?_, ?_, ?_, ?_, ?_, ?_, ?_, ?_, ?_, trivial⟩ (fun σ => [(2, (.ptr n2 0)), (3, (.own n7 0 x8.length)), (6, (eI64 (x8.length : Int))), (7, (.ptr (σ 10) 0)), (8, (.ptr (σ 11) 0)), (9, (.fz 5 (p0.map e82))), (10, (eI64 (p0.length : Int))), (11, (eI64 x9))]) (fun σ => ((n2, (.mem (.ar 1 ((Vector.replicate 4 (0 : Int)).toList.map eU64)))) :: (n7, (.mem (.ar 5 (x8.map e102)))) :: ((σ 11), (.mem (e102 (lget x8 (w64 ((x8.length : Int) - (1 : Int))))))) :: ((σ 10), (.mem (e102 (lget x8 (w64 ((x8.length : Int) - (2 : Int))))))) :: [])) (fun σ => ⟨rfl, rfl, rfl, rfl, rfl, rfl, rfl, rfl, trivial⟩) (fun σ => Sub.refl _) (fun σ => ?_)
        ·refine StepE.calm (fun _ _ => rfl) fun L σ hc hi hd => ?_
         refine AO.wK [3] ?_
         refine AO.c (Calm.move rfl rfl) ?_
         exact AO.nE (d := 35) rfl ⟨⟨35, _, rfl, rfl, rfl⟩, Sub.refl _⟩
        ·refine StepE.calm (fun _ _ => rfl) fun L σ hc hi hd => ?_
         refine AO.wK [6] ?_
         refine AO.c (Calm.move rfl rfl) ?_
         exact AO.nE (d := 36) rfl ⟨⟨36, _, rfl, rfl, rfl⟩, Sub.refl _⟩
        ·refine StepE.calm (fun _ _ => rfl) fun L σ hc hi hd => ?_
         refine AO.wK [36] ?_
         refine AO.c (x := eI64 (w64 ((x8.length : Int) - (2 : Int)))) (Calm.int rfl rfl rfl rfl) ?_
         exact AO.nE (d := 37) rfl ⟨⟨37, _, rfl, rfl, rfl⟩, Sub.refl _⟩
        ·refine StepE.calm (fun _ _ => rfl) fun L σ hc hi hd => ?_
         refine AO.wK [35, 37] ?_
         refine AO.c (Calm.idxO 1 rfl rfl rfl rfl hg26 Try.underlying100 sz102) ?_
         exact AO.nE (d := 38) rfl ⟨⟨38, _, rfl, rfl, rfl⟩, Sub.refl _⟩
        ·refine StepE.calm (fun _ _ => rfl) fun L σ hc hi hd => ?_
         refine AO.wK [38] ?_
         refine AO.c (Calm.load 1 rfl rfl rfl (At.cast (At.lidx (w64 ((x8.length : Int) - (2 : Int))) hg26.1 hg26.2 At.here) (by omega)) ag102 sz102) ?_
         exact AO.nE (d := 39) rfl ⟨⟨39, _, rfl, rfl, rfl⟩, Sub.refl _⟩
        ·refine StepE.calm (fun _ _ => rfl) fun L σ hc hi hd => ?_
         refine AO.wK [3] ?_
         refine AO.c (Calm.move rfl rfl) ?_
         exact AO.nE (d := 40) rfl ⟨⟨40, _, rfl, rfl, rfl⟩, Sub.refl _⟩
        ·refine StepE.calm (fun _ _ => rfl) fun L σ hc hi hd => ?_
         refine AO.wK [6] ?_
         refine AO.c (Calm.move rfl rfl) ?_
         exact AO.nE (d := 41) rfl ⟨⟨41, _, rfl, rfl, rfl⟩, Sub.refl _⟩
        ·refine StepE.calm (fun _ _ => rfl) fun L σ hc hi hd => ?_
         refine AO.wK [41] ?_
         refine AO.c (x := eI64 (w64 ((x8.length : Int) - (1 : Int)))) (Calm.int rfl rfl rfl rfl) ?_
         exact AO.nE (d := 42) rfl ⟨⟨42, _, rfl, rfl, rfl⟩, Sub.refl _⟩
        ·refine StepE.calm (fun _ _ => rfl) fun L σ hc hi hd => ?_
         refine AO.wK [40, 42] ?_
         refine AO.c (Calm.idxO 1 rfl rfl rfl rfl hg27 Try.underlying100 sz102) ?_
         exact AO.nE (d := 43) rfl ⟨⟨43, _, rfl, rfl, rfl⟩, Sub.refl _⟩
        ·refine StepE.calm (fun _ _ => rfl) fun L σ hc hi hd => ?_
         refine AO.wK [43] ?_
         refine AO.c (Calm.load 1 rfl rfl rfl (At.cast (At.lidx (w64 ((x8.length : Int) - (1 : Int))) hg27.1 hg27.2 At.here) (by omega)) ag102 sz102) ?_
         exact AO.nE (d := 44) rfl ⟨⟨44, _, rfl, rfl, rfl⟩, Sub.refl _⟩
        ·intro L σ hc hi hd
         have m12 : L 12 = false := hc.neg (i := 10) (j := 12) rfl (by rfl) hi
         have m13 : L 13 = false := hc.neg (i := 10) (j := 13) rfl (by rfl) hi
         cases b11 : L 11 with
         | true =>
           refine AO.heq (H' := ((n2, (.mem (.ar 1 ((Vector.replicate 4 (0 : Int)).toList.map eU64)))) :: (n7, (.mem (.ar 5 (x8.map e102)))) :: ((σ 11), (.mem (.st [(4, (.ar 1 ((Vector.replicate 4 (0 : Int)).toList.map eU64))), (1, (eBool false))]))) :: [])) (by first | rfl | simp only [hi, b11, m12, m13, cond_true, cond_false]) ?_
           refine AO.wK [] ?_
           refine AO.alloc rfl 7 rfl (by decide) rfl zr102 lay102 fun n28 => ?_
           have a10 : addL L 10 10 = true := rfl
           have a11 : addL L 10 11 = true := b11
           have a12 : addL L 10 12 = false := m12
           have a13 : addL L 10 13 = false := m13
           have u10 : upd σ 10 n28 10 = n28 := rfl
           have u11 : upd σ 10 n28 11 = σ 11 := rfl
           exact AO.nE (d := 7) rfl ⟨(upd σ 10 n28), (fun j hj => match j, hj with | 0, _ => rfl | 1, _ => rfl | 2, _ => rfl | 3, _ => rfl | 4, _ => rfl | 5, _ => rfl | 6, _ => rfl | 7, _ => rfl | 8, _ => rfl | 9, _ => rfl | 10, hj => Bool.noConfusion (hj.symm.trans hi) | 11, _ => rfl | 12, _ => rfl | 13, _ => rfl | _ + 14, _ => rfl), (fun d' hd' => ⟨_, rfl, by cases hd'; rfl⟩), Sub.of_eq (B := ((n2, (.mem (.ar 1 ((Vector.replicate 4 (0 : Int)).toList.map eU64)))) :: (n7, (.mem (.ar 5 (x8.map e102)))) :: ((σ 11), (.mem (.st [(4, (.ar 1 ((Vector.replicate 4 (0 : Int)).toList.map eU64))), (1, (eBool false))]))) :: (n28, (.mem (.st [(4, (.ar 1 ((Vector.replicate 4 (0 : Int)).toList.map eU64))), (1, (eBool false))]))) :: [])) (by simp only [a10, a11, a12, a13, u10, u11, cond_true, cond_false]) (Sub.cons 1 rfl (Sub.cons 1 rfl (Sub.cons 1 rfl (Sub.cons 0 rfl (Sub.refl _)))))⟩
         | false =>
           refine AO.heq (H' := ((n2, (.mem (.ar 1 ((Vector.replicate 4 (0 : Int)).toList.map eU64)))) :: (n7, (.mem (.ar 5 (x8.map e102)))) :: [])) (by first | rfl | simp only [hi, b11, m12, m13, cond_true, cond_false]) ?_
           refine AO.wK [] ?_
           refine AO.alloc rfl 7 rfl (by decide) rfl zr102 lay102 fun n28 => ?_
           have a10 : addL L 10 10 = true := rfl
           have a11 : addL L 10 11 = false := b11
           have a12 : addL L 10 12 = false := m12
           have a13 : addL L 10 13 = false := m13
           have u10 : upd σ 10 n28 10 = n28 := rfl
           have u11 : upd σ 10 n28 11 = σ 11 := rfl
           exact AO.nE (d := 7) rfl ⟨(upd σ 10 n28), (fun j hj => match j, hj with | 0, _ => rfl | 1, _ => rfl | 2, _ => rfl | 3, _ => rfl | 4, _ => rfl | 5, _ => rfl | 6, _ => rfl | 7, _ => rfl | 8, _ => rfl | 9, _ => rfl | 10, hj => Bool.noConfusion (hj.symm.trans hi) | 11, _ => rfl | 12, _ => rfl | 13, _ => rfl | _ + 14, _ => rfl), (fun d' hd' => ⟨_, rfl, by cases hd'; rfl⟩), Sub.of_eq (B := ((n2, (.mem (.ar 1 ((Vector.replicate 4 (0 : Int)).toList.map eU64)))) :: (n7, (.mem (.ar 5 (x8.map e102)))) :: (n28, (.mem (.st [(4, (.ar 1 ((Vector.replicate 4 (0 : Int)).toList.map eU64))), (1, (eBool false))]))) :: [])) (by simp only [a10, a11, a12, a13, u10, u11, cond_true, cond_false]) (Sub.cons 1 rfl (Sub.cons 1 rfl (Sub.cons 0 rfl (Sub.refl _))))⟩
        ·intro L σ hc hi hd
         have m12 : L 12 = false := hc.neg (i := 11) (j := 12) rfl (by rfl) hi
         have m13 : L 13 = false := hc.neg (i := 11) (j := 13) rfl (by rfl) hi
         cases b10 : L 10 with
         | true =>
           refine AO.heq (H' := ((n2, (.mem (.ar 1 ((Vector.replicate 4 (0 : Int)).toList.map eU64)))) :: (n7, (.mem (.ar 5 (x8.map e102)))) :: ((σ 10), (.mem (.st [(4, (.ar 1 ((Vector.replicate 4 (0 : Int)).toList.map eU64))), (1, (eBool false))]))) :: [])) (by first | rfl | simp only [hi, b10, m12, m13, cond_true, cond_false]) ?_
           refine AO.wK [] ?_
           refine AO.alloc rfl 8 rfl (by decide) rfl zr102 lay102 fun n29 => ?_
           have a10 : addL L 11 10 = true := b10
           have a11 : addL L 11 11 = true := rfl
           have a12 : addL L 11 12 = false := m12
           have a13 : addL L 11 13 = false := m13
           have u10 : upd σ 11 n29 10 = σ 10 := rfl
           have u11 : upd σ 11 n29 11 = n29 := rfl
           exact AO.nE (d := 8) rfl ⟨(upd σ 11 n29), (fun j hj => match j, hj with | 0, _ => rfl | 1, _ => rfl | 2, _ => rfl | 3, _ => rfl | 4, _ => rfl | 5, _ => rfl | 6, _ => rfl | 7, _ => rfl | 8, _ => rfl | 9, _ => rfl | 10, _ => rfl | 11, hj => Bool.noConfusion (hj.symm.trans hi) | 12, _ => rfl | 13, _ => rfl | _ + 14, _ => rfl), (fun d' hd' => ⟨_, rfl, by cases hd'; rfl⟩), Sub.of_eq (B := ((n2, (.mem (.ar 1 ((Vector.replicate 4 (0 : Int)).toList.map eU64)))) :: (n7, (.mem (.ar 5 (x8.map e102)))) :: (n29, (.mem (.st [(4, (.ar 1 ((Vector.replicate 4 (0 : Int)).toList.map eU64))), (1, (eBool false))]))) :: ((σ 10), (.mem (.st [(4, (.ar 1 ((Vector.replicate 4 (0 : Int)).toList.map eU64))), (1, (eBool false))]))) :: [])) (by simp only [a10, a11, a12, a13, u10, u11, cond_true, cond_false]) (Sub.cons 1 rfl (Sub.cons 1 rfl (Sub.cons 0 rfl (Sub.cons 0 rfl (Sub.refl _)))))⟩
         | false =>
           refine AO.heq (H' := ((n2, (.mem (.ar 1 ((Vector.replicate 4 (0 : Int)).toList.map eU64)))) :: (n7, (.mem (.ar 5 (x8.map e102)))) :: [])) (by first | rfl | simp only [hi, b10, m12, m13, cond_true, cond_false]) ?_
           refine AO.wK [] ?_
           refine AO.alloc rfl 8 rfl (by decide) rfl zr102 lay102 fun n29 => ?_
           have a10 : addL L 11 10 = false := b10
           have a11 : addL L 11 11 = true := rfl
           have a12 : addL L 11 12 = false := m12
           have a13 : addL L 11 13 = false := m13
           have u10 : upd σ 11 n29 10 = σ 10 := rfl
           have u11 : upd σ 11 n29 11 = n29 := rfl
           exact AO.nE (d := 8) rfl ⟨(upd σ 11 n29), (fun j hj => match j, hj with | 0, _ => rfl | 1, _ => rfl | 2, _ => rfl | 3, _ => rfl | 4, _ => rfl | 5, _ => rfl | 6, _ => rfl | 7, _ => rfl | 8, _ => rfl | 9, _ => rfl | 10, _ => rfl | 11, hj => Bool.noConfusion (hj.symm.trans hi) | 12, _ => rfl | 13, _ => rfl | _ + 14, _ => rfl), (fun d' hd' => ⟨_, rfl, by cases hd'; rfl⟩), Sub.of_eq (B := ((n2, (.mem (.ar 1 ((Vector.replicate 4 (0 : Int)).toList.map eU64)))) :: (n7, (.mem (.ar 5 (x8.map e102)))) :: (n29, (.mem (.st [(4, (.ar 1 ((Vector.replicate 4 (0 : Int)).toList.map eU64))), (1, (eBool false))]))) :: [])) (by simp only [a10, a11, a12, a13, u10, u11, cond_true, cond_false]) (Sub.cons 1 rfl (Sub.cons 1 rfl (Sub.cons 0 rfl (Sub.refl _))))⟩
        ·intro L σ hc hi hd
         have y10 : L 10 = true := on_get hd (i := 10) (by rfl)
         have y11 : L 11 = true := on_get hd (i := 11) (by rfl)
         have m13 : L 13 = false := hc.neg (i := 12) (j := 13) rfl (by rfl) hi
         refine AO.heq (H' := ((n2, (.mem (.ar 1 ((Vector.replicate 4 (0 : Int)).toList.map eU64)))) :: (n7, (.mem (.ar 5 (x8.map e102)))) :: ((σ 11), (.mem (.st [(4, (.ar 1 ((Vector.replicate 4 (0 : Int)).toList.map eU64))), (1, (eBool false))]))) :: ((σ 10), (.mem (.st [(4, (.ar 1 ((Vector.replicate 4 (0 : Int)).toList.map eU64))), (1, (eBool false))]))) :: [])) (by first | rfl | simp only [hi, y10, y11, m13, cond_true, cond_false]) ?_
         refine AO.wK [7, 39] ?_
         refine AO.store (X' := (e102 (lget x8 (w64 ((x8.length : Int) - (2 : Int)))))) 3 rfl rfl rfl rfl rfl rfl (Put.cast Put.here rfl) rfl rfl sz102 rfl ?_
         have a10 : addL L 12 10 = true := y10
         have a11 : addL L 12 11 = true := y11
         have a12 : addL L 12 12 = true := rfl
         have a13 : addL L 12 13 = false := m13
         exact AO.n0 ⟨σ, (fun _ _ => rfl), (fun d' hd' => by cases hd'), Sub.of_eq (B := ((n2, (.mem (.ar 1 ((Vector.replicate 4 (0 : Int)).toList.map eU64)))) :: (n7, (.mem (.ar 5 (x8.map e102)))) :: ((σ 11), (.mem (.st [(4, (.ar 1 ((Vector.replicate 4 (0 : Int)).toList.map eU64))), (1, (eBool false))]))) :: ((σ 10), (.mem (e102 (lget x8 (w64 ((x8.length : Int) - (2 : Int))))))) :: [])) (by simp only [a10, a11, a12, a13, cond_true, cond_false]) (Sub.refl _)⟩
        ·intro L σ hc hi hd
         have y10 : L 10 = true := on_get hd (i := 10) (by rfl)
         have y11 : L 11 = true := on_get hd (i := 11) (by rfl)
         have y12 : L 12 = true := on_get hd (i := 12) (by rfl)
         refine AO.heq (H' := ((n2, (.mem (.ar 1 ((Vector.replicate 4 (0 : Int)).toList.map eU64)))) :: (n7, (.mem (.ar 5 (x8.map e102)))) :: ((σ 11), (.mem (.st [(4, (.ar 1 ((Vector.replicate 4 (0 : Int)).toList.map eU64))), (1, (eBool false))]))) :: ((σ 10), (.mem (e102 (lget x8 (w64 ((x8.length : Int) - (2 : Int))))))) :: [])) (by first | rfl | simp only [hi, y10, y11, y12, cond_true, cond_false]) ?_
         refine AO.wK [8, 44] ?_
         refine AO.store (X' := (e102 (lget x8 (w64 ((x8.length : Int) - (1 : Int)))))) 2 rfl rfl rfl rfl rfl rfl (Put.cast Put.here rfl) rfl rfl sz102 rfl ?_
         have a10 : addL L 13 10 = true := y10
         have a11 : addL L 13 11 = true := y11
         have a12 : addL L 13 12 = true := y12
         have a13 : addL L 13 13 = true := rfl
         exact AO.n0 ⟨σ, (fun _ _ => rfl), (fun d' hd' => by cases hd'), Sub.of_eq (B := ((n2, (.mem (.ar 1 ((Vector.replicate 4 (0 : Int)).toList.map eU64)))) :: (n7, (.mem (.ar 5 (x8.map e102)))) :: ((σ 11), (.mem (e102 (lget x8 (w64 ((x8.length : Int) - (1 : Int))))))) :: ((σ 10), (.mem (e102 (lget x8 (w64 ((x8.length : Int) - (2 : Int))))))) :: [])) (by simp only [a10, a11, a12, a13, cond_true, cond_false]) (Sub.refl _)⟩
        ·generalize σ 10 = n28
         generalize σ 11 = n29
         refine AO.nH [2, 3, 6, 7, 8, 9, 10, 11] (H' := [(n2, (.mem (.ar 1 ((Vector.replicate 4 (0 : Int)).toList.map eU64)))), (n7, (.mem (.ar 5 (x8.map e102)))), (n28, (.mem (e102 (lget x8 (w64 ((x8.length : Int) - (2 : Int))))))), (n29, (.mem (e102 (lget x8 (w64 ((x8.length : Int) - (1 : Int)))))))]) (Sub.cons 0 rfl (Sub.cons 0 rfl (Sub.cons 1 rfl (Sub.cons 0 rfl (Sub.nil _))))) ?_
         refine AW.seq_mid (fun ρ H => ∃ (x30 : (Vector Int 4)), ρ = [(2, (.ptr n2 0)), (3, (.own n7 0 x8.length)), (6, (eI64 (x8.length : Int))), (7, (.ptr n28 0)), (8, (.ptr n29 0)), (9, (.fz 5 (p0.map e82))), (10, (eI64 (p0.length : Int))), (11, (eI64 x9))] ∧ H = [(n2, (.mem (.ar 1 ((Vector.replicate 4 (0 : Int)).toList.map eU64)))), (n7, (.mem (.ar 5 (x8.map e102)))), (n28, (.mem (.st [(4, (.ar 1 (x30.toList.map eU64))), (1, (eBool ((lget x8 (w64 ((x8.length : Int) - (2 : Int)))).f1)))]))), (n29, (.mem (e102 (lget x8 (w64 ((x8.length : Int) - (1 : Int)))))))] ∧ deriv_First_c2 k rec10 x8 x9 x30 = some r) ?_ ?_
         ·refine AW.sr ?_
          refine AO.c (x := .ptr n28 4) (Calm.fldPtr rfl rfl Try.underlying102 rfl sz4 _ rfl) ?_
          refine AO.c (Calm.load 2 rfl rfl rfl (At.cast (At.fldS (At.fld0 At.here)) rfl) ag4 sz4) ?_
          refine AO.nK [2, 3, 6, 7, 8, 9, 10, 11, 46] ?_
          rcases of_ite h with ⟨hc39, h⟩ | ⟨hc39, h⟩
          ·refine AW.condT' _ rfl hc39 ?_
           refine AW.reg ?_
           refine AO.c (x := .ptr n28 0) (Calm.fldPtr rfl rfl Try.underlying102 rfl sz33 _ rfl) ?_
           refine AO.c (Calm.load 2 rfl rfl rfl (At.cast (At.fld0 At.here) rfl) ag33 (by rw [sz33]; simp [AV.size])) ?_
           refine AO.c (x := .ptr n29 0) (Calm.fldPtr rfl rfl Try.underlying102 rfl sz33 _ rfl) ?_
           refine AO.c (Calm.load 3 rfl rfl rfl (At.cast (At.fld0 At.here) rfl) ag33 (by rw [sz33]; simp [AV.size])) ?_
           obtain ⟨t40, et40, h⟩ := of_bind h
           refine AO.callS [(.ar 1 (((lget x8 (w64 ((x8.length : Int) - (2 : Int)))).f0).toList.map eU64)), (.ar 1 (((lget x8 (w64 ((x8.length : Int) - (1 : Int)))).f0).toList.map eU64))] (.ar 1 (t40.toList.map eU64)) 51 rfl (by decide) ok64 rfl rfl rfl ⟨rfl, rfl, rfl, rfl, trivial⟩ (byteset_Or_spec et40) ?_
           refine AO.c (x := .ptr n28 0) (Calm.fldPtr rfl rfl Try.underlying102 rfl sz33 _ rfl) ?_
           refine AO.store (X' := (.st [(4, (.ar 1 (t40.toList.map eU64))), (1, (eBool ((lget x8 (w64 ((x8.length : Int) - (2 : Int)))).f1)))])) 2 rfl rfl rfl rfl rfl rfl (Put.cast (Put.fld0 Put.here) rfl) rfl (by simp [AV.size]) (by rw [sz33]; simp [AV.size]) rfl ?_
           refine AO.nK [2, 3, 6, 7, 8, 9, 10, 11] ?_
           exact ⟨t40, rfl, rfl, h⟩
          ·refine AW.condF' _ rfl hc39 ?_
           refine AW.sK [2, 3, 6, 7, 8, 9, 10, 11] ?_
           exact ⟨(lget x8 (w64 ((x8.length : Int) - (2 : Int)))).f0, rfl, rfl, h⟩
         ·rintro _ _ ⟨x30, rfl, rfl, h⟩
          rw [deriv_First_c2.eq_1] at h
          obtain ⟨hg31, h⟩ := of_guard h
          rcases of_ite h with ⟨hc32, h⟩ | ⟨hc32, h⟩
          ·obtain ⟨hg35, h⟩ := of_guard h
           refine AW.regEff (by rfl) (by decide +kernel) (fun (σ : Nat → Nat) => ([(.own n7 0 x8.length), (eI64 (x8.length : Int)), (eI64 (w64 ((x8.length : Int) - (2 : Int)))), (.own n7 0 ((w64 ((x8.length : Int) - (2 : Int))).toNat)), (.ptr n28 0), (.ar 1 (x30.toList.map eU64)), (.ptr n28 4), (eBool ((lget x8 (w64 ((x8.length : Int) - (2 : Int)))).f1)), (eBool ((lget x8 (w64 ((x8.length : Int) - (2 : Int)))).f1)), (.ptr n29 4), (eBool ((lget x8 (w64 ((x8.length : Int) - (1 : Int)))).f1)), (eBool ((lget x8 (w64 ((x8.length : Int) - (1 : Int)))).f1)), (e102 (S102.mk x30 ((lget x8 (w64 ((x8.length : Int) - (1 : Int)))).f1))), (.fz 5 (([(S102.mk x30 ((lget x8 (w64 ((x8.length : Int) - (1 : Int)))).f1))] : List S102).map e102)), (.own (σ 14) 0 (x8.take ((w64 ((x8.length : Int) - (2 : Int))).toNat) ++ ([(S102.mk x30 ((lget x8 (w64 ((x8.length : Int) - (1 : Int)))).f1))] : List S102)).length), (.own (σ 14) 0 (x8.take ((w64 ((x8.length : Int) - (2 : Int))).toNat) ++ ([(S102.mk x30 ((lget x8 (w64 ((x8.length : Int) - (1 : Int)))).f1))] : List S102)).length)] : List AV)) (fun (L : Nat → Bool) (σ : Nat → Nat) => ((n2, (.mem (.ar 1 ((Vector.replicate 4 (0 : Int)).toList.map eU64)))) :: (n28, (.mem (.st [(4, (.ar 1 (x30.toList.map eU64))), (1, (eBool ((lget x8 (w64 ((x8.length : Int) - (2 : Int)))).f1)))]))) :: (n29, (.mem (e102 (lget x8 (w64 ((x8.length : Int) - (1 : Int))))))) :: (bif L 14 then (((σ 14), (.mem (.ar 5 ((x8.take ((w64 ((x8.length : Int) - (2 : Int))).toNat) ++ ([(S102.mk x30 ((lget x8 (w64 ((x8.length : Int) - (1 : Int)))).f1))] : List S102)).map e102)))) :: []) else ((n7, (.mem (.ar 5 (x8.map e102)))) :: [])) : Heap)) [(2, (.ptr n2 0)), (3, (.own n7 0 x8.length)), (6, (eI64 (x8.length : Int))), (7, (.ptr n28 0)), (8, (.ptr n29 0)), (9, (.fz 5 (p0.map e82))), (10, (eI64 (p0.length : Int))), (11, (eI64 x9))] ⟨rfl, rfl, rfl, rfl, rfl, rfl, rfl, rfl, trivial⟩ (fun _ => rfl) (fun σ => (Sub.cons 0 rfl (Sub.cons 1 rfl (Sub.cons 1 rfl (Sub.cons 0 rfl (Sub.refl _)))))) ⟨?_, ?_, ?_, ?_, ?_, ?_, ?_, ?_, ?_, ?_, ?_, ?_, ?_, ?_, ?_, ?_, trivial⟩ (fun σ => [(2, (.ptr n2 0)), (3, (.own (σ 14) 0 (x8.take ((w64 ((x8.length : Int) - (2 : Int))).toNat) ++ ([(S102.mk x30 ((lget x8 (w64 ((x8.length : Int) - (1 : Int)))).f1))] : List S102)).length)), (9, (.fz 5 (p0.map e82))), (10, (eI64 (p0.length : Int))), (11, (eI64 x9))]) (fun σ => ((n2, (.mem (.ar 1 ((Vector.replicate 4 (0 : Int)).toList.map eU64)))) :: (n28, (.mem (.st [(4, (.ar 1 (x30.toList.map eU64))), (1, (eBool ((lget x8 (w64 ((x8.length : Int) - (2 : Int)))).f1)))]))) :: (n29, (.mem (e102 (lget x8 (w64 ((x8.length : Int) - (1 : Int))))))) :: ((σ 14), (.mem (.ar 5 ((x8.take ((w64 ((x8.length : Int) - (2 : Int))).toNat) ++ ([(S102.mk x30 ((lget x8 (w64 ((x8.length : Int) - (1 : Int)))).f1))] : List S102)).map e102)))) :: [])) (fun σ => ⟨rfl, rfl, rfl, rfl, rfl, trivial⟩) (fun σ => Sub.refl _) (fun σ => ?_)
           ·refine StepE.calm (fun _ _ => rfl) fun L σ hc hi hd => ?_
            have m3 : L 3 = false := hc.neg (i := 0) (j := 3) rfl (by rfl) hi
            have m14 : L 14 = false := hc.neg (i := 3) (j := 14) rfl (by rfl) m3
            refine AO.heq (H' := ((n2, (.mem (.ar 1 ((Vector.replicate 4 (0 : Int)).toList.map eU64)))) :: (n28, (.mem (.st [(4, (.ar 1 (x30.toList.map eU64))), (1, (eBool ((lget x8 (w64 ((x8.length : Int) - (2 : Int)))).f1)))]))) :: (n29, (.mem (e102 (lget x8 (w64 ((x8.length : Int) - (1 : Int))))))) :: (n7, (.mem (.ar 5 (x8.map e102)))) :: [])) (by first | rfl | simp only [m14, cond_true, cond_false]) ?_
            refine AO.wK [3] ?_
            refine AO.c (Calm.move rfl rfl) ?_
            exact AO.nE (d := 53) rfl ⟨⟨53, _, rfl, rfl, rfl⟩, Sub.of_eq (by first | rfl | simp only [m14, cond_true, cond_false]) (Sub.refl _)⟩
           ·refine StepE.calm (fun _ _ => rfl) fun L σ hc hi hd => ?_
            refine AO.wK [6] ?_
            refine AO.c (Calm.move rfl rfl) ?_
            exact AO.nE (d := 54) rfl ⟨⟨54, _, rfl, rfl, rfl⟩, Sub.refl _⟩
           ·refine StepE.calm (fun _ _ => rfl) fun L σ hc hi hd => ?_
            refine AO.wK [54] ?_
            refine AO.c (x := eI64 (w64 ((x8.length : Int) - (2 : Int)))) (Calm.int rfl rfl rfl rfl) ?_
            exact AO.nE (d := 55) rfl ⟨⟨55, _, rfl, rfl, rfl⟩, Sub.refl _⟩
           ·refine StepE.calm (fun _ _ => rfl) fun L σ hc hi hd => ?_
            have m14 : L 14 = false := hc.neg (i := 3) (j := 14) rfl (by rfl) hi
            refine AO.heq (H' := ((n2, (.mem (.ar 1 ((Vector.replicate 4 (0 : Int)).toList.map eU64)))) :: (n28, (.mem (.st [(4, (.ar 1 (x30.toList.map eU64))), (1, (eBool ((lget x8 (w64 ((x8.length : Int) - (2 : Int)))).f1)))]))) :: (n29, (.mem (e102 (lget x8 (w64 ((x8.length : Int) - (1 : Int))))))) :: (n7, (.mem (.ar 5 (x8.map e102)))) :: [])) (by first | rfl | simp only [m14, cond_true, cond_false]) ?_
            refine AO.wK [53, 55] ?_
            refine AO.c (x := .own n7 0 ((w64 ((x8.length : Int) - (2 : Int))).toNat)) (Calm.preO 3 rfl rfl rfl rfl hg31 Try.underlying100 sz102) ?_
            exact AO.nE (d := 56) rfl ⟨⟨56, _, rfl, rfl, rfl⟩, Sub.of_eq (by first | rfl | simp only [m14, cond_true, cond_false]) (Sub.refl _)⟩
           ·refine StepE.calm (fun _ _ => rfl) fun L σ hc hi hd => ?_
            refine AO.wK [7] ?_
            refine AO.c (x := .ptr n28 0) (Calm.fldPtr rfl rfl Try.underlying102 rfl sz33 _ rfl) ?_
            exact AO.nE (d := 57) rfl ⟨⟨57, _, rfl, rfl, rfl⟩, Sub.refl _⟩
           ·refine StepE.calm (fun _ _ => rfl) fun L σ hc hi hd => ?_
            refine AO.wK [57] ?_
            refine AO.c (Calm.load 1 rfl rfl rfl (At.cast (At.fld0 At.here) rfl) ag33 (by rw [sz33]; simp [AV.size])) ?_
            exact AO.nE (d := 58) rfl ⟨⟨58, _, rfl, rfl, rfl⟩, Sub.refl _⟩
           ·refine StepE.calm (fun _ _ => rfl) fun L σ hc hi hd => ?_
            refine AO.wK [7] ?_
            refine AO.c (x := .ptr n28 4) (Calm.fldPtr rfl rfl Try.underlying102 rfl sz4 _ rfl) ?_
            exact AO.nE (d := 59) rfl ⟨⟨59, _, rfl, rfl, rfl⟩, Sub.refl _⟩
           ·refine StepE.calm (fun _ _ => rfl) fun L σ hc hi hd => ?_
            refine AO.wK [59] ?_
            refine AO.c (Calm.load 1 rfl rfl rfl (At.cast (At.fldS (At.fld0 At.here)) rfl) ag4 sz4) ?_
            exact AO.nE (d := 60) rfl ⟨⟨60, _, rfl, rfl, rfl⟩, Sub.refl _⟩
           ·refine StepE.calm (fun _ _ => rfl) fun L σ hc hi hd => ?_
            refine AO.wK [60] ?_
            refine AO.c (Calm.move rfl rfl) ?_
            exact AO.nE (d := 61) rfl ⟨⟨61, _, rfl, rfl, rfl⟩, Sub.refl _⟩
           ·refine StepE.calm (fun _ _ => rfl) fun L σ hc hi hd => ?_
            refine AO.wK [8, 61] ?_
            refine AO.cG (x := .ptr n29 4) rfl rfl (bD hc32) (Calm.fldPtr rfl rfl Try.underlying102 rfl sz4 _ rfl) ?_
            exact AO.nE (d := 62) rfl ⟨⟨62, _, rfl, rfl, rfl⟩, Sub.refl _⟩
           ·refine StepE.calm (fun _ _ => rfl) fun L σ hc hi hd => ?_
            refine AO.wK [61, 62] ?_
            refine AO.cG rfl rfl (bD hc32) (Calm.load 2 rfl rfl rfl (At.cast (At.fldS (At.fld0 At.here)) rfl) ag4 sz4) ?_
            exact AO.nE (d := 63) rfl ⟨⟨63, _, rfl, rfl, rfl⟩, Sub.refl _⟩
           ·refine StepE.calm (fun _ _ => rfl) fun L σ hc hi hd => ?_
            refine AO.wK [61, 63] ?_
            refine AO.c (Calm.pickT rfl (bD hc32) rfl) ?_
            exact AO.nE (d := 64) rfl ⟨⟨64, _, rfl, rfl, rfl⟩, Sub.refl _⟩
           ·refine StepE.calm (fun _ _ => rfl) fun L σ hc hi hd => ?_
            refine AO.wK [58, 64] ?_
            refine AO.c (x := .st [(4, (.ar 1 (x30.toList.map eU64))), (1, (eBool ((lget x8 (w64 ((x8.length : Int) - (1 : Int)))).f1)))]) (Calm.build (qs := [(0, (.ar 1 (x30.toList.map eU64))), (1, (eBool ((lget x8 (w64 ((x8.length : Int) - (1 : Int)))).f1)))]) rfl ⟨rfl, rfl, rfl, rfl, rfl, rfl, trivial⟩ Try.underlying102 rfl zr102 lay102 (.cons rfl rfl (vec_size _ _) (vec_size _ _) (Put.cast (Put.fld0 Put.here) rfl) (.cons rfl rfl rfl rfl (Put.cast (Put.fldS (Put.fld0 Put.here)) rfl) .nil)) rfl) ?_
            exact AO.nE (d := 65) rfl ⟨⟨65, _, rfl, rfl, rfl⟩, Sub.refl _⟩
           ·refine StepE.calm (fun _ _ => rfl) fun L σ hc hi hd => ?_
            refine AO.wK [65] ?_
            refine AO.lit (Z := (.st [(4, (.ar 1 ((Vector.replicate 4 (0 : Int)).toList.map eU64))), (1, (eBool false))])) (xs := (([(S102.mk x30 ((lget x8 (w64 ((x8.length : Int) - (1 : Int)))).f1))] : List S102).map e102)) (qs := [(0, (e102 (S102.mk x30 ((lget x8 (w64 ((x8.length : Int) - (1 : Int)))).f1))))]) rfl 66 rfl (by decide) rfl ⟨rfl, rfl, rfl, trivial⟩ Try.underlying100 sz102 zr102 lay102 rfl (by decide) (litOK (z := 5) [(e102 (S102.mk x30 ((lget x8 (w64 ((x8.length : Int) - (1 : Int)))).f1)))] rfl ⟨⟨rfl, rfl⟩, trivial⟩) rfl fun n33 => ?_
            refine AO.freezeS 0 [(66, (.fz 5 (([(S102.mk x30 ((lget x8 (w64 ((x8.length : Int) - (1 : Int)))).f1))] : List S102).map e102)))] rfl ⟨fz_all rfl, trivial⟩ ?_
            exact AO.nE (d := 66) rfl ⟨⟨66, _, rfl, rfl, rfl⟩, Sub.refl _⟩
           ·intro L σ hc hi hd
            refine AO.heq (H' := ((n2, (.mem (.ar 1 ((Vector.replicate 4 (0 : Int)).toList.map eU64)))) :: (n28, (.mem (.st [(4, (.ar 1 (x30.toList.map eU64))), (1, (eBool ((lget x8 (w64 ((x8.length : Int) - (2 : Int)))).f1)))]))) :: (n29, (.mem (e102 (lget x8 (w64 ((x8.length : Int) - (1 : Int))))))) :: (n7, (.mem (.ar 5 (x8.map e102)))) :: [])) (by first | rfl | simp only [hi, cond_true, cond_false]) ?_
            refine AO.wK [56, 66] ?_
            refine AO.appendCut (l := x8) (m := ([(S102.mk x30 ((lget x8 (w64 ((x8.length : Int) - (1 : Int)))).f1))] : List S102)) 3 67 rfl (by decide) rfl rfl rfl (by omega) rfl rfl Src.fz Try.underlying100 Try.underlying100 sz102 by102 zr102 rfl hg35 (by decide) fun n34 => ?_
            have a14 : addL L 14 14 = true := rfl
            have u14 : upd σ 14 n34 14 = n34 := rfl
            have m15 : L 15 = false := hc.neg (i := 14) (j := 15) rfl (by rfl) hi
            exact AO.nE (d := 67) rfl ⟨(upd σ 14 n34), (fun j hj => match j, hj with | 0, _ => rfl | 1, _ => rfl | 2, _ => rfl | 3, _ => rfl | 4, _ => rfl | 5, _ => rfl | 6, _ => rfl | 7, _ => rfl | 8, _ => rfl | 9, _ => rfl | 10, _ => rfl | 11, _ => rfl | 12, _ => rfl | 13, _ => rfl | 14, hj => Bool.noConfusion (hj.symm.trans hi) | 15, hj => Bool.noConfusion (hj.symm.trans m15) | _ + 16, _ => rfl), (fun d' hd' => ⟨_, rfl, by cases hd'; rfl⟩), Sub.of_eq (B := ((n2, (.mem (.ar 1 ((Vector.replicate 4 (0 : Int)).toList.map eU64)))) :: (n28, (.mem (.st [(4, (.ar 1 (x30.toList.map eU64))), (1, (eBool ((lget x8 (w64 ((x8.length : Int) - (2 : Int)))).f1)))]))) :: (n29, (.mem (e102 (lget x8 (w64 ((x8.length : Int) - (1 : Int))))))) :: (n34, (.mem (.ar 5 ((x8.take ((w64 ((x8.length : Int) - (2 : Int))).toNat) ++ ([(S102.mk x30 ((lget x8 (w64 ((x8.length : Int) - (1 : Int)))).f1))] : List S102)).map e102)))) :: [])) (by simp only [a14, u14, cond_true, cond_false]) (Sub.refl _)⟩
           ·refine StepE.calm (fun _ _ => rfl) fun L σ hc hi hd => ?_
            have y14 : L 14 = true := on_get hd (i := 14) (by rfl)
            refine AO.heq (H' := ((n2, (.mem (.ar 1 ((Vector.replicate 4 (0 : Int)).toList.map eU64)))) :: (n28, (.mem (.st [(4, (.ar 1 (x30.toList.map eU64))), (1, (eBool ((lget x8 (w64 ((x8.length : Int) - (2 : Int)))).f1)))]))) :: (n29, (.mem (e102 (lget x8 (w64 ((x8.length : Int) - (1 : Int))))))) :: ((σ 14), (.mem (.ar 5 ((x8.take ((w64 ((x8.length : Int) - (2 : Int))).toNat) ++ ([(S102.mk x30 ((lget x8 (w64 ((x8.length : Int) - (1 : Int)))).f1))] : List S102)).map e102)))) :: [])) (by first | rfl | simp only [y14, cond_true, cond_false]) ?_
            refine AO.wK [67] ?_
            refine AO.c (Calm.assign rfl rfl) ?_
            exact AO.nE (d := 3) rfl ⟨⟨3, _, rfl, rfl, rfl⟩, Sub.of_eq (by first | rfl | simp only [y14, cond_true, cond_false]) (Sub.refl _)⟩
           ·generalize σ 14 = n34
            refine AO.nH [2, 3, 9, 10, 11] (H' := [(n2, (.mem (.ar 1 ((Vector.replicate 4 (0 : Int)).toList.map eU64)))), (n34, (.mem (.ar 5 ((x8.take ((w64 ((x8.length : Int) - (2 : Int))).toNat) ++ ([(S102.mk x30 ((lget x8 (w64 ((x8.length : Int) - (1 : Int)))).f1))] : List S102)).map e102))))]) (Sub.cons 0 rfl (Sub.cons 2 rfl (Sub.nil _))) ?_
            exact ⟨n34, (x8.take ((w64 ((x8.length : Int) - (2 : Int))).toNat) ++ ([(S102.mk x30 ((lget x8 (w64 ((x8.length : Int) - (1 : Int)))).f1))] : List S102)), rfl, rfl, h⟩
          ·obtain ⟨hg38, h⟩ := of_guard h
           refine AW.regEff (by rfl) (by decide +kernel) (fun (σ : Nat → Nat) => ([(.own n7 0 x8.length), (eI64 (x8.length : Int)), (eI64 (w64 ((x8.length : Int) - (2 : Int)))), (.own n7 0 ((w64 ((x8.length : Int) - (2 : Int))).toNat)), (.ptr n28 0), (.ar 1 (x30.toList.map eU64)), (.ptr n28 4), (eBool ((lget x8 (w64 ((x8.length : Int) - (2 : Int)))).f1)), (eBool ((lget x8 (w64 ((x8.length : Int) - (2 : Int)))).f1)), (.fl undef), (.fl undef), (eBool false), (e102 (S102.mk x30 false)), (.fz 5 (([(S102.mk x30 false)] : List S102).map e102)), (.own (σ 14) 0 (x8.take ((w64 ((x8.length : Int) - (2 : Int))).toNat) ++ ([(S102.mk x30 false)] : List S102)).length), (.own (σ 14) 0 (x8.take ((w64 ((x8.length : Int) - (2 : Int))).toNat) ++ ([(S102.mk x30 false)] : List S102)).length)] : List AV)) (fun (L : Nat → Bool) (σ : Nat → Nat) => ((n2, (.mem (.ar 1 ((Vector.replicate 4 (0 : Int)).toList.map eU64)))) :: (n28, (.mem (.st [(4, (.ar 1 (x30.toList.map eU64))), (1, (eBool ((lget x8 (w64 ((x8.length : Int) - (2 : Int)))).f1)))]))) :: (n29, (.mem (e102 (lget x8 (w64 ((x8.length : Int) - (1 : Int))))))) :: (bif L 14 then (((σ 14), (.mem (.ar 5 ((x8.take ((w64 ((x8.length : Int) - (2 : Int))).toNat) ++ ([(S102.mk x30 false)] : List S102)).map e102)))) :: []) else ((n7, (.mem (.ar 5 (x8.map e102)))) :: [])) : Heap)) [(2, (.ptr n2 0)), (3, (.own n7 0 x8.length)), (6, (eI64 (x8.length : Int))), (7, (.ptr n28 0)), (8, (.ptr n29 0)), (9, (.fz 5 (p0.map e82))), (10, (eI64 (p0.length : Int))), (11, (eI64 x9))] ⟨rfl, rfl, rfl, rfl, rfl, rfl, rfl, rfl, trivial⟩ (fun _ => rfl) (fun σ => (Sub.cons 0 rfl (Sub.cons 1 rfl (Sub.cons 1 rfl (Sub.cons 0 rfl (Sub.refl _)))))) ⟨?_, ?_, ?_, ?_, ?_, ?_, ?_, ?_, ?_, ?_, ?_, ?_, ?_, ?_, ?_, ?_, trivial⟩ (fun σ => [(2, (.ptr n2 0)), (3, (.own (σ 14) 0 (x8.take ((w64 ((x8.length : Int) - (2 : Int))).toNat) ++ ([(S102.mk x30 false)] : List S102)).length)), (9, (.fz 5 (p0.map e82))), (10, (eI64 (p0.length : Int))), (11, (eI64 x9))]) (fun σ => ((n2, (.mem (.ar 1 ((Vector.replicate 4 (0 : Int)).toList.map eU64)))) :: (n28, (.mem (.st [(4, (.ar 1 (x30.toList.map eU64))), (1, (eBool ((lget x8 (w64 ((x8.length : Int) - (2 : Int)))).f1)))]))) :: (n29, (.mem (e102 (lget x8 (w64 ((x8.length : Int) - (1 : Int))))))) :: ((σ 14), (.mem (.ar 5 ((x8.take ((w64 ((x8.length : Int) - (2 : Int))).toNat) ++ ([(S102.mk x30 false)] : List S102)).map e102)))) :: [])) (fun σ => ⟨rfl, rfl, rfl, rfl, rfl, trivial⟩) (fun σ => Sub.refl _) (fun σ => ?_)
           ·refine StepE.calm (fun _ _ => rfl) fun L σ hc hi hd => ?_
            have m3 : L 3 = false := hc.neg (i := 0) (j := 3) rfl (by rfl) hi
            have m14 : L 14 = false := hc.neg (i := 3) (j := 14) rfl (by rfl) m3
            refine AO.heq (H' := ((n2, (.mem (.ar 1 ((Vector.replicate 4 (0 : Int)).toList.map eU64)))) :: (n28, (.mem (.st [(4, (.ar 1 (x30.toList.map eU64))), (1, (eBool ((lget x8 (w64 ((x8.length : Int) - (2 : Int)))).f1)))]))) :: (n29, (.mem (e102 (lget x8 (w64 ((x8.length : Int) - (1 : Int))))))) :: (n7, (.mem (.ar 5 (x8.map e102)))) :: [])) (by first | rfl | simp only [m14, cond_true, cond_false]) ?_
            refine AO.wK [3] ?_
            refine AO.c (Calm.move rfl rfl) ?_
            exact AO.nE (d := 53) rfl ⟨⟨53, _, rfl, rfl, rfl⟩, Sub.of_eq (by first | rfl | simp only [m14, cond_true, cond_false]) (Sub.refl _)⟩
           ·refine StepE.calm (fun _ _ => rfl) fun L σ hc hi hd => ?_
            refine AO.wK [6] ?_
            refine AO.c (Calm.move rfl rfl) ?_
            exact AO.nE (d := 54) rfl ⟨⟨54, _, rfl, rfl, rfl⟩, Sub.refl _⟩
           ·refine StepE.calm (fun _ _ => rfl) fun L σ hc hi hd => ?_
            refine AO.wK [54] ?_
            refine AO.c (x := eI64 (w64 ((x8.length : Int) - (2 : Int)))) (Calm.int rfl rfl rfl rfl) ?_
            exact AO.nE (d := 55) rfl ⟨⟨55, _, rfl, rfl, rfl⟩, Sub.refl _⟩
           ·refine StepE.calm (fun _ _ => rfl) fun L σ hc hi hd => ?_
            have m14 : L 14 = false := hc.neg (i := 3) (j := 14) rfl (by rfl) hi
            refine AO.heq (H' := ((n2, (.mem (.ar 1 ((Vector.replicate 4 (0 : Int)).toList.map eU64)))) :: (n28, (.mem (.st [(4, (.ar 1 (x30.toList.map eU64))), (1, (eBool ((lget x8 (w64 ((x8.length : Int) - (2 : Int)))).f1)))]))) :: (n29, (.mem (e102 (lget x8 (w64 ((x8.length : Int) - (1 : Int))))))) :: (n7, (.mem (.ar 5 (x8.map e102)))) :: [])) (by first | rfl | simp only [m14, cond_true, cond_false]) ?_
            refine AO.wK [53, 55] ?_
            refine AO.c (x := .own n7 0 ((w64 ((x8.length : Int) - (2 : Int))).toNat)) (Calm.preO 3 rfl rfl rfl rfl hg31 Try.underlying100 sz102) ?_
            exact AO.nE (d := 56) rfl ⟨⟨56, _, rfl, rfl, rfl⟩, Sub.of_eq (by first | rfl | simp only [m14, cond_true, cond_false]) (Sub.refl _)⟩
           ·refine StepE.calm (fun _ _ => rfl) fun L σ hc hi hd => ?_
            refine AO.wK [7] ?_
            refine AO.c (x := .ptr n28 0) (Calm.fldPtr rfl rfl Try.underlying102 rfl sz33 _ rfl) ?_
            exact AO.nE (d := 57) rfl ⟨⟨57, _, rfl, rfl, rfl⟩, Sub.refl _⟩
           ·refine StepE.calm (fun _ _ => rfl) fun L σ hc hi hd => ?_
            refine AO.wK [57] ?_
            refine AO.c (Calm.load 1 rfl rfl rfl (At.cast (At.fld0 At.here) rfl) ag33 (by rw [sz33]; simp [AV.size])) ?_
            exact AO.nE (d := 58) rfl ⟨⟨58, _, rfl, rfl, rfl⟩, Sub.refl _⟩
           ·refine StepE.calm (fun _ _ => rfl) fun L σ hc hi hd => ?_
            refine AO.wK [7] ?_
            refine AO.c (x := .ptr n28 4) (Calm.fldPtr rfl rfl Try.underlying102 rfl sz4 _ rfl) ?_
            exact AO.nE (d := 59) rfl ⟨⟨59, _, rfl, rfl, rfl⟩, Sub.refl _⟩
           ·refine StepE.calm (fun _ _ => rfl) fun L σ hc hi hd => ?_
            refine AO.wK [59] ?_
            refine AO.c (Calm.load 1 rfl rfl rfl (At.cast (At.fldS (At.fld0 At.here)) rfl) ag4 sz4) ?_
            exact AO.nE (d := 60) rfl ⟨⟨60, _, rfl, rfl, rfl⟩, Sub.refl _⟩
           ·refine StepE.calm (fun _ _ => rfl) fun L σ hc hi hd => ?_
            refine AO.wK [60] ?_
            refine AO.c (Calm.move rfl rfl) ?_
            exact AO.nE (d := 61) rfl ⟨⟨61, _, rfl, rfl, rfl⟩, Sub.refl _⟩
           ·refine StepE.calm (fun _ _ => rfl) fun L σ hc hi hd => ?_
            refine AO.wK [61] ?_
            refine AO.sT rfl rfl (bD (eq_false_of_ne_true hc32)) ?_
            exact AO.nE (d := 62) rfl ⟨⟨62, _, rfl, rfl, rfl⟩, Sub.refl _⟩
           ·refine StepE.calm (fun _ _ => rfl) fun L σ hc hi hd => ?_
            refine AO.wK [61] ?_
            refine AO.sT rfl rfl (bD (eq_false_of_ne_true hc32)) ?_
            exact AO.nE (d := 63) rfl ⟨⟨63, _, rfl, rfl, rfl⟩, Sub.refl _⟩
           ·refine StepE.calm (fun _ _ => rfl) fun L σ hc hi hd => ?_
            refine AO.wK [61, 63] ?_
            refine AO.c (Calm.pickF rfl (bD (eq_false_of_ne_true hc32)) rfl) ?_
            exact AO.nE (d := 64) rfl ⟨⟨64, _, rfl, rfl, rfl⟩, Sub.refl _⟩
           ·refine StepE.calm (fun _ _ => rfl) fun L σ hc hi hd => ?_
            refine AO.wK [58, 64] ?_
            refine AO.c (x := .st [(4, (.ar 1 (x30.toList.map eU64))), (1, (eBool false))]) (Calm.build (qs := [(0, (.ar 1 (x30.toList.map eU64))), (1, (eBool false))]) rfl ⟨rfl, rfl, rfl, rfl, rfl, rfl, trivial⟩ Try.underlying102 rfl zr102 lay102 (.cons rfl rfl (vec_size _ _) (vec_size _ _) (Put.cast (Put.fld0 Put.here) rfl) (.cons rfl rfl rfl rfl (Put.cast (Put.fldS (Put.fld0 Put.here)) rfl) .nil)) rfl) ?_
            exact AO.nE (d := 65) rfl ⟨⟨65, _, rfl, rfl, rfl⟩, Sub.refl _⟩
           ·refine StepE.calm (fun _ _ => rfl) fun L σ hc hi hd => ?_
            refine AO.wK [65] ?_
            refine AO.lit (Z := (.st [(4, (.ar 1 ((Vector.replicate 4 (0 : Int)).toList.map eU64))), (1, (eBool false))])) (xs := (([(S102.mk x30 false)] : List S102).map e102)) (qs := [(0, (e102 (S102.mk x30 false)))]) rfl 66 rfl (by decide) rfl ⟨rfl, rfl, rfl, trivial⟩ Try.underlying100 sz102 zr102 lay102 rfl (by decide) (litOK (z := 5) [(e102 (S102.mk x30 false))] rfl ⟨⟨rfl, rfl⟩, trivial⟩) rfl fun n36 => ?_
            refine AO.freezeS 0 [(66, (.fz 5 (([(S102.mk x30 false)] : List S102).map e102)))] rfl ⟨fz_all rfl, trivial⟩ ?_
            exact AO.nE (d := 66) rfl ⟨⟨66, _, rfl, rfl, rfl⟩, Sub.refl _⟩
           ·intro L σ hc hi hd
            refine AO.heq (H' := ((n2, (.mem (.ar 1 ((Vector.replicate 4 (0 : Int)).toList.map eU64)))) :: (n28, (.mem (.st [(4, (.ar 1 (x30.toList.map eU64))), (1, (eBool ((lget x8 (w64 ((x8.length : Int) - (2 : Int)))).f1)))]))) :: (n29, (.mem (e102 (lget x8 (w64 ((x8.length : Int) - (1 : Int))))))) :: (n7, (.mem (.ar 5 (x8.map e102)))) :: [])) (by first | rfl | simp only [hi, cond_true, cond_false]) ?_
            refine AO.wK [56, 66] ?_
            refine AO.appendCut (l := x8) (m := ([(S102.mk x30 false)] : List S102)) 3 67 rfl (by decide) rfl rfl rfl (by omega) rfl rfl Src.fz Try.underlying100 Try.underlying100 sz102 by102 zr102 rfl hg38 (by decide) fun n37 => ?_
            have a14 : addL L 14 14 = true := rfl
            have u14 : upd σ 14 n37 14 = n37 := rfl
            have m15 : L 15 = false := hc.neg (i := 14) (j := 15) rfl (by rfl) hi
            exact AO.nE (d := 67) rfl ⟨(upd σ 14 n37), (fun j hj => match j, hj with | 0, _ => rfl | 1, _ => rfl | 2, _ => rfl | 3, _ => rfl | 4, _ => rfl | 5, _ => rfl | 6, _ => rfl | 7, _ => rfl | 8, _ => rfl | 9, _ => rfl | 10, _ => rfl | 11, _ => rfl | 12, _ => rfl | 13, _ => rfl | 14, hj => Bool.noConfusion (hj.symm.trans hi) | 15, hj => Bool.noConfusion (hj.symm.trans m15) | _ + 16, _ => rfl), (fun d' hd' => ⟨_, rfl, by cases hd'; rfl⟩), Sub.of_eq (B := ((n2, (.mem (.ar 1 ((Vector.replicate 4 (0 : Int)).toList.map eU64)))) :: (n28, (.mem (.st [(4, (.ar 1 (x30.toList.map eU64))), (1, (eBool ((lget x8 (w64 ((x8.length : Int) - (2 : Int)))).f1)))]))) :: (n29, (.mem (e102 (lget x8 (w64 ((x8.length : Int) - (1 : Int))))))) :: (n37, (.mem (.ar 5 ((x8.take ((w64 ((x8.length : Int) - (2 : Int))).toNat) ++ ([(S102.mk x30 false)] : List S102)).map e102)))) :: [])) (by simp only [a14, u14, cond_true, cond_false]) (Sub.refl _)⟩
           ·refine StepE.calm (fun _ _ => rfl) fun L σ hc hi hd => ?_
            have y14 : L 14 = true := on_get hd (i := 14) (by rfl)
            refine AO.heq (H' := ((n2, (.mem (.ar 1 ((Vector.replicate 4 (0 : Int)).toList.map eU64)))) :: (n28, (.mem (.st [(4, (.ar 1 (x30.toList.map eU64))), (1, (eBool ((lget x8 (w64 ((x8.length : Int) - (2 : Int)))).f1)))]))) :: (n29, (.mem (e102 (lget x8 (w64 ((x8.length : Int) - (1 : Int))))))) :: ((σ 14), (.mem (.ar 5 ((x8.take ((w64 ((x8.length : Int) - (2 : Int))).toNat) ++ ([(S102.mk x30 false)] : List S102)).map e102)))) :: [])) (by first | rfl | simp only [y14, cond_true, cond_false]) ?_
            refine AO.wK [67] ?_
            refine AO.c (Calm.assign rfl rfl) ?_
            exact AO.nE (d := 3) rfl ⟨⟨3, _, rfl, rfl, rfl⟩, Sub.of_eq (by first | rfl | simp only [y14, cond_true, cond_false]) (Sub.refl _)⟩
           ·generalize σ 14 = n37
            refine AO.nH [2, 3, 9, 10, 11] (H' := [(n2, (.mem (.ar 1 ((Vector.replicate 4 (0 : Int)).toList.map eU64)))), (n37, (.mem (.ar 5 ((x8.take ((w64 ((x8.length : Int) - (2 : Int))).toNat) ++ ([(S102.mk x30 false)] : List S102)).map e102))))]) (Sub.cons 0 rfl (Sub.cons 2 rfl (Sub.nil _))) ?_
            exact ⟨n37, (x8.take ((w64 ((x8.length : Int) - (2 : Int))).toNat) ++ ([(S102.mk x30 false)] : List S102)), rfl, rfl, h⟩
       ·refine AW.condN _ rfl hc25 ?_
        refine AW.sr ?_
        refine AO.c (x := eBool (decide (((lget p0 x9).f0) = (3 : Int)))) (Calm.int rfl rfl rfl rfl) ?_
        refine AO.c (Calm.assign rfl rfl) ?_
        refine AO.nK [2, 3, 6, 9, 10, 11, 18, 68] ?_
        rcases of_ite h with ⟨hc41, h⟩ | ⟨hc41, h⟩
        ·refine AW.condP _ rfl hc41 ?_
         obtain ⟨hg42, h⟩ := of_guard h
         obtain ⟨hg43, h⟩ := of_guard h
         obtain ⟨hg44, h⟩ := of_guard h
         obtain ⟨t45, et45, h⟩ := of_bind h
         obtain ⟨hg46, h⟩ := of_guard h
         rcases of_ite h with ⟨hc47, h⟩ | ⟨hc47, h⟩
         ·obtain ⟨hg50, h⟩ := of_guard h
          refine AW.regEff (by rfl) (by decide +kernel) (fun (σ : Nat → Nat) => ([(.own n7 0 x8.length), (eI64 (x8.length : Int)), (eI64 (w64 ((x8.length : Int) - (2 : Int)))), (.own n7 0 ((w64 ((x8.length : Int) - (2 : Int))).toNat)), (.own n7 0 x8.length), (eI64 (x8.length : Int)), (eI64 (w64 ((x8.length : Int) - (2 : Int)))), (.ptr n7 ((w64 ((x8.length : Int) - (2 : Int))).toNat * 5 + 0)), (.ptr n7 ((w64 ((x8.length : Int) - (2 : Int))).toNat * 5 + 0 + 0)), (.ar 1 (((lget x8 (w64 ((x8.length : Int) - (2 : Int)))).f0).toList.map eU64)), (.own n7 0 x8.length), (eI64 (x8.length : Int)), (eI64 (w64 ((x8.length : Int) - (1 : Int)))), (.ptr n7 ((w64 ((x8.length : Int) - (1 : Int))).toNat * 5 + 0)), (.ptr n7 ((w64 ((x8.length : Int) - (1 : Int))).toNat * 5 + 0 + 0)), (.ar 1 (((lget x8 (w64 ((x8.length : Int) - (1 : Int)))).f0).toList.map eU64)), (.ar 1 (t45.toList.map eU64)), (.own n7 0 x8.length), (eI64 (x8.length : Int)), (eI64 (w64 ((x8.length : Int) - (2 : Int)))), (.ptr n7 ((w64 ((x8.length : Int) - (2 : Int))).toNat * 5 + 0)), (.ptr n7 ((w64 ((x8.length : Int) - (2 : Int))).toNat * 5 + 0 + 4)), (eBool ((lget x8 (w64 ((x8.length : Int) - (2 : Int)))).f1)), (eBool ((lget x8 (w64 ((x8.length : Int) - (2 : Int)))).f1)), (.fl undef), (.fl undef), (.fl undef), (.fl undef), (.fl undef), (.fl undef), (eBool true), (e102 (S102.mk t45 true)), (.fz 5 (([(S102.mk t45 true)] : List S102).map e102)), (.own (σ 33) 0 (x8.take ((w64 ((x8.length : Int) - (2 : Int))).toNat) ++ ([(S102.mk t45 true)] : List S102)).length), (.own (σ 33) 0 (x8.take ((w64 ((x8.length : Int) - (2 : Int))).toNat) ++ ([(S102.mk t45 true)] : List S102)).length)] : List AV)) (fun (L : Nat → Bool) (σ : Nat → Nat) => ((n2, (.mem (.ar 1 ((Vector.replicate 4 (0 : Int)).toList.map eU64)))) :: (bif L 33 then (((σ 33), (.mem (.ar 5 ((x8.take ((w64 ((x8.length : Int) - (2 : Int))).toNat) ++ ([(S102.mk t45 true)] : List S102)).map e102)))) :: []) else ((n7, (.mem (.ar 5 (x8.map e102)))) :: [])) : Heap)) [(2, (.ptr n2 0)), (3, (.own n7 0 x8.length)), (6, (eI64 (x8.length : Int))), (9, (.fz 5 (p0.map e82))), (10, (eI64 (p0.length : Int))), (11, (eI64 x9))] ⟨rfl, rfl, rfl, rfl, rfl, rfl, trivial⟩ (fun _ => rfl) (fun σ => (Sub.refl _)) ⟨?_, ?_, ?_, ?_, ?_, ?_, ?_, ?_, ?_, ?_, ?_, ?_, ?_, ?_, ?_, ?_, ?_, ?_, ?_, ?_, ?_, ?_, ?_, ?_, ?_, ?_, ?_, ?_, ?_, ?_, ?_, ?_, ?_, ?_, ?_, trivial⟩ (fun σ => [(2, (.ptr n2 0)), (3, (.own (σ 33) 0 (x8.take ((w64 ((x8.length : Int) - (2 : Int))).toNat) ++ ([(S102.mk t45 true)] : List S102)).length)), (9, (.fz 5 (p0.map e82))), (10, (eI64 (p0.length : Int))), (11, (eI64 x9))]) (fun σ => ((n2, (.mem (.ar 1 ((Vector.replicate 4 (0 : Int)).toList.map eU64)))) :: ((σ 33), (.mem (.ar 5 ((x8.take ((w64 ((x8.length : Int) - (2 : Int))).toNat) ++ ([(S102.mk t45 true)] : List S102)).map e102)))) :: [])) (fun σ => ⟨rfl, rfl, rfl, rfl, rfl, trivial⟩) (fun σ => Sub.refl _) (fun σ => ?_)
          ·refine StepE.calm (fun _ _ => rfl) fun L σ hc hi hd => ?_
           have m3 : L 3 = false := hc.neg (i := 0) (j := 3) rfl (by rfl) hi
           have m33 : L 33 = false := hc.neg (i := 3) (j := 33) rfl (by rfl) m3
           refine AO.heq (H' := ((n2, (.mem (.ar 1 ((Vector.replicate 4 (0 : Int)).toList.map eU64)))) :: (n7, (.mem (.ar 5 (x8.map e102)))) :: [])) (by first | rfl | simp only [m33, cond_true, cond_false]) ?_
           refine AO.wK [3] ?_
           refine AO.c (Calm.move rfl rfl) ?_
           exact AO.nE (d := 70) rfl ⟨⟨70, _, rfl, rfl, rfl⟩, Sub.of_eq (by first | rfl | simp only [m33, cond_true, cond_false]) (Sub.refl _)⟩
          ·refine StepE.calm (fun _ _ => rfl) fun L σ hc hi hd => ?_
           refine AO.wK [6] ?_
           refine AO.c (Calm.move rfl rfl) ?_
           exact AO.nE (d := 71) rfl ⟨⟨71, _, rfl, rfl, rfl⟩, Sub.refl _⟩
          ·refine StepE.calm (fun _ _ => rfl) fun L σ hc hi hd => ?_
           refine AO.wK [71] ?_
           refine AO.c (x := eI64 (w64 ((x8.length : Int) - (2 : Int)))) (Calm.int rfl rfl rfl rfl) ?_
           exact AO.nE (d := 72) rfl ⟨⟨72, _, rfl, rfl, rfl⟩, Sub.refl _⟩
          ·refine StepE.calm (fun _ _ => rfl) fun L σ hc hi hd => ?_
           have m33 : L 33 = false := hc.neg (i := 3) (j := 33) rfl (by rfl) hi
           refine AO.heq (H' := ((n2, (.mem (.ar 1 ((Vector.replicate 4 (0 : Int)).toList.map eU64)))) :: (n7, (.mem (.ar 5 (x8.map e102)))) :: [])) (by first | rfl | simp only [m33, cond_true, cond_false]) ?_
           refine AO.wK [70, 72] ?_
           refine AO.c (x := .own n7 0 ((w64 ((x8.length : Int) - (2 : Int))).toNat)) (Calm.preO 1 rfl rfl rfl rfl hg42 Try.underlying100 sz102) ?_
           exact AO.nE (d := 73) rfl ⟨⟨73, _, rfl, rfl, rfl⟩, Sub.of_eq (by first | rfl | simp only [m33, cond_true, cond_false]) (Sub.refl _)⟩
          ·refine StepE.calm (fun _ _ => rfl) fun L σ hc hi hd => ?_
           have m7 : L 7 = false := hc.neg (i := 4) (j := 7) rfl (by rfl) hi
           have m8 : L 8 = false := hc.neg (i := 7) (j := 8) rfl (by rfl) m7
           have m9 : L 9 = false := hc.neg (i := 8) (j := 9) rfl (by rfl) m8
           have m16 : L 16 = false := hc.neg (i := 9) (j := 16) rfl (by rfl) m9
           have m31 : L 31 = false := hc.neg (i := 16) (j := 31) rfl (by rfl) m16
           have m32 : L 32 = false := hc.neg (i := 31) (j := 32) rfl (by rfl) m31
           have m33 : L 33 = false := hc.neg (i := 32) (j := 33) rfl (by rfl) m32
           refine AO.heq (H' := ((n2, (.mem (.ar 1 ((Vector.replicate 4 (0 : Int)).toList.map eU64)))) :: (n7, (.mem (.ar 5 (x8.map e102)))) :: [])) (by first | rfl | simp only [m33, cond_true, cond_false]) ?_
           refine AO.wK [3] ?_
           refine AO.c (Calm.move rfl rfl) ?_
           exact AO.nE (d := 74) rfl ⟨⟨74, _, rfl, rfl, rfl⟩, Sub.of_eq (by first | rfl | simp only [m33, cond_true, cond_false]) (Sub.refl _)⟩
          ·refine StepE.calm (fun _ _ => rfl) fun L σ hc hi hd => ?_
           refine AO.wK [6] ?_
           refine AO.c (Calm.move rfl rfl) ?_
           exact AO.nE (d := 75) rfl ⟨⟨75, _, rfl, rfl, rfl⟩, Sub.refl _⟩
          ·refine StepE.calm (fun _ _ => rfl) fun L σ hc hi hd => ?_
           refine AO.wK [75] ?_
           refine AO.c (x := eI64 (w64 ((x8.length : Int) - (2 : Int)))) (Calm.int rfl rfl rfl rfl) ?_
           exact AO.nE (d := 76) rfl ⟨⟨76, _, rfl, rfl, rfl⟩, Sub.refl _⟩
          ·refine StepE.calm (fun _ _ => rfl) fun L σ hc hi hd => ?_
           have m8 : L 8 = false := hc.neg (i := 7) (j := 8) rfl (by rfl) hi
           have m9 : L 9 = false := hc.neg (i := 8) (j := 9) rfl (by rfl) m8
           have m16 : L 16 = false := hc.neg (i := 9) (j := 16) rfl (by rfl) m9
           have m31 : L 31 = false := hc.neg (i := 16) (j := 31) rfl (by rfl) m16
           have m32 : L 32 = false := hc.neg (i := 31) (j := 32) rfl (by rfl) m31
           have m33 : L 33 = false := hc.neg (i := 32) (j := 33) rfl (by rfl) m32
           refine AO.heq (H' := ((n2, (.mem (.ar 1 ((Vector.replicate 4 (0 : Int)).toList.map eU64)))) :: (n7, (.mem (.ar 5 (x8.map e102)))) :: [])) (by first | rfl | simp only [m33, cond_true, cond_false]) ?_
           refine AO.wK [74, 76] ?_
           refine AO.c (Calm.idxO 1 rfl rfl rfl rfl hg43 Try.underlying100 sz102) ?_
           exact AO.nE (d := 77) rfl ⟨⟨77, _, rfl, rfl, rfl⟩, Sub.of_eq (by first | rfl | simp only [m33, cond_true, cond_false]) (Sub.refl _)⟩
          ·refine StepE.calm (fun _ _ => rfl) fun L σ hc hi hd => ?_
           have m9 : L 9 = false := hc.neg (i := 8) (j := 9) rfl (by rfl) hi
           have m16 : L 16 = false := hc.neg (i := 9) (j := 16) rfl (by rfl) m9
           have m31 : L 31 = false := hc.neg (i := 16) (j := 31) rfl (by rfl) m16
           have m32 : L 32 = false := hc.neg (i := 31) (j := 32) rfl (by rfl) m31
           have m33 : L 33 = false := hc.neg (i := 32) (j := 33) rfl (by rfl) m32
           refine AO.heq (H' := ((n2, (.mem (.ar 1 ((Vector.replicate 4 (0 : Int)).toList.map eU64)))) :: (n7, (.mem (.ar 5 (x8.map e102)))) :: [])) (by first | rfl | simp only [m33, cond_true, cond_false]) ?_
           refine AO.wK [77] ?_
           refine AO.c (x := .ptr n7 ((w64 ((x8.length : Int) - (2 : Int))).toNat * 5 + 0 + 0)) (Calm.fldPtr rfl rfl Try.underlying102 rfl sz33 _ rfl) ?_
           exact AO.nE (d := 78) rfl ⟨⟨78, _, rfl, rfl, rfl⟩, Sub.of_eq (by first | rfl | simp only [m33, cond_true, cond_false]) (Sub.refl _)⟩
          ·refine StepE.calm (fun _ _ => rfl) fun L σ hc hi hd => ?_
           have m16 : L 16 = false := hc.neg (i := 9) (j := 16) rfl (by rfl) hi
           have m31 : L 31 = false := hc.neg (i := 16) (j := 31) rfl (by rfl) m16
           have m32 : L 32 = false := hc.neg (i := 31) (j := 32) rfl (by rfl) m31
           have m33 : L 33 = false := hc.neg (i := 32) (j := 33) rfl (by rfl) m32
           refine AO.heq (H' := ((n2, (.mem (.ar 1 ((Vector.replicate 4 (0 : Int)).toList.map eU64)))) :: (n7, (.mem (.ar 5 (x8.map e102)))) :: [])) (by first | rfl | simp only [m33, cond_true, cond_false]) ?_
           refine AO.wK [78] ?_
           refine AO.c (Calm.load 1 rfl rfl rfl (At.cast (At.lidx (w64 ((x8.length : Int) - (2 : Int))) hg43.1 hg43.2 (At.fld0 At.here)) (by omega)) ag33 (by rw [sz33]; simp [AV.size])) ?_
           exact AO.nE (d := 79) rfl ⟨⟨79, _, rfl, rfl, rfl⟩, Sub.of_eq (by first | rfl | simp only [m33, cond_true, cond_false]) (Sub.refl _)⟩
          ·refine StepE.calm (fun _ _ => rfl) fun L σ hc hi hd => ?_
           have m13 : L 13 = false := hc.neg (i := 10) (j := 13) rfl (by rfl) hi
           have m14 : L 14 = false := hc.neg (i := 13) (j := 14) rfl (by rfl) m13
           have m15 : L 15 = false := hc.neg (i := 14) (j := 15) rfl (by rfl) m14
           have m16 : L 16 = false := hc.neg (i := 15) (j := 16) rfl (by rfl) m15
           have m31 : L 31 = false := hc.neg (i := 16) (j := 31) rfl (by rfl) m16
           have m32 : L 32 = false := hc.neg (i := 31) (j := 32) rfl (by rfl) m31
           have m33 : L 33 = false := hc.neg (i := 32) (j := 33) rfl (by rfl) m32
           refine AO.heq (H' := ((n2, (.mem (.ar 1 ((Vector.replicate 4 (0 : Int)).toList.map eU64)))) :: (n7, (.mem (.ar 5 (x8.map e102)))) :: [])) (by first | rfl | simp only [m33, cond_true, cond_false]) ?_
           refine AO.wK [3] ?_
           refine AO.c (Calm.move rfl rfl) ?_
           exact AO.nE (d := 80) rfl ⟨⟨80, _, rfl, rfl, rfl⟩, Sub.of_eq (by first | rfl | simp only [m33, cond_true, cond_false]) (Sub.refl _)⟩
          ·refine StepE.calm (fun _ _ => rfl) fun L σ hc hi hd => ?_
           refine AO.wK [6] ?_
           refine AO.c (Calm.move rfl rfl) ?_
           exact AO.nE (d := 81) rfl ⟨⟨81, _, rfl, rfl, rfl⟩, Sub.refl _⟩
          ·refine StepE.calm (fun _ _ => rfl) fun L σ hc hi hd => ?_
           refine AO.wK [81] ?_
           refine AO.c (x := eI64 (w64 ((x8.length : Int) - (1 : Int)))) (Calm.int rfl rfl rfl rfl) ?_
           exact AO.nE (d := 82) rfl ⟨⟨82, _, rfl, rfl, rfl⟩, Sub.refl _⟩
          ·refine StepE.calm (fun _ _ => rfl) fun L σ hc hi hd => ?_
           have m14 : L 14 = false := hc.neg (i := 13) (j := 14) rfl (by rfl) hi
           have m15 : L 15 = false := hc.neg (i := 14) (j := 15) rfl (by rfl) m14
           have m16 : L 16 = false := hc.neg (i := 15) (j := 16) rfl (by rfl) m15
           have m31 : L 31 = false := hc.neg (i := 16) (j := 31) rfl (by rfl) m16
           have m32 : L 32 = false := hc.neg (i := 31) (j := 32) rfl (by rfl) m31
           have m33 : L 33 = false := hc.neg (i := 32) (j := 33) rfl (by rfl) m32
           refine AO.heq (H' := ((n2, (.mem (.ar 1 ((Vector.replicate 4 (0 : Int)).toList.map eU64)))) :: (n7, (.mem (.ar 5 (x8.map e102)))) :: [])) (by first | rfl | simp only [m33, cond_true, cond_false]) ?_
           refine AO.wK [80, 82] ?_
           refine AO.c (Calm.idxO 1 rfl rfl rfl rfl hg44 Try.underlying100 sz102) ?_
           exact AO.nE (d := 83) rfl ⟨⟨83, _, rfl, rfl, rfl⟩, Sub.of_eq (by first | rfl | simp only [m33, cond_true, cond_false]) (Sub.refl _)⟩
          ·refine StepE.calm (fun _ _ => rfl) fun L σ hc hi hd => ?_
           have m15 : L 15 = false := hc.neg (i := 14) (j := 15) rfl (by rfl) hi
           have m16 : L 16 = false := hc.neg (i := 15) (j := 16) rfl (by rfl) m15
           have m31 : L 31 = false := hc.neg (i := 16) (j := 31) rfl (by rfl) m16
           have m32 : L 32 = false := hc.neg (i := 31) (j := 32) rfl (by rfl) m31
           have m33 : L 33 = false := hc.neg (i := 32) (j := 33) rfl (by rfl) m32
           refine AO.heq (H' := ((n2, (.mem (.ar 1 ((Vector.replicate 4 (0 : Int)).toList.map eU64)))) :: (n7, (.mem (.ar 5 (x8.map e102)))) :: [])) (by first | rfl | simp only [m33, cond_true, cond_false]) ?_
           refine AO.wK [83] ?_
           refine AO.c (x := .ptr n7 ((w64 ((x8.length : Int) - (1 : Int))).toNat * 5 + 0 + 0)) (Calm.fldPtr rfl rfl Try.underlying102 rfl sz33 _ rfl) ?_
           exact AO.nE (d := 84) rfl ⟨⟨84, _, rfl, rfl, rfl⟩, Sub.of_eq (by first | rfl | simp only [m33, cond_true, cond_false]) (Sub.refl _)⟩
          ·refine StepE.calm (fun _ _ => rfl) fun L σ hc hi hd => ?_
           have m16 : L 16 = false := hc.neg (i := 15) (j := 16) rfl (by rfl) hi
           have m31 : L 31 = false := hc.neg (i := 16) (j := 31) rfl (by rfl) m16
           have m32 : L 32 = false := hc.neg (i := 31) (j := 32) rfl (by rfl) m31
           have m33 : L 33 = false := hc.neg (i := 32) (j := 33) rfl (by rfl) m32
           refine AO.heq (H' := ((n2, (.mem (.ar 1 ((Vector.replicate 4 (0 : Int)).toList.map eU64)))) :: (n7, (.mem (.ar 5 (x8.map e102)))) :: [])) (by first | rfl | simp only [m33, cond_true, cond_false]) ?_
           refine AO.wK [84] ?_
           refine AO.c (Calm.load 1 rfl rfl rfl (At.cast (At.lidx (w64 ((x8.length : Int) - (1 : Int))) hg44.1 hg44.2 (At.fld0 At.here)) (by omega)) ag33 (by rw [sz33]; simp [AV.size])) ?_
           exact AO.nE (d := 85) rfl ⟨⟨85, _, rfl, rfl, rfl⟩, Sub.of_eq (by first | rfl | simp only [m33, cond_true, cond_false]) (Sub.refl _)⟩
          ·refine StepE.calm (fun _ _ => rfl) fun L σ hc hi hd => ?_
           refine AO.wK [79, 85] ?_
           refine AO.callS [(.ar 1 (((lget x8 (w64 ((x8.length : Int) - (2 : Int)))).f0).toList.map eU64)), (.ar 1 (((lget x8 (w64 ((x8.length : Int) - (1 : Int)))).f0).toList.map eU64))] (.ar 1 (t45.toList.map eU64)) 86 rfl (by decide) ok64 rfl rfl rfl ⟨rfl, rfl, rfl, rfl, trivial⟩ (byteset_Or_spec et45) ?_
           exact AO.nE (d := 86) rfl ⟨⟨86, _, rfl, rfl, rfl⟩, Sub.refl _⟩
          ·refine StepE.calm (fun _ _ => rfl) fun L σ hc hi hd => ?_
           have m20 : L 20 = false := hc.neg (i := 17) (j := 20) rfl (by rfl) hi
           have m21 : L 21 = false := hc.neg (i := 20) (j := 21) rfl (by rfl) m20
           have m22 : L 22 = false := hc.neg (i := 21) (j := 22) rfl (by rfl) m21
           have m23 : L 23 = false := hc.neg (i := 22) (j := 23) rfl (by rfl) m22
           have m24 : L 24 = false := hc.neg (i := 23) (j := 24) rfl (by rfl) m23
           have m27 : L 27 = false := hc.neg (i := 24) (j := 27) rfl (by rfl) m24
           have m28 : L 28 = false := hc.neg (i := 27) (j := 28) rfl (by rfl) m27
           have m29 : L 29 = false := hc.neg (i := 28) (j := 29) rfl (by rfl) m28
           have m30 : L 30 = false := hc.neg (i := 29) (j := 30) rfl (by rfl) m29
           have m31 : L 31 = false := hc.neg (i := 30) (j := 31) rfl (by rfl) m30
           have m32 : L 32 = false := hc.neg (i := 31) (j := 32) rfl (by rfl) m31
           have m33 : L 33 = false := hc.neg (i := 32) (j := 33) rfl (by rfl) m32
           refine AO.heq (H' := ((n2, (.mem (.ar 1 ((Vector.replicate 4 (0 : Int)).toList.map eU64)))) :: (n7, (.mem (.ar 5 (x8.map e102)))) :: [])) (by first | rfl | simp only [m33, cond_true, cond_false]) ?_
           refine AO.wK [3] ?_
           refine AO.c (Calm.move rfl rfl) ?_
           exact AO.nE (d := 87) rfl ⟨⟨87, _, rfl, rfl, rfl⟩, Sub.of_eq (by first | rfl | simp only [m33, cond_true, cond_false]) (Sub.refl _)⟩
          ·refine StepE.calm (fun _ _ => rfl) fun L σ hc hi hd => ?_
           refine AO.wK [6] ?_
           refine AO.c (Calm.move rfl rfl) ?_
           exact AO.nE (d := 88) rfl ⟨⟨88, _, rfl, rfl, rfl⟩, Sub.refl _⟩
          ·refine StepE.calm (fun _ _ => rfl) fun L σ hc hi hd => ?_
           refine AO.wK [88] ?_
           refine AO.c (x := eI64 (w64 ((x8.length : Int) - (2 : Int)))) (Calm.int rfl rfl rfl rfl) ?_
           exact AO.nE (d := 89) rfl ⟨⟨89, _, rfl, rfl, rfl⟩, Sub.refl _⟩
          ·refine StepE.calm (fun _ _ => rfl) fun L σ hc hi hd => ?_
           have m21 : L 21 = false := hc.neg (i := 20) (j := 21) rfl (by rfl) hi
           have m22 : L 22 = false := hc.neg (i := 21) (j := 22) rfl (by rfl) m21
           have m23 : L 23 = false := hc.neg (i := 22) (j := 23) rfl (by rfl) m22
           have m24 : L 24 = false := hc.neg (i := 23) (j := 24) rfl (by rfl) m23
           have m27 : L 27 = false := hc.neg (i := 24) (j := 27) rfl (by rfl) m24
           have m28 : L 28 = false := hc.neg (i := 27) (j := 28) rfl (by rfl) m27
           have m29 : L 29 = false := hc.neg (i := 28) (j := 29) rfl (by rfl) m28
           have m30 : L 30 = false := hc.neg (i := 29) (j := 30) rfl (by rfl) m29
           have m31 : L 31 = false := hc.neg (i := 30) (j := 31) rfl (by rfl) m30
           have m32 : L 32 = false := hc.neg (i := 31) (j := 32) rfl (by rfl) m31
           have m33 : L 33 = false := hc.neg (i := 32) (j := 33) rfl (by rfl) m32
           refine AO.heq (H' := ((n2, (.mem (.ar 1 ((Vector.replicate 4 (0 : Int)).toList.map eU64)))) :: (n7, (.mem (.ar 5 (x8.map e102)))) :: [])) (by first | rfl | simp only [m33, cond_true, cond_false]) ?_
           refine AO.wK [87, 89] ?_
           refine AO.c (Calm.idxO 1 rfl rfl rfl rfl hg46 Try.underlying100 sz102) ?_
           exact AO.nE (d := 90) rfl ⟨⟨90, _, rfl, rfl, rfl⟩, Sub.of_eq (by first | rfl | simp only [m33, cond_true, cond_false]) (Sub.refl _)⟩
          ·refine StepE.calm (fun _ _ => rfl) fun L σ hc hi hd => ?_
           have m22 : L 22 = false := hc.neg (i := 21) (j := 22) rfl (by rfl) hi
           have m23 : L 23 = false := hc.neg (i := 22) (j := 23) rfl (by rfl) m22
           have m24 : L 24 = false := hc.neg (i := 23) (j := 24) rfl (by rfl) m23
           have m27 : L 27 = false := hc.neg (i := 24) (j := 27) rfl (by rfl) m24
           have m28 : L 28 = false := hc.neg (i := 27) (j := 28) rfl (by rfl) m27
           have m29 : L 29 = false := hc.neg (i := 28) (j := 29) rfl (by rfl) m28
           have m30 : L 30 = false := hc.neg (i := 29) (j := 30) rfl (by rfl) m29
           have m31 : L 31 = false := hc.neg (i := 30) (j := 31) rfl (by rfl) m30
           have m32 : L 32 = false := hc.neg (i := 31) (j := 32) rfl (by rfl) m31
           have m33 : L 33 = false := hc.neg (i := 32) (j := 33) rfl (by rfl) m32
           refine AO.heq (H' := ((n2, (.mem (.ar 1 ((Vector.replicate 4 (0 : Int)).toList.map eU64)))) :: (n7, (.mem (.ar 5 (x8.map e102)))) :: [])) (by first | rfl | simp only [m33, cond_true, cond_false]) ?_
           refine AO.wK [90] ?_
           refine AO.c (x := .ptr n7 ((w64 ((x8.length : Int) - (2 : Int))).toNat * 5 + 0 + 4)) (Calm.fldPtr rfl rfl Try.underlying102 rfl sz4 _ rfl) ?_
           exact AO.nE (d := 91) rfl ⟨⟨91, _, rfl, rfl, rfl⟩, Sub.of_eq (by first | rfl | simp only [m33, cond_true, cond_false]) (Sub.refl _)⟩
          ·refine StepE.calm (fun _ _ => rfl) fun L σ hc hi hd => ?_
           have m23 : L 23 = false := hc.neg (i := 22) (j := 23) rfl (by rfl) hi
           have m24 : L 24 = false := hc.neg (i := 23) (j := 24) rfl (by rfl) m23
           have m27 : L 27 = false := hc.neg (i := 24) (j := 27) rfl (by rfl) m24
           have m28 : L 28 = false := hc.neg (i := 27) (j := 28) rfl (by rfl) m27
           have m29 : L 29 = false := hc.neg (i := 28) (j := 29) rfl (by rfl) m28
           have m30 : L 30 = false := hc.neg (i := 29) (j := 30) rfl (by rfl) m29
           have m31 : L 31 = false := hc.neg (i := 30) (j := 31) rfl (by rfl) m30
           have m32 : L 32 = false := hc.neg (i := 31) (j := 32) rfl (by rfl) m31
           have m33 : L 33 = false := hc.neg (i := 32) (j := 33) rfl (by rfl) m32
           refine AO.heq (H' := ((n2, (.mem (.ar 1 ((Vector.replicate 4 (0 : Int)).toList.map eU64)))) :: (n7, (.mem (.ar 5 (x8.map e102)))) :: [])) (by first | rfl | simp only [m33, cond_true, cond_false]) ?_
           refine AO.wK [91] ?_
           refine AO.c (Calm.load 1 rfl rfl rfl (At.cast (At.lidx (w64 ((x8.length : Int) - (2 : Int))) hg46.1 hg46.2 (At.fldS (At.fld0 At.here))) (by omega)) ag4 sz4) ?_
           exact AO.nE (d := 92) rfl ⟨⟨92, _, rfl, rfl, rfl⟩, Sub.of_eq (by first | rfl | simp only [m33, cond_true, cond_false]) (Sub.refl _)⟩
          ·refine StepE.calm (fun _ _ => rfl) fun L σ hc hi hd => ?_
           refine AO.wK [92] ?_
           refine AO.c (Calm.move rfl rfl) ?_
           exact AO.nE (d := 93) rfl ⟨⟨93, _, rfl, rfl, rfl⟩, Sub.refl _⟩
          ·refine StepE.calm (fun _ _ => rfl) fun L σ hc hi hd => ?_
           refine AO.wK [93] ?_
           refine AO.sF rfl rfl (bD hc47) ?_
           exact AO.nE (d := 94) rfl ⟨⟨94, _, rfl, rfl, rfl⟩, Sub.refl _⟩
          ·refine StepE.calm (fun _ _ => rfl) fun L σ hc hi hd => ?_
           refine AO.wK [93] ?_
           refine AO.sF rfl rfl (bD hc47) ?_
           exact AO.nE (d := 95) rfl ⟨⟨95, _, rfl, rfl, rfl⟩, Sub.refl _⟩
          ·refine StepE.calm (fun _ _ => rfl) fun L σ hc hi hd => ?_
           refine AO.wK [93] ?_
           refine AO.sF rfl rfl (bD hc47) ?_
           exact AO.nE (d := 96) rfl ⟨⟨96, _, rfl, rfl, rfl⟩, Sub.refl _⟩
          ·refine StepE.calm (fun _ _ => rfl) fun L σ hc hi hd => ?_
           refine AO.wK [93] ?_
           refine AO.sF rfl rfl (bD hc47) ?_
           exact AO.nE (d := 97) rfl ⟨⟨97, _, rfl, rfl, rfl⟩, Sub.refl _⟩
          ·refine StepE.calm (fun _ _ => rfl) fun L σ hc hi hd => ?_
           refine AO.wK [93] ?_
           refine AO.sF rfl rfl (bD hc47) ?_
           exact AO.nE (d := 98) rfl ⟨⟨98, _, rfl, rfl, rfl⟩, Sub.refl _⟩
          ·refine StepE.calm (fun _ _ => rfl) fun L σ hc hi hd => ?_
           refine AO.wK [93] ?_
           refine AO.sF rfl rfl (bD hc47) ?_
           exact AO.nE (d := 99) rfl ⟨⟨99, _, rfl, rfl, rfl⟩, Sub.refl _⟩
          ·refine StepE.calm (fun _ _ => rfl) fun L σ hc hi hd => ?_
           refine AO.wK [93, 99] ?_
           refine AO.c (Calm.pickT rfl (bD hc47) rfl) ?_
           exact AO.nE (d := 100) rfl ⟨⟨100, _, rfl, rfl, rfl⟩, Sub.refl _⟩
          ·refine StepE.calm (fun _ _ => rfl) fun L σ hc hi hd => ?_
           refine AO.wK [86, 100] ?_
           refine AO.c (x := .st [(4, (.ar 1 (t45.toList.map eU64))), (1, (eBool true))]) (Calm.build (qs := [(0, (.ar 1 (t45.toList.map eU64))), (1, (eBool true))]) rfl ⟨rfl, rfl, rfl, rfl, rfl, rfl, trivial⟩ Try.underlying102 rfl zr102 lay102 (.cons rfl rfl (vec_size _ _) (vec_size _ _) (Put.cast (Put.fld0 Put.here) rfl) (.cons rfl rfl rfl rfl (Put.cast (Put.fldS (Put.fld0 Put.here)) rfl) .nil)) rfl) ?_
           exact AO.nE (d := 101) rfl ⟨⟨101, _, rfl, rfl, rfl⟩, Sub.refl _⟩
          ·refine StepE.calm (fun _ _ => rfl) fun L σ hc hi hd => ?_
           refine AO.wK [101] ?_
           refine AO.lit (Z := (.st [(4, (.ar 1 ((Vector.replicate 4 (0 : Int)).toList.map eU64))), (1, (eBool false))])) (xs := (([(S102.mk t45 true)] : List S102).map e102)) (qs := [(0, (e102 (S102.mk t45 true)))]) rfl 102 rfl (by decide) rfl ⟨rfl, rfl, rfl, trivial⟩ Try.underlying100 sz102 zr102 lay102 rfl (by decide) (litOK (z := 5) [(e102 (S102.mk t45 true))] rfl ⟨⟨rfl, rfl⟩, trivial⟩) rfl fun n48 => ?_
           refine AO.freezeS 0 [(102, (.fz 5 (([(S102.mk t45 true)] : List S102).map e102)))] rfl ⟨fz_all rfl, trivial⟩ ?_
           exact AO.nE (d := 102) rfl ⟨⟨102, _, rfl, rfl, rfl⟩, Sub.refl _⟩
          ·intro L σ hc hi hd
           refine AO.heq (H' := ((n2, (.mem (.ar 1 ((Vector.replicate 4 (0 : Int)).toList.map eU64)))) :: (n7, (.mem (.ar 5 (x8.map e102)))) :: [])) (by first | rfl | simp only [hi, cond_true, cond_false]) ?_
           refine AO.wK [73, 102] ?_
           refine AO.appendCut (l := x8) (m := ([(S102.mk t45 true)] : List S102)) 1 103 rfl (by decide) rfl rfl rfl (by omega) rfl rfl Src.fz Try.underlying100 Try.underlying100 sz102 by102 zr102 rfl hg50 (by decide) fun n49 => ?_
           have a33 : addL L 33 33 = true := rfl
           have u33 : upd σ 33 n49 33 = n49 := rfl
           have m34 : L 34 = false := hc.neg (i := 33) (j := 34) rfl (by rfl) hi
           exact AO.nE (d := 103) rfl ⟨(upd σ 33 n49), (fun j hj => match j, hj with | 0, _ => rfl | 1, _ => rfl | 2, _ => rfl | 3, _ => rfl | 4, _ => rfl | 5, _ => rfl | 6, _ => rfl | 7, _ => rfl | 8, _ => rfl | 9, _ => rfl | 10, _ => rfl | 11, _ => rfl | 12, _ => rfl | 13, _ => rfl | 14, _ => rfl | 15, _ => rfl | 16, _ => rfl | 17, _ => rfl | 18, _ => rfl | 19, _ => rfl | 20, _ => rfl | 21, _ => rfl | 22, _ => rfl | 23, _ => rfl | 24, _ => rfl | 25, _ => rfl | 26, _ => rfl | 27, _ => rfl | 28, _ => rfl | 29, _ => rfl | 30, _ => rfl | 31, _ => rfl | 32, _ => rfl | 33, hj => Bool.noConfusion (hj.symm.trans hi) | 34, hj => Bool.noConfusion (hj.symm.trans m34) | _ + 35, _ => rfl), (fun d' hd' => ⟨_, rfl, by cases hd'; rfl⟩), Sub.of_eq (B := ((n2, (.mem (.ar 1 ((Vector.replicate 4 (0 : Int)).toList.map eU64)))) :: (n49, (.mem (.ar 5 ((x8.take ((w64 ((x8.length : Int) - (2 : Int))).toNat) ++ ([(S102.mk t45 true)] : List S102)).map e102)))) :: [])) (by simp only [a33, u33, cond_true, cond_false]) (Sub.refl _)⟩
          ·refine StepE.calm (fun _ _ => rfl) fun L σ hc hi hd => ?_
           have y33 : L 33 = true := on_get hd (i := 33) (by rfl)
           refine AO.heq (H' := ((n2, (.mem (.ar 1 ((Vector.replicate 4 (0 : Int)).toList.map eU64)))) :: ((σ 33), (.mem (.ar 5 ((x8.take ((w64 ((x8.length : Int) - (2 : Int))).toNat) ++ ([(S102.mk t45 true)] : List S102)).map e102)))) :: [])) (by first | rfl | simp only [y33, cond_true, cond_false]) ?_
           refine AO.wK [103] ?_
           refine AO.c (Calm.assign rfl rfl) ?_
           exact AO.nE (d := 3) rfl ⟨⟨3, _, rfl, rfl, rfl⟩, Sub.of_eq (by first | rfl | simp only [y33, cond_true, cond_false]) (Sub.refl _)⟩
          ·generalize σ 33 = n49
           refine AO.nK [2, 3, 9, 10, 11] ?_
           exact ⟨n49, (x8.take ((w64 ((x8.length : Int) - (2 : Int))).toNat) ++ ([(S102.mk t45 true)] : List S102)), rfl, rfl, h⟩
         ·obtain ⟨hg51, h⟩ := of_guard h
          obtain ⟨hg54, h⟩ := of_guard h
          refine AW.regEff (by rfl) (by decide +kernel) (fun (σ : Nat → Nat) => ([(.own n7 0 x8.length), (eI64 (x8.length : Int)), (eI64 (w64 ((x8.length : Int) - (2 : Int)))), (.own n7 0 ((w64 ((x8.length : Int) - (2 : Int))).toNat)), (.own n7 0 x8.length), (eI64 (x8.length : Int)), (eI64 (w64 ((x8.length : Int) - (2 : Int)))), (.ptr n7 ((w64 ((x8.length : Int) - (2 : Int))).toNat * 5 + 0)), (.ptr n7 ((w64 ((x8.length : Int) - (2 : Int))).toNat * 5 + 0 + 0)), (.ar 1 (((lget x8 (w64 ((x8.length : Int) - (2 : Int)))).f0).toList.map eU64)), (.own n7 0 x8.length), (eI64 (x8.length : Int)), (eI64 (w64 ((x8.length : Int) - (1 : Int)))), (.ptr n7 ((w64 ((x8.length : Int) - (1 : Int))).toNat * 5 + 0)), (.ptr n7 ((w64 ((x8.length : Int) - (1 : Int))).toNat * 5 + 0 + 0)), (.ar 1 (((lget x8 (w64 ((x8.length : Int) - (1 : Int)))).f0).toList.map eU64)), (.ar 1 (t45.toList.map eU64)), (.own n7 0 x8.length), (eI64 (x8.length : Int)), (eI64 (w64 ((x8.length : Int) - (2 : Int)))), (.ptr n7 ((w64 ((x8.length : Int) - (2 : Int))).toNat * 5 + 0)), (.ptr n7 ((w64 ((x8.length : Int) - (2 : Int))).toNat * 5 + 0 + 4)), (eBool ((lget x8 (w64 ((x8.length : Int) - (2 : Int)))).f1)), (eBool ((lget x8 (w64 ((x8.length : Int) - (2 : Int)))).f1)), (.own n7 0 x8.length), (eI64 (x8.length : Int)), (eI64 (w64 ((x8.length : Int) - (1 : Int)))), (.ptr n7 ((w64 ((x8.length : Int) - (1 : Int))).toNat * 5 + 0)), (.ptr n7 ((w64 ((x8.length : Int) - (1 : Int))).toNat * 5 + 0 + 4)), (eBool ((lget x8 (w64 ((x8.length : Int) - (1 : Int)))).f1)), (eBool ((lget x8 (w64 ((x8.length : Int) - (1 : Int)))).f1)), (e102 (S102.mk t45 ((lget x8 (w64 ((x8.length : Int) - (1 : Int)))).f1))), (.fz 5 (([(S102.mk t45 ((lget x8 (w64 ((x8.length : Int) - (1 : Int)))).f1))] : List S102).map e102)), (.own (σ 33) 0 (x8.take ((w64 ((x8.length : Int) - (2 : Int))).toNat) ++ ([(S102.mk t45 ((lget x8 (w64 ((x8.length : Int) - (1 : Int)))).f1))] : List S102)).length), (.own (σ 33) 0 (x8.take ((w64 ((x8.length : Int) - (2 : Int))).toNat) ++ ([(S102.mk t45 ((lget x8 (w64 ((x8.length : Int) - (1 : Int)))).f1))] : List S102)).length)] : List AV)) (fun (L : Nat → Bool) (σ : Nat → Nat) => ((n2, (.mem (.ar 1 ((Vector.replicate 4 (0 : Int)).toList.map eU64)))) :: (bif L 33 then (((σ 33), (.mem (.ar 5 ((x8.take ((w64 ((x8.length : Int) - (2 : Int))).toNat) ++ ([(S102.mk t45 ((lget x8 (w64 ((x8.length : Int) - (1 : Int)))).f1))] : List S102)).map e102)))) :: []) else ((n7, (.mem (.ar 5 (x8.map e102)))) :: [])) : Heap)) [(2, (.ptr n2 0)), (3, (.own n7 0 x8.length)), (6, (eI64 (x8.length : Int))), (9, (.fz 5 (p0.map e82))), (10, (eI64 (p0.length : Int))), (11, (eI64 x9))] ⟨rfl, rfl, rfl, rfl, rfl, rfl, trivial⟩ (fun _ => rfl) (fun σ => (Sub.refl _)) ⟨?_, ?_, ?_, ?_, ?_, ?_, ?_, ?_, ?_, ?_, ?_, ?_, ?_, ?_, ?_, ?_, ?_, ?_, ?_, ?_, ?_, ?_, ?_, ?_, ?_, ?_, ?_, ?_, ?_, ?_, ?_, ?_, ?_, ?_, ?_, trivial⟩ (fun σ => [(2, (.ptr n2 0)), (3, (.own (σ 33) 0 (x8.take ((w64 ((x8.length : Int) - (2 : Int))).toNat) ++ ([(S102.mk t45 ((lget x8 (w64 ((x8.length : Int) - (1 : Int)))).f1))] : List S102)).length)), (9, (.fz 5 (p0.map e82))), (10, (eI64 (p0.length : Int))), (11, (eI64 x9))]) (fun σ => ((n2, (.mem (.ar 1 ((Vector.replicate 4 (0 : Int)).toList.map eU64)))) :: ((σ 33), (.mem (.ar 5 ((x8.take ((w64 ((x8.length : Int) - (2 : Int))).toNat) ++ ([(S102.mk t45 ((lget x8 (w64 ((x8.length : Int) - (1 : Int)))).f1))] : List S102)).map e102)))) :: [])) (fun σ => ⟨rfl, rfl, rfl, rfl, rfl, trivial⟩) (fun σ => Sub.refl _) (fun σ => ?_)
          ·refine StepE.calm (fun _ _ => rfl) fun L σ hc hi hd => ?_
           have m3 : L 3 = false := hc.neg (i := 0) (j := 3) rfl (by rfl) hi
           have m33 : L 33 = false := hc.neg (i := 3) (j := 33) rfl (by rfl) m3
           refine AO.heq (H' := ((n2, (.mem (.ar 1 ((Vector.replicate 4 (0 : Int)).toList.map eU64)))) :: (n7, (.mem (.ar 5 (x8.map e102)))) :: [])) (by first | rfl | simp only [m33, cond_true, cond_false]) ?_
           refine AO.wK [3] ?_
           refine AO.c (Calm.move rfl rfl) ?_
           exact AO.nE (d := 70) rfl ⟨⟨70, _, rfl, rfl, rfl⟩, Sub.of_eq (by first | rfl | simp only [m33, cond_true, cond_false]) (Sub.refl _)⟩
          ·refine StepE.calm (fun _ _ => rfl) fun L σ hc hi hd => ?_
           refine AO.wK [6] ?_
           refine AO.c (Calm.move rfl rfl) ?_
           exact AO.nE (d := 71) rfl ⟨⟨71, _, rfl, rfl, rfl⟩, Sub.refl _⟩
          ·refine StepE.calm (fun _ _ => rfl) fun L σ hc hi hd => ?_
           refine AO.wK [71] ?_
           refine AO.c (x := eI64 (w64 ((x8.length : Int) - (2 : Int)))) (Calm.int rfl rfl rfl rfl) ?_
           exact AO.nE (d := 72) rfl ⟨⟨72, _, rfl, rfl, rfl⟩, Sub.refl _⟩
          ·refine StepE.calm (fun _ _ => rfl) fun L σ hc hi hd => ?_
           have m33 : L 33 = false := hc.neg (i := 3) (j := 33) rfl (by rfl) hi
           refine AO.heq (H' := ((n2, (.mem (.ar 1 ((Vector.replicate 4 (0 : Int)).toList.map eU64)))) :: (n7, (.mem (.ar 5 (x8.map e102)))) :: [])) (by first | rfl | simp only [m33, cond_true, cond_false]) ?_
           refine AO.wK [70, 72] ?_
           refine AO.c (x := .own n7 0 ((w64 ((x8.length : Int) - (2 : Int))).toNat)) (Calm.preO 1 rfl rfl rfl rfl hg42 Try.underlying100 sz102) ?_
           exact AO.nE (d := 73) rfl ⟨⟨73, _, rfl, rfl, rfl⟩, Sub.of_eq (by first | rfl | simp only [m33, cond_true, cond_false]) (Sub.refl _)⟩
          ·refine StepE.calm (fun _ _ => rfl) fun L σ hc hi hd => ?_
           have m7 : L 7 = false := hc.neg (i := 4) (j := 7) rfl (by rfl) hi
           have m8 : L 8 = false := hc.neg (i := 7) (j := 8) rfl (by rfl) m7
           have m9 : L 9 = false := hc.neg (i := 8) (j := 9) rfl (by rfl) m8
           have m16 : L 16 = false := hc.neg (i := 9) (j := 16) rfl (by rfl) m9
           have m31 : L 31 = false := hc.neg (i := 16) (j := 31) rfl (by rfl) m16
           have m32 : L 32 = false := hc.neg (i := 31) (j := 32) rfl (by rfl) m31
           have m33 : L 33 = false := hc.neg (i := 32) (j := 33) rfl (by rfl) m32
           refine AO.heq (H' := ((n2, (.mem (.ar 1 ((Vector.replicate 4 (0 : Int)).toList.map eU64)))) :: (n7, (.mem (.ar 5 (x8.map e102)))) :: [])) (by first | rfl | simp only [m33, cond_true, cond_false]) ?_
           refine AO.wK [3] ?_
           refine AO.c (Calm.move rfl rfl) ?_
           exact AO.nE (d := 74) rfl ⟨⟨74, _, rfl, rfl, rfl⟩, Sub.of_eq (by first | rfl | simp only [m33, cond_true, cond_false]) (Sub.refl _)⟩
          ·refine StepE.calm (fun _ _ => rfl) fun L σ hc hi hd => ?_
           refine AO.wK [6] ?_
           refine AO.c (Calm.move rfl rfl) ?_
           exact AO.nE (d := 75) rfl ⟨⟨75, _, rfl, rfl, rfl⟩, Sub.refl _⟩
          ·refine StepE.calm (fun _ _ => rfl) fun L σ hc hi hd => ?_
           refine AO.wK [75] ?_
           refine AO.c (x := eI64 (w64 ((x8.length : Int) - (2 : Int)))) (Calm.int rfl rfl rfl rfl) ?_
           exact AO.nE (d := 76) rfl ⟨⟨76, _, rfl, rfl, rfl⟩, Sub.refl _⟩
          ·refine StepE.calm (fun _ _ => rfl) fun L σ hc hi hd => ?_
           have m8 : L 8 = false := hc.neg (i := 7) (j := 8) rfl (by rfl) hi
           have m9 : L 9 = false := hc.neg (i := 8) (j := 9) rfl (by rfl) m8
           have m16 : L 16 = false := hc.neg (i := 9) (j := 16) rfl (by rfl) m9
           have m31 : L 31 = false := hc.neg (i := 16) (j := 31) rfl (by rfl) m16
           have m32 : L 32 = false := hc.neg (i := 31) (j := 32) rfl (by rfl) m31
           have m33 : L 33 = false := hc.neg (i := 32) (j := 33) rfl (by rfl) m32
           refine AO.heq (H' := ((n2, (.mem (.ar 1 ((Vector.replicate 4 (0 : Int)).toList.map eU64)))) :: (n7, (.mem (.ar 5 (x8.map e102)))) :: [])) (by first | rfl | simp only [m33, cond_true, cond_false]) ?_
           refine AO.wK [74, 76] ?_
           refine AO.c (Calm.idxO 1 rfl rfl rfl rfl hg43 Try.underlying100 sz102) ?_
           exact AO.nE (d := 77) rfl ⟨⟨77, _, rfl, rfl, rfl⟩, Sub.of_eq (by first | rfl | simp only [m33, cond_true, cond_false]) (Sub.refl _)⟩
          ·refine StepE.calm (fun _ _ => rfl) fun L σ hc hi hd => ?_
           have m9 : L 9 = false := hc.neg (i := 8) (j := 9) rfl (by rfl) hi
           have m16 : L 16 = false := hc.neg (i := 9) (j := 16) rfl (by rfl) m9
           have m31 : L 31 = false := hc.neg (i := 16) (j := 31) rfl (by rfl) m16
           have m32 : L 32 = false := hc.neg (i := 31) (j := 32) rfl (by rfl) m31
           have m33 : L 33 = false := hc.neg (i := 32) (j := 33) rfl (by rfl) m32
           refine AO.heq (H' := ((n2, (.mem (.ar 1 ((Vector.replicate 4 (0 : Int)).toList.map eU64)))) :: (n7, (.mem (.ar 5 (x8.map e102)))) :: [])) (by first | rfl | simp only [m33, cond_true, cond_false]) ?_
           refine AO.wK [77] ?_
           refine AO.c (x := .ptr n7 ((w64 ((x8.length : Int) - (2 : Int))).toNat * 5 + 0 + 0)) (Calm.fldPtr rfl rfl Try.underlying102 rfl sz33 _ rfl) ?_
           exact AO.nE (d := 78) rfl ⟨⟨78, _, rfl, rfl, rfl⟩, Sub.of_eq (by first | rfl | simp only [m33, cond_true, cond_false]) (Sub.refl _)⟩
          ·refine StepE.calm (fun _ _ => rfl) fun L σ hc hi hd => ?_
           have m16 : L 16 = false := hc.neg (i := 9) (j := 16) rfl (by rfl) hi
           have m31 : L 31 = false := hc.neg (i := 16) (j := 31) rfl (by rfl) m16
           have m32 : L 32 = false := hc.neg (i := 31) (j := 32) rfl (by rfl) m31
           have m33 : L 33 = false := hc.neg (i := 32) (j := 33) rfl (by rfl) m32
           refine AO.heq (H' := ((n2, (.mem (.ar 1 ((Vector.replicate 4 (0 : Int)).toList.map eU64)))) :: (n7, (.mem (.ar 5 (x8.map e102)))) :: [])) (by first | rfl | simp only [m33, cond_true, cond_false]) ?_
           refine AO.wK [78] ?_
           refine AO.c (Calm.load 1 rfl rfl rfl (At.cast (At.lidx (w64 ((x8.length : Int) - (2 : Int))) hg43.1 hg43.2 (At.fld0 At.here)) (by omega)) ag33 (by rw [sz33]; simp [AV.size])) ?_
           exact AO.nE (d := 79) rfl ⟨⟨79, _, rfl, rfl, rfl⟩, Sub.of_eq (by first | rfl | simp only [m33, cond_true, cond_false]) (Sub.refl _)⟩
          ·refine StepE.calm (fun _ _ => rfl) fun L σ hc hi hd => ?_
           have m13 : L 13 = false := hc.neg (i := 10) (j := 13) rfl (by rfl) hi
           have m14 : L 14 = false := hc.neg (i := 13) (j := 14) rfl (by rfl) m13
           have m15 : L 15 = false := hc.neg (i := 14) (j := 15) rfl (by rfl) m14
           have m16 : L 16 = false := hc.neg (i := 15) (j := 16) rfl (by rfl) m15
           have m31 : L 31 = false := hc.neg (i := 16) (j := 31) rfl (by rfl) m16
           have m32 : L 32 = false := hc.neg (i := 31) (j := 32) rfl (by rfl) m31
           have m33 : L 33 = false := hc.neg (i := 32) (j := 33) rfl (by rfl) m32
           refine AO.heq (H' := ((n2, (.mem (.ar 1 ((Vector.replicate 4 (0 : Int)).toList.map eU64)))) :: (n7, (.mem (.ar 5 (x8.map e102)))) :: [])) (by first | rfl | simp only [m33, cond_true, cond_false]) ?_
           refine AO.wK [3] ?_
           refine AO.c (Calm.move rfl rfl) ?_
           exact AO.nE (d := 80) rfl ⟨⟨80, _, rfl, rfl, rfl⟩, Sub.of_eq (by first | rfl | simp only [m33, cond_true, cond_false]) (Sub.refl _)⟩
          ·refine StepE.calm (fun _ _ => rfl) fun L σ hc hi hd => ?_
           refine AO.wK [6] ?_
           refine AO.c (Calm.move rfl rfl) ?_
           exact AO.nE (d := 81) rfl ⟨⟨81, _, rfl, rfl, rfl⟩, Sub.refl _⟩
          ·refine StepE.calm (fun _ _ => rfl) fun L σ hc hi hd => ?_
           refine AO.wK [81] ?_
           refine AO.c (x := eI64 (w64 ((x8.length : Int) - (1 : Int)))) (Calm.int rfl rfl rfl rfl) ?_
           exact AO.nE (d := 82) rfl ⟨⟨82, _, rfl, rfl, rfl⟩, Sub.refl _⟩
          ·refine StepE.calm (fun _ _ => rfl) fun L σ hc hi hd => ?_
           have m14 : L 14 = false := hc.neg (i := 13) (j := 14) rfl (by rfl) hi
           have m15 : L 15 = false := hc.neg (i := 14) (j := 15) rfl (by rfl) m14
           have m16 : L 16 = false := hc.neg (i := 15) (j := 16) rfl (by rfl) m15
           have m31 : L 31 = false := hc.neg (i := 16) (j := 31) rfl (by rfl) m16
           have m32 : L 32 = false := hc.neg (i := 31) (j := 32) rfl (by rfl) m31
           have m33 : L 33 = false := hc.neg (i := 32) (j := 33) rfl (by rfl) m32
           refine AO.heq (H' := ((n2, (.mem (.ar 1 ((Vector.replicate 4 (0 : Int)).toList.map eU64)))) :: (n7, (.mem (.ar 5 (x8.map e102)))) :: [])) (by first | rfl | simp only [m33, cond_true, cond_false]) ?_
           refine AO.wK [80, 82] ?_
           refine AO.c (Calm.idxO 1 rfl rfl rfl rfl hg44 Try.underlying100 sz102) ?_
           exact AO.nE (d := 83) rfl ⟨⟨83, _, rfl, rfl, rfl⟩, Sub.of_eq (by first | rfl | simp only [m33, cond_true, cond_false]) (Sub.refl _)⟩
          ·refine StepE.calm (fun _ _ => rfl) fun L σ hc hi hd => ?_
           have m15 : L 15 = false := hc.neg (i := 14) (j := 15) rfl (by rfl) hi
           have m16 : L 16 = false := hc.neg (i := 15) (j := 16) rfl (by rfl) m15
           have m31 : L 31 = false := hc.neg (i := 16) (j := 31) rfl (by rfl) m16
           have m32 : L 32 = false := hc.neg (i := 31) (j := 32) rfl (by rfl) m31
           have m33 : L 33 = false := hc.neg (i := 32) (j := 33) rfl (by rfl) m32
           refine AO.heq (H' := ((n2, (.mem (.ar 1 ((Vector.replicate 4 (0 : Int)).toList.map eU64)))) :: (n7, (.mem (.ar 5 (x8.map e102)))) :: [])) (by first | rfl | simp only [m33, cond_true, cond_false]) ?_
           refine AO.wK [83] ?_
           refine AO.c (x := .ptr n7 ((w64 ((x8.length : Int) - (1 : Int))).toNat * 5 + 0 + 0)) (Calm.fldPtr rfl rfl Try.underlying102 rfl sz33 _ rfl) ?_
           exact AO.nE (d := 84) rfl ⟨⟨84, _, rfl, rfl, rfl⟩, Sub.of_eq (by first | rfl | simp only [m33, cond_true, cond_false]) (Sub.refl _)⟩
          ·refine StepE.calm (fun _ _ => rfl) fun L σ hc hi hd => ?_
           have m16 : L 16 = false := hc.neg (i := 15) (j := 16) rfl (by rfl) hi
           have m31 : L 31 = false := hc.neg (i := 16) (j := 31) rfl (by rfl) m16
           have m32 : L 32 = false := hc.neg (i := 31) (j := 32) rfl (by rfl) m31
           have m33 : L 33 = false := hc.neg (i := 32) (j := 33) rfl (by rfl) m32
           refine AO.heq (H' := ((n2, (.mem (.ar 1 ((Vector.replicate 4 (0 : Int)).toList.map eU64)))) :: (n7, (.mem (.ar 5 (x8.map e102)))) :: [])) (by first | rfl | simp only [m33, cond_true, cond_false]) ?_
           refine AO.wK [84] ?_
           refine AO.c (Calm.load 1 rfl rfl rfl (At.cast (At.lidx (w64 ((x8.length : Int) - (1 : Int))) hg44.1 hg44.2 (At.fld0 At.here)) (by omega)) ag33 (by rw [sz33]; simp [AV.size])) ?_
           exact AO.nE (d := 85) rfl ⟨⟨85, _, rfl, rfl, rfl⟩, Sub.of_eq (by first | rfl | simp only [m33, cond_true, cond_false]) (Sub.refl _)⟩
          ·refine StepE.calm (fun _ _ => rfl) fun L σ hc hi hd => ?_
           refine AO.wK [79, 85] ?_
           refine AO.callS [(.ar 1 (((lget x8 (w64 ((x8.length : Int) - (2 : Int)))).f0).toList.map eU64)), (.ar 1 (((lget x8 (w64 ((x8.length : Int) - (1 : Int)))).f0).toList.map eU64))] (.ar 1 (t45.toList.map eU64)) 86 rfl (by decide) ok64 rfl rfl rfl ⟨rfl, rfl, rfl, rfl, trivial⟩ (byteset_Or_spec et45) ?_
           exact AO.nE (d := 86) rfl ⟨⟨86, _, rfl, rfl, rfl⟩, Sub.refl _⟩
          ·refine StepE.calm (fun _ _ => rfl) fun L σ hc hi hd => ?_
           have m20 : L 20 = false := hc.neg (i := 17) (j := 20) rfl (by rfl) hi
           have m21 : L 21 = false := hc.neg (i := 20) (j := 21) rfl (by rfl) m20
           have m22 : L 22 = false := hc.neg (i := 21) (j := 22) rfl (by rfl) m21
           have m23 : L 23 = false := hc.neg (i := 22) (j := 23) rfl (by rfl) m22
           have m24 : L 24 = false := hc.neg (i := 23) (j := 24) rfl (by rfl) m23
           have m27 : L 27 = false := hc.neg (i := 24) (j := 27) rfl (by rfl) m24
           have m28 : L 28 = false := hc.neg (i := 27) (j := 28) rfl (by rfl) m27
           have m29 : L 29 = false := hc.neg (i := 28) (j := 29) rfl (by rfl) m28
           have m30 : L 30 = false := hc.neg (i := 29) (j := 30) rfl (by rfl) m29
           have m31 : L 31 = false := hc.neg (i := 30) (j := 31) rfl (by rfl) m30
           have m32 : L 32 = false := hc.neg (i := 31) (j := 32) rfl (by rfl) m31
           have m33 : L 33 = false := hc.neg (i := 32) (j := 33) rfl (by rfl) m32
           refine AO.heq (H' := ((n2, (.mem (.ar 1 ((Vector.replicate 4 (0 : Int)).toList.map eU64)))) :: (n7, (.mem (.ar 5 (x8.map e102)))) :: [])) (by first | rfl | simp only [m33, cond_true, cond_false]) ?_
           refine AO.wK [3] ?_
           refine AO.c (Calm.move rfl rfl) ?_
           exact AO.nE (d := 87) rfl ⟨⟨87, _, rfl, rfl, rfl⟩, Sub.of_eq (by first | rfl | simp only [m33, cond_true, cond_false]) (Sub.refl _)⟩
          ·refine StepE.calm (fun _ _ => rfl) fun L σ hc hi hd => ?_
           refine AO.wK [6] ?_
           refine AO.c (Calm.move rfl rfl) ?_
           exact AO.nE (d := 88) rfl ⟨⟨88, _, rfl, rfl, rfl⟩, Sub.refl _⟩
          ·refine StepE.calm (fun _ _ => rfl) fun L σ hc hi hd => ?_
           refine AO.wK [88] ?_
           refine AO.c (x := eI64 (w64 ((x8.length : Int) - (2 : Int)))) (Calm.int rfl rfl rfl rfl) ?_
           exact AO.nE (d := 89) rfl ⟨⟨89, _, rfl, rfl, rfl⟩, Sub.refl _⟩
          ·refine StepE.calm (fun _ _ => rfl) fun L σ hc hi hd => ?_
           have m21 : L 21 = false := hc.neg (i := 20) (j := 21) rfl (by rfl) hi
           have m22 : L 22 = false := hc.neg (i := 21) (j := 22) rfl (by rfl) m21
           have m23 : L 23 = false := hc.neg (i := 22) (j := 23) rfl (by rfl) m22
           have m24 : L 24 = false := hc.neg (i := 23) (j := 24) rfl (by rfl) m23
           have m27 : L 27 = false := hc.neg (i := 24) (j := 27) rfl (by rfl) m24
           have m28 : L 28 = false := hc.neg (i := 27) (j := 28) rfl (by rfl) m27
           have m29 : L 29 = false := hc.neg (i := 28) (j := 29) rfl (by rfl) m28
           have m30 : L 30 = false := hc.neg (i := 29) (j := 30) rfl (by rfl) m29
           have m31 : L 31 = false := hc.neg (i := 30) (j := 31) rfl (by rfl) m30
           have m32 : L 32 = false := hc.neg (i := 31) (j := 32) rfl (by rfl) m31
           have m33 : L 33 = false := hc.neg (i := 32) (j := 33) rfl (by rfl) m32
           refine AO.heq (H' := ((n2, (.mem (.ar 1 ((Vector.replicate 4 (0 : Int)).toList.map eU64)))) :: (n7, (.mem (.ar 5 (x8.map e102)))) :: [])) (by first | rfl | simp only [m33, cond_true, cond_false]) ?_
           refine AO.wK [87, 89] ?_
           refine AO.c (Calm.idxO 1 rfl rfl rfl rfl hg46 Try.underlying100 sz102) ?_
           exact AO.nE (d := 90) rfl ⟨⟨90, _, rfl, rfl, rfl⟩, Sub.of_eq (by first | rfl | simp only [m33, cond_true, cond_false]) (Sub.refl _)⟩
          ·refine StepE.calm (fun _ _ => rfl) fun L σ hc hi hd => ?_
           have m22 : L 22 = false := hc.neg (i := 21) (j := 22) rfl (by rfl) hi
           have m23 : L 23 = false := hc.neg (i := 22) (j := 23) rfl (by rfl) m22
           have m24 : L 24 = false := hc.neg (i := 23) (j := 24) rfl (by rfl) m23
           have m27 : L 27 = false := hc.neg (i := 24) (j := 27) rfl (by rfl) m24
           have m28 : L 28 = false := hc.neg (i := 27) (j := 28) rfl (by rfl) m27
           have m29 : L 29 = false := hc.neg (i := 28) (j := 29) rfl (by rfl) m28
           have m30 : L 30 = false := hc.neg (i := 29) (j := 30) rfl (by rfl) m29
           have m31 : L 31 = false := hc.neg (i := 30) (j := 31) rfl (by rfl) m30
           have m32 : L 32 = false := hc.neg (i := 31) (j := 32) rfl (by rfl) m31
           have m33 : L 33 = false := hc.neg (i := 32) (j := 33) rfl (by rfl) m32
           refine AO.heq (H' := ((n2, (.mem (.ar 1 ((Vector.replicate 4 (0 : Int)).toList.map eU64)))) :: (n7, (.mem (.ar 5 (x8.map e102)))) :: [])) (by first | rfl | simp only [m33, cond_true, cond_false]) ?_
           refine AO.wK [90] ?_
           refine AO.c (x := .ptr n7 ((w64 ((x8.length : Int) - (2 : Int))).toNat * 5 + 0 + 4)) (Calm.fldPtr rfl rfl Try.underlying102 rfl sz4 _ rfl) ?_
           exact AO.nE (d := 91) rfl ⟨⟨91, _, rfl, rfl, rfl⟩, Sub.of_eq (by first | rfl | simp only [m33, cond_true, cond_false]) (Sub.refl _)⟩
          ·refine StepE.calm (fun _ _ => rfl) fun L σ hc hi hd => ?_
           have m23 : L 23 = false := hc.neg (i := 22) (j := 23) rfl (by rfl) hi
           have m24 : L 24 = false := hc.neg (i := 23) (j := 24) rfl (by rfl) m23
           have m27 : L 27 = false := hc.neg (i := 24) (j := 27) rfl (by rfl) m24
           have m28 : L 28 = false := hc.neg (i := 27) (j := 28) rfl (by rfl) m27
           have m29 : L 29 = false := hc.neg (i := 28) (j := 29) rfl (by rfl) m28
           have m30 : L 30 = false := hc.neg (i := 29) (j := 30) rfl (by rfl) m29
           have m31 : L 31 = false := hc.neg (i := 30) (j := 31) rfl (by rfl) m30
           have m32 : L 32 = false := hc.neg (i := 31) (j := 32) rfl (by rfl) m31
           have m33 : L 33 = false := hc.neg (i := 32) (j := 33) rfl (by rfl) m32
           refine AO.heq (H' := ((n2, (.mem (.ar 1 ((Vector.replicate 4 (0 : Int)).toList.map eU64)))) :: (n7, (.mem (.ar 5 (x8.map e102)))) :: [])) (by first | rfl | simp only [m33, cond_true, cond_false]) ?_
           refine AO.wK [91] ?_
           refine AO.c (Calm.load 1 rfl rfl rfl (At.cast (At.lidx (w64 ((x8.length : Int) - (2 : Int))) hg46.1 hg46.2 (At.fldS (At.fld0 At.here))) (by omega)) ag4 sz4) ?_
           exact AO.nE (d := 92) rfl ⟨⟨92, _, rfl, rfl, rfl⟩, Sub.of_eq (by first | rfl | simp only [m33, cond_true, cond_false]) (Sub.refl _)⟩
          ·refine StepE.calm (fun _ _ => rfl) fun L σ hc hi hd => ?_
           refine AO.wK [92] ?_
           refine AO.c (Calm.move rfl rfl) ?_
           exact AO.nE (d := 93) rfl ⟨⟨93, _, rfl, rfl, rfl⟩, Sub.refl _⟩
          ·refine StepE.calm (fun _ _ => rfl) fun L σ hc hi hd => ?_
           have m27 : L 27 = false := hc.neg (i := 24) (j := 27) rfl (by rfl) hi
           have m28 : L 28 = false := hc.neg (i := 27) (j := 28) rfl (by rfl) m27
           have m29 : L 29 = false := hc.neg (i := 28) (j := 29) rfl (by rfl) m28
           have m30 : L 30 = false := hc.neg (i := 29) (j := 30) rfl (by rfl) m29
           have m31 : L 31 = false := hc.neg (i := 30) (j := 31) rfl (by rfl) m30
           have m32 : L 32 = false := hc.neg (i := 31) (j := 32) rfl (by rfl) m31
           have m33 : L 33 = false := hc.neg (i := 32) (j := 33) rfl (by rfl) m32
           refine AO.heq (H' := ((n2, (.mem (.ar 1 ((Vector.replicate 4 (0 : Int)).toList.map eU64)))) :: (n7, (.mem (.ar 5 (x8.map e102)))) :: [])) (by first | rfl | simp only [m33, cond_true, cond_false]) ?_
           refine AO.wK [3, 93] ?_
           refine AO.cG rfl rfl (bD (eq_false_of_ne_true hc47)) (Calm.move rfl rfl) ?_
           exact AO.nE (d := 94) rfl ⟨⟨94, _, rfl, rfl, rfl⟩, Sub.of_eq (by first | rfl | simp only [m33, cond_true, cond_false]) (Sub.refl _)⟩
          ·refine StepE.calm (fun _ _ => rfl) fun L σ hc hi hd => ?_
           refine AO.wK [6, 93] ?_
           refine AO.cG rfl rfl (bD (eq_false_of_ne_true hc47)) (Calm.move rfl rfl) ?_
           exact AO.nE (d := 95) rfl ⟨⟨95, _, rfl, rfl, rfl⟩, Sub.refl _⟩
          ·refine StepE.calm (fun _ _ => rfl) fun L σ hc hi hd => ?_
           refine AO.wK [93, 95] ?_
           refine AO.cG (x := eI64 (w64 ((x8.length : Int) - (1 : Int)))) rfl rfl (bD (eq_false_of_ne_true hc47)) (Calm.int rfl rfl rfl rfl) ?_
           exact AO.nE (d := 96) rfl ⟨⟨96, _, rfl, rfl, rfl⟩, Sub.refl _⟩
          ·refine StepE.calm (fun _ _ => rfl) fun L σ hc hi hd => ?_
           have m28 : L 28 = false := hc.neg (i := 27) (j := 28) rfl (by rfl) hi
           have m29 : L 29 = false := hc.neg (i := 28) (j := 29) rfl (by rfl) m28
           have m30 : L 30 = false := hc.neg (i := 29) (j := 30) rfl (by rfl) m29
           have m31 : L 31 = false := hc.neg (i := 30) (j := 31) rfl (by rfl) m30
           have m32 : L 32 = false := hc.neg (i := 31) (j := 32) rfl (by rfl) m31
           have m33 : L 33 = false := hc.neg (i := 32) (j := 33) rfl (by rfl) m32
           refine AO.heq (H' := ((n2, (.mem (.ar 1 ((Vector.replicate 4 (0 : Int)).toList.map eU64)))) :: (n7, (.mem (.ar 5 (x8.map e102)))) :: [])) (by first | rfl | simp only [m33, cond_true, cond_false]) ?_
           refine AO.wK [93, 94, 96] ?_
           refine AO.cG rfl rfl (bD (eq_false_of_ne_true hc47)) (Calm.idxO 1 rfl rfl rfl rfl hg51 Try.underlying100 sz102) ?_
           exact AO.nE (d := 97) rfl ⟨⟨97, _, rfl, rfl, rfl⟩, Sub.of_eq (by first | rfl | simp only [m33, cond_true, cond_false]) (Sub.refl _)⟩
          ·refine StepE.calm (fun _ _ => rfl) fun L σ hc hi hd => ?_
           have m29 : L 29 = false := hc.neg (i := 28) (j := 29) rfl (by rfl) hi
           have m30 : L 30 = false := hc.neg (i := 29) (j := 30) rfl (by rfl) m29
           have m31 : L 31 = false := hc.neg (i := 30) (j := 31) rfl (by rfl) m30
           have m32 : L 32 = false := hc.neg (i := 31) (j := 32) rfl (by rfl) m31
           have m33 : L 33 = false := hc.neg (i := 32) (j := 33) rfl (by rfl) m32
           refine AO.heq (H' := ((n2, (.mem (.ar 1 ((Vector.replicate 4 (0 : Int)).toList.map eU64)))) :: (n7, (.mem (.ar 5 (x8.map e102)))) :: [])) (by first | rfl | simp only [m33, cond_true, cond_false]) ?_
           refine AO.wK [93, 97] ?_
           refine AO.cG (x := .ptr n7 ((w64 ((x8.length : Int) - (1 : Int))).toNat * 5 + 0 + 4)) rfl rfl (bD (eq_false_of_ne_true hc47)) (Calm.fldPtr rfl rfl Try.underlying102 rfl sz4 _ rfl) ?_
           exact AO.nE (d := 98) rfl ⟨⟨98, _, rfl, rfl, rfl⟩, Sub.of_eq (by first | rfl | simp only [m33, cond_true, cond_false]) (Sub.refl _)⟩
          ·refine StepE.calm (fun _ _ => rfl) fun L σ hc hi hd => ?_
           have m30 : L 30 = false := hc.neg (i := 29) (j := 30) rfl (by rfl) hi
           have m31 : L 31 = false := hc.neg (i := 30) (j := 31) rfl (by rfl) m30
           have m32 : L 32 = false := hc.neg (i := 31) (j := 32) rfl (by rfl) m31
           have m33 : L 33 = false := hc.neg (i := 32) (j := 33) rfl (by rfl) m32
           refine AO.heq (H' := ((n2, (.mem (.ar 1 ((Vector.replicate 4 (0 : Int)).toList.map eU64)))) :: (n7, (.mem (.ar 5 (x8.map e102)))) :: [])) (by first | rfl | simp only [m33, cond_true, cond_false]) ?_
           refine AO.wK [93, 98] ?_
           refine AO.cG rfl rfl (bD (eq_false_of_ne_true hc47)) (Calm.load 1 rfl rfl rfl (At.cast (At.lidx (w64 ((x8.length : Int) - (1 : Int))) hg51.1 hg51.2 (At.fldS (At.fld0 At.here))) (by omega)) ag4 sz4) ?_
           exact AO.nE (d := 99) rfl ⟨⟨99, _, rfl, rfl, rfl⟩, Sub.of_eq (by first | rfl | simp only [m33, cond_true, cond_false]) (Sub.refl _)⟩
          ·refine StepE.calm (fun _ _ => rfl) fun L σ hc hi hd => ?_
           refine AO.wK [93, 99] ?_
           refine AO.c (Calm.pickF rfl (bD (eq_false_of_ne_true hc47)) rfl) ?_
           exact AO.nE (d := 100) rfl ⟨⟨100, _, rfl, rfl, rfl⟩, Sub.refl _⟩
          ·refine StepE.calm (fun _ _ => rfl) fun L σ hc hi hd => ?_
           refine AO.wK [86, 100] ?_
           refine AO.c (x := .st [(4, (.ar 1 (t45.toList.map eU64))), (1, (eBool ((lget x8 (w64 ((x8.length : Int) - (1 : Int)))).f1)))]) (Calm.build (qs := [(0, (.ar 1 (t45.toList.map eU64))), (1, (eBool ((lget x8 (w64 ((x8.length : Int) - (1 : Int)))).f1)))]) rfl ⟨rfl, rfl, rfl, rfl, rfl, rfl, trivial⟩ Try.underlying102 rfl zr102 lay102 (.cons rfl rfl (vec_size _ _) (vec_size _ _) (Put.cast (Put.fld0 Put.here) rfl) (.cons rfl rfl rfl rfl (Put.cast (Put.fldS (Put.fld0 Put.here)) rfl) .nil)) rfl) ?_
           exact AO.nE (d := 101) rfl ⟨⟨101, _, rfl, rfl, rfl⟩, Sub.refl _⟩
          ·refine StepE.calm (fun _ _ => rfl) fun L σ hc hi hd => ?_
           refine AO.wK [101] ?_
           refine AO.lit (Z := (.st [(4, (.ar 1 ((Vector.replicate 4 (0 : Int)).toList.map eU64))), (1, (eBool false))])) (xs := (([(S102.mk t45 ((lget x8 (w64 ((x8.length : Int) - (1 : Int)))).f1))] : List S102).map e102)) (qs := [(0, (e102 (S102.mk t45 ((lget x8 (w64 ((x8.length : Int) - (1 : Int)))).f1))))]) rfl 102 rfl (by decide) rfl ⟨rfl, rfl, rfl, trivial⟩ Try.underlying100 sz102 zr102 lay102 rfl (by decide) (litOK (z := 5) [(e102 (S102.mk t45 ((lget x8 (w64 ((x8.length : Int) - (1 : Int)))).f1)))] rfl ⟨⟨rfl, rfl⟩, trivial⟩) rfl fun n52 => ?_
           refine AO.freezeS 0 [(102, (.fz 5 (([(S102.mk t45 ((lget x8 (w64 ((x8.length : Int) - (1 : Int)))).f1))] : List S102).map e102)))] rfl ⟨fz_all rfl, trivial⟩ ?_
           exact AO.nE (d := 102) rfl ⟨⟨102, _, rfl, rfl, rfl⟩, Sub.refl _⟩
          ·intro L σ hc hi hd
           refine AO.heq (H' := ((n2, (.mem (.ar 1 ((Vector.replicate 4 (0 : Int)).toList.map eU64)))) :: (n7, (.mem (.ar 5 (x8.map e102)))) :: [])) (by first | rfl | simp only [hi, cond_true, cond_false]) ?_
           refine AO.wK [73, 102] ?_
           refine AO.appendCut (l := x8) (m := ([(S102.mk t45 ((lget x8 (w64 ((x8.length : Int) - (1 : Int)))).f1))] : List S102)) 1 103 rfl (by decide) rfl rfl rfl (by omega) rfl rfl Src.fz Try.underlying100 Try.underlying100 sz102 by102 zr102 rfl hg54 (by decide) fun n53 => ?_
           have a33 : addL L 33 33 = true := rfl
           have u33 : upd σ 33 n53 33 = n53 := rfl
           have m34 : L 34 = false := hc.neg (i := 33) (j := 34) rfl (by rfl) hi
           exact AO.nE (d := 103) rfl ⟨(upd σ 33 n53), (fun j hj => match j, hj with | 0, _ => rfl | 1, _ => rfl | 2, _ => rfl | 3, _ => rfl | 4, _ => rfl | 5, _ => rfl | 6, _ => rfl | 7, _ => rfl | 8, _ => rfl | 9, _ => rfl | 10, _ => rfl | 11, _ => rfl | 12, _ => rfl | 13, _ => rfl | 14, _ => rfl | 15, _ => rfl | 16, _ => rfl | 17, _ => rfl | 18, _ => rfl | 19, _ => rfl | 20, _ => rfl | 21, _ => rfl | 22, _ => rfl | 23, _ => rfl | 24, _ => rfl | 25, _ => rfl | 26, _ => rfl | 27, _ => rfl | 28, _ => rfl | 29, _ => rfl | 30, _ => rfl | 31, _ => rfl | 32, _ => rfl | 33, hj => Bool.noConfusion (hj.symm.trans hi) | 34, hj => Bool.noConfusion (hj.symm.trans m34) | _ + 35, _ => rfl), (fun d' hd' => ⟨_, rfl, by cases hd'; rfl⟩), Sub.of_eq (B := ((n2, (.mem (.ar 1 ((Vector.replicate 4 (0 : Int)).toList.map eU64)))) :: (n53, (.mem (.ar 5 ((x8.take ((w64 ((x8.length : Int) - (2 : Int))).toNat) ++ ([(S102.mk t45 ((lget x8 (w64 ((x8.length : Int) - (1 : Int)))).f1))] : List S102)).map e102)))) :: [])) (by simp only [a33, u33, cond_true, cond_false]) (Sub.refl _)⟩
          ·refine StepE.calm (fun _ _ => rfl) fun L σ hc hi hd => ?_
           have y33 : L 33 = true := on_get hd (i := 33) (by rfl)
           refine AO.heq (H' := ((n2, (.mem (.ar 1 ((Vector.replicate 4 (0 : Int)).toList.map eU64)))) :: ((σ 33), (.mem (.ar 5 ((x8.take ((w64 ((x8.length : Int) - (2 : Int))).toNat) ++ ([(S102.mk t45 ((lget x8 (w64 ((x8.length : Int) - (1 : Int)))).f1))] : List S102)).map e102)))) :: [])) (by first | rfl | simp only [y33, cond_true, cond_false]) ?_
           refine AO.wK [103] ?_
           refine AO.c (Calm.assign rfl rfl) ?_
           exact AO.nE (d := 3) rfl ⟨⟨3, _, rfl, rfl, rfl⟩, Sub.of_eq (by first | rfl | simp only [y33, cond_true, cond_false]) (Sub.refl _)⟩
          ·generalize σ 33 = n53
           refine AO.nK [2, 3, 9, 10, 11] ?_
           exact ⟨n53, (x8.take ((w64 ((x8.length : Int) - (2 : Int))).toNat) ++ ([(S102.mk t45 ((lget x8 (w64 ((x8.length : Int) - (1 : Int)))).f1))] : List S102)), rfl, rfl, h⟩
        ·refine AW.condN _ rfl hc41 ?_
         refine AW.seq_mid (fun ρ H => ∃ (b55 : Bool), ρ = [(2, (.ptr n2 0)), (3, (.own n7 0 x8.length)), (6, (eI64 (x8.length : Int))), (9, (.fz 5 (p0.map e82))), (10, (eI64 (p0.length : Int))), (11, (eI64 x9)), (104, (eBool b55))] ∧ H = [(n2, (.mem (.ar 1 ((Vector.replicate 4 (0 : Int)).toList.map eU64)))), (n7, (.mem (.ar 5 (x8.map e102))))] ∧ deriv_First_c3 k rec10 x8 x9 b55 = some r) ?_ ?_
         ·refine AW.sr ?_
          refine AO.c (x := eBool (decide (((lget p0 x9).f0) = (4 : Int)))) (Calm.int rfl rfl rfl rfl) ?_
          refine AO.c (Calm.assign rfl rfl) ?_
          refine AO.nK [2, 3, 6, 9, 10, 11, 18, 104] ?_
          rcases of_ite h with ⟨hc58, h⟩ | ⟨hc58, h⟩
          ·refine AW.condP _ rfl hc58 ?_
           refine AW.sK [2, 3, 6, 9, 10, 11, 104] ?_
           exact ⟨decide (((lget p0 x9).f0) = (4 : Int)), rfl, rfl, h⟩
          ·refine AW.condN _ rfl hc58 ?_
           refine AW.reg ?_
           refine AO.c (x := eBool (decide (((lget p0 x9).f0) = (6 : Int)))) (Calm.int rfl rfl rfl rfl) ?_
           refine AO.c (Calm.assign rfl rfl) ?_
           refine AO.nK [2, 3, 6, 9, 10, 11, 104] ?_
           exact ⟨decide (((lget p0 x9).f0) = (6 : Int)), rfl, rfl, h⟩
         ·rintro _ _ ⟨b55, rfl, rfl, h⟩
          rw [deriv_First_c3.eq_1] at h
          rcases of_ite h with ⟨hc56, h⟩ | ⟨hc56, h⟩
          ·refine AW.condT' _ rfl hc56 ?_
           refine AW.reg ?_
           refine AO.c (Calm.move rfl rfl) ?_
           refine AO.c (Calm.move rfl rfl) ?_
           refine AO.c (x := eI64 (w64 ((x8.length : Int) - (1 : Int)))) (Calm.int rfl rfl rfl rfl) ?_
           obtain ⟨hg57, h⟩ := of_guard h
           refine AO.c (Calm.idxO 1 rfl rfl rfl rfl hg57 Try.underlying100 sz102) ?_
           refine AO.c (x := .ptr n7 ((w64 ((x8.length : Int) - (1 : Int))).toNat * 5 + 0 + 4)) (Calm.fldPtr rfl rfl Try.underlying102 rfl sz4 _ rfl) ?_
           refine AO.store (X' := (.ar 5 ((lset x8 (w64 ((x8.length : Int) - (1 : Int))) (S102.mk ((lget x8 (w64 ((x8.length : Int) - (1 : Int)))).f0) true)).map e102))) 1 rfl rfl rfl rfl rfl rfl (Put.cast (Put.lidx (w64 ((x8.length : Int) - (1 : Int))) (S102.mk ((lget x8 (w64 ((x8.length : Int) - (1 : Int)))).f0) true) hg57.1 hg57.2 (Put.fldS (Put.fld0 Put.here))) (by omega)) rfl rfl sz4 rfl ?_
           refine AO.coe 3 (y' := (.own n7 0 (lset x8 (w64 ((x8.length : Int) - (1 : Int))) (S102.mk ((lget x8 (w64 ((x8.length : Int) - (1 : Int)))).f0) true)).length)) rfl (fun _ _ h => lset_own h) ?_
           refine AO.coe 107 (y' := (.own n7 0 (lset x8 (w64 ((x8.length : Int) - (1 : Int))) (S102.mk ((lget x8 (w64 ((x8.length : Int) - (1 : Int)))).f0) true)).length)) rfl (fun _ _ h => lset_own h) ?_
           refine AO.nK [2, 3, 9, 10, 11] ?_
           exact ⟨n7, (lset x8 (w64 ((x8.length : Int) - (1 : Int))) (S102.mk ((lget x8 (w64 ((x8.length : Int) - (1 : Int)))).f0) true)), rfl, rfl, h⟩
          ·refine AW.condF' _ rfl hc56 ?_
           refine AW.sK [2, 3, 9, 10, 11] ?_
           exact ⟨n7, x8, rfl, rfl, h⟩
    ·rintro _ _ ⟨n13, x14, rfl, rfl, h⟩
     rw [deriv_First_c1.eq_1] at h
     refine AW.reg ?_
     refine AO.c (x := eI64 (w64 (x9 + (1 : Int)))) (Calm.int rfl rfl rfl rfl) ?_
     refine AO.c (Calm.move rfl rfl) ?_
     refine AO.nK [2, 3, 9, 10, 11] ?_
     exact ⟨kq11, Nat.lt_succ_self _, n13, x14, (w64 (x9 + (1 : Int))), rfl, rfl, by rw [hrec10]; exact h⟩
   ·refine AW.condN _ rfl hc12 ?_
    refine AW.eK [2, 3] ?_
    exact ⟨n7, x8, rfl, rfl, h⟩
  ·rintro _ _ ⟨n3, x4, rfl, rfl, h⟩
   rw [deriv_First_c0.eq_1] at h
   refine AW.seq ?_
   refine AW.sr ?_
   refine AO.c (Calm.move rfl rfl) ?_
   refine AO.c (Calm.lenOwn rfl rfl Try.underlying100) ?_
   refine AO.c (x := eBool (decide ((x4.length : Int) ≠ (1 : Int)))) (Calm.int rfl rfl rfl rfl) ?_
   refine AO.nK [2, 3, 115] ?_
   rcases of_ite h with ⟨hc5, h⟩ | ⟨hc5, h⟩
   ·refine AW.condP _ rfl hc5 ?_
    refine AW.sr ?_
    refine AO.c (x := .ar 1 ((Vector.replicate 4 (0 : Int)).toList.map eU64)) (Calm.buildAr (qs := []) rfl trivial Try.underlying33 sz31 zr33 lay33 .nil rfl) ?_
    refine AO.store (X' := (.ar 1 ((Vector.replicate 4 (0 : Int)).toList.map eU64))) 0 rfl rfl rfl rfl rfl rfl (Put.cast Put.here rfl) rfl (by simp [AV.size]) (by rw [sz33]; simp [AV.size]) rfl ?_
    refine AO.nH [2] (H' := [(n2, (.mem (.ar 1 ((Vector.replicate 4 (0 : Int)).toList.map eU64))))]) (Sub.cons 0 rfl (Sub.nil _)) ?_
    refine AW.rK [2] ?_
    have hr := Option.some.inj h
    subst hr
    exact ⟨[(.ar 1 ((Vector.replicate 4 (0 : Int)).toList.map eU64))], ⟨⟨_, 0, rfl, rfl, ag33, (by rw [sz33]; simp [AV.size])⟩, trivial⟩, rfl⟩
   ·refine AW.condN _ rfl hc5 ?_
    refine AW.sK [2, 3] ?_
    refine AW.sr ?_
    refine AO.c (Calm.move rfl rfl) ?_
    obtain ⟨hg6, h⟩ := of_guard h
    refine AO.c (Calm.idxO 1 rfl rfl rfl rfl hg6 Try.underlying100 sz102) ?_
    refine AO.c (x := .ptr n3 ((0 : Int).toNat * 5 + 0 + 0)) (Calm.fldPtr rfl rfl Try.underlying102 rfl sz33 _ rfl) ?_
    refine AO.c (Calm.load 1 rfl rfl rfl (At.cast (At.lidx (0 : Int) hg6.1 hg6.2 (At.fld0 At.here)) (by omega)) ag33 (by rw [sz33]; simp [AV.size])) ?_
    refine AO.store (X' := (.ar 1 (((lget x4 (0 : Int)).f0).toList.map eU64))) 0 rfl rfl rfl rfl rfl rfl (Put.cast Put.here rfl) rfl (by simp [AV.size]) (by rw [sz33]; simp [AV.size]) rfl ?_
    refine AO.nH [2] (H' := [(n2, (.mem (.ar 1 (((lget x4 (0 : Int)).f0).toList.map eU64))))]) (Sub.cons 0 rfl (Sub.nil _)) ?_
    refine AW.rK [2] ?_
    have hr := Option.some.inj h
    subst hr
    exact ⟨[(.ar 1 (((lget x4 (0 : Int)).f0).toList.map eU64))], ⟨⟨_, 0, rfl, rfl, ag33, (by rw [sz33]; simp [AV.size])⟩, trivial⟩, rfl⟩
end Go.Avl.T3
