/- bosket/bosketlaw12.machine; printed by avmain.py. -/
import Derived.Test.YthfongdjcpmpfaaAB
namespace Go.Avl.T1
open Go Go.RowKit Go.Proofs Go.Avl
set_option linter.unusedVariables false
set_option maxRecDepth 100000
set_option maxHeartbeats 4000000
attribute [local irreducible] AW AO AQ Spec SpecH Calm

def bosketlaw12_machine (k : Nat) : Option S26 :=
  some ((S26.mk (vset (vset (Vector.replicate 256 (0 : Int)) (97 : Int) (1 : Int)) (98 : Int) (2 : Int)) [[(-1 : Int), (1 : Int), (-1 : Int)], [(-1 : Int), (2 : Int), (-1 : Int)], [(-1 : Int), (-1 : Int), (3 : Int)], [(-1 : Int), (-1 : Int), (-1 : Int)]] [(-1 : Int), (0 : Int), (-1 : Int), (1 : Int)]))
theorem bosketlaw12_machine_spec {k : Nat}  {r : S26} (h : bosketlaw12_machine k = some r) : Spec Try.prog 52 [] (e26 r) := by
  rw [bosketlaw12_machine.eq_1] at h
  refine Spec.intro (res := [.cell 0 26]) Try.func52 rfl rfl rfl (Nat.le_of_ble_eq_true rfl) ?_
  refine AW.seq ?_
  refine AW.reg ?_
  refine AO.alloc rfl 0 rfl (by decide) rfl zr26 lay26 fun n1 => ?_
  refine AO.nil (ρ' := [(0, (.ptr n1 0))]) (H' := [(n1, .mem (.st [(256, (.ar 1 ((Vector.replicate 256 (0 : Int)).toList.map eU8))), (1, (.fl (.slice none 0 0))), (1, (.fl (.slice none 0 0)))]))]) ⟨rfl, trivial⟩ (Sub.refl _) ?_
  refine AW.seq ?_
  refine AW.reg ?_
  refine AO.alloc rfl 1 rfl (by decide) rfl zr26 lay26 fun n2 => ?_
  refine AO.nil (ρ' := [(0, (.ptr n1 0)), (1, (.ptr n2 0))]) (H' := [(n1, .mem (.st [(256, (.ar 1 ((Vector.replicate 256 (0 : Int)).toList.map eU8))), (1, (.fl (.slice none 0 0))), (1, (.fl (.slice none 0 0)))])), (n2, .mem (.st [(256, (.ar 1 ((Vector.replicate 256 (0 : Int)).toList.map eU8))), (1, (.fl (.slice none 0 0))), (1, (.fl (.slice none 0 0)))]))]) ⟨rfl, rfl, trivial⟩ (Sub.cons 1 rfl (Sub.cons 0 rfl (Sub.nil _))) ?_
  refine AW.seq ?_
  refine AW.reg ?_
  refine AO.calm rfl 2 rfl (by decide) (.ptr n2 0) (Calm.fldPtr rfl rfl Try.underlying26 rfl sz22 _ rfl) ?_
  refine AO.calm rfl 3 rfl (by decide) (.ptr n2 (0 + (97 : Int).toNat * 1)) (Calm.idxP rfl rfl rfl (by decide) Try.underlying22 sz5) ?_
  refine AO.store (X' := (.st [(256, (.ar 1 ((vset (Vector.replicate 256 (0 : Int)) (97 : Int) (1 : Int)).toList.map eU8))), (1, (.fl (.slice none 0 0))), (1, (.fl (.slice none 0 0)))])) 1 rfl rfl rfl rfl rfl rfl (Put.cast (Put.fld0 (Put.vidx (97 : Int) (1 : Int) (by decide) (by decide) Put.here)) (by omega)) rfl rfl sz5 rfl ?_
  refine AO.calm rfl 4 rfl (by decide) (.ptr n2 0) (Calm.fldPtr rfl rfl Try.underlying26 rfl sz22 _ rfl) ?_
  refine AO.calm rfl 5 rfl (by decide) (.ptr n2 (0 + (98 : Int).toNat * 1)) (Calm.idxP rfl rfl rfl (by decide) Try.underlying22 sz5) ?_
  refine AO.store (X' := (.st [(256, (.ar 1 ((vset (vset (Vector.replicate 256 (0 : Int)) (97 : Int) (1 : Int)) (98 : Int) (2 : Int)).toList.map eU8))), (1, (.fl (.slice none 0 0))), (1, (.fl (.slice none 0 0)))])) 1 rfl rfl rfl rfl rfl rfl (Put.cast (Put.fld0 (Put.vidx (98 : Int) (2 : Int) (by decide) (by decide) Put.here)) (by omega)) rfl rfl sz5 rfl ?_
  refine AO.nil (ρ' := [(0, (.ptr n1 0)), (1, (.ptr n2 0))]) (H' := [(n1, .mem (.st [(256, (.ar 1 ((Vector.replicate 256 (0 : Int)).toList.map eU8))), (1, (.fl (.slice none 0 0))), (1, (.fl (.slice none 0 0)))])), (n2, .mem (.st [(256, (.ar 1 ((vset (vset (Vector.replicate 256 (0 : Int)) (97 : Int) (1 : Int)) (98 : Int) (2 : Int)).toList.map eU8))), (1, (.fl (.slice none 0 0))), (1, (.fl (.slice none 0 0)))]))]) ⟨rfl, rfl, trivial⟩ (Sub.refl _) ?_
  refine AW.seq ?_
  refine AW.reg ?_
  refine AO.lit (Z := (eI64 (0 : Int))) (xs := (([(-1 : Int), (1 : Int), (-1 : Int)] : List Int).map eI64)) (qs := [(0, (eI64 (-1 : Int))), (1, (eI64 (1 : Int))), (2, (eI64 (-1 : Int)))]) rfl 6 rfl (by decide) rfl ⟨rfl, rfl, rfl, rfl, rfl, rfl, rfl, rfl, rfl, trivial⟩ Try.underlying24 sz3 zr3 lay3 rfl (by decide) (litOK (z := 1) [(eI64 (-1 : Int)), (eI64 (1 : Int)), (eI64 (-1 : Int))] rfl ⟨⟨rfl, rfl⟩, ⟨rfl, rfl⟩, ⟨rfl, rfl⟩, trivial⟩) rfl fun n3 => ?_
  refine AO.lit (Z := (eI64 (0 : Int))) (xs := (([(-1 : Int), (2 : Int), (-1 : Int)] : List Int).map eI64)) (qs := [(0, (eI64 (-1 : Int))), (1, (eI64 (2 : Int))), (2, (eI64 (-1 : Int)))]) rfl 7 rfl (by decide) rfl ⟨rfl, rfl, rfl, rfl, rfl, rfl, rfl, rfl, rfl, trivial⟩ Try.underlying24 sz3 zr3 lay3 rfl (by decide) (litOK (z := 1) [(eI64 (-1 : Int)), (eI64 (2 : Int)), (eI64 (-1 : Int))] rfl ⟨⟨rfl, rfl⟩, ⟨rfl, rfl⟩, ⟨rfl, rfl⟩, trivial⟩) rfl fun n4 => ?_
  refine AO.lit (Z := (eI64 (0 : Int))) (xs := (([(-1 : Int), (-1 : Int), (3 : Int)] : List Int).map eI64)) (qs := [(0, (eI64 (-1 : Int))), (1, (eI64 (-1 : Int))), (2, (eI64 (3 : Int)))]) rfl 8 rfl (by decide) rfl ⟨rfl, rfl, rfl, rfl, rfl, rfl, rfl, rfl, rfl, trivial⟩ Try.underlying24 sz3 zr3 lay3 rfl (by decide) (litOK (z := 1) [(eI64 (-1 : Int)), (eI64 (-1 : Int)), (eI64 (3 : Int))] rfl ⟨⟨rfl, rfl⟩, ⟨rfl, rfl⟩, ⟨rfl, rfl⟩, trivial⟩) rfl fun n5 => ?_
  refine AO.lit (Z := (eI64 (0 : Int))) (xs := (([(-1 : Int), (-1 : Int), (-1 : Int)] : List Int).map eI64)) (qs := [(0, (eI64 (-1 : Int))), (1, (eI64 (-1 : Int))), (2, (eI64 (-1 : Int)))]) rfl 9 rfl (by decide) rfl ⟨rfl, rfl, rfl, rfl, rfl, rfl, rfl, rfl, rfl, trivial⟩ Try.underlying24 sz3 zr3 lay3 rfl (by decide) (litOK (z := 1) [(eI64 (-1 : Int)), (eI64 (-1 : Int)), (eI64 (-1 : Int))] rfl ⟨⟨rfl, rfl⟩, ⟨rfl, rfl⟩, ⟨rfl, rfl⟩, trivial⟩) rfl fun n6 => ?_
  refine AO.freezeS 3 [(6, (.fz 1 (([(-1 : Int), (1 : Int), (-1 : Int)] : List Int).map eI64)))] rfl ⟨fz_all rfl, trivial⟩ ?_
  refine AO.freezeS 2 [(7, (.fz 1 (([(-1 : Int), (2 : Int), (-1 : Int)] : List Int).map eI64)))] rfl ⟨fz_all rfl, trivial⟩ ?_
  refine AO.freezeS 1 [(8, (.fz 1 (([(-1 : Int), (-1 : Int), (3 : Int)] : List Int).map eI64)))] rfl ⟨fz_all rfl, trivial⟩ ?_
  refine AO.freezeS 0 [(9, (.fz 1 (([(-1 : Int), (-1 : Int), (-1 : Int)] : List Int).map eI64)))] rfl ⟨fz_all rfl, trivial⟩ ?_
  refine AO.lit (Z := (.fl (.slice none 0 0))) (xs := (([[(-1 : Int), (1 : Int), (-1 : Int)], [(-1 : Int), (2 : Int), (-1 : Int)], [(-1 : Int), (-1 : Int), (3 : Int)], [(-1 : Int), (-1 : Int), (-1 : Int)]] : List (List Int)).map e24)) (qs := [(0, (.fz 1 (([(-1 : Int), (1 : Int), (-1 : Int)] : List Int).map eI64))), (1, (.fz 1 (([(-1 : Int), (2 : Int), (-1 : Int)] : List Int).map eI64))), (2, (.fz 1 (([(-1 : Int), (-1 : Int), (3 : Int)] : List Int).map eI64))), (3, (.fz 1 (([(-1 : Int), (-1 : Int), (-1 : Int)] : List Int).map eI64)))]) rfl 10 rfl (by decide) rfl ⟨rfl, rfl, rfl, rfl, rfl, rfl, rfl, rfl, rfl, rfl, rfl, rfl, trivial⟩ Try.underlying23 sz24 zr24 lay24 rfl (by decide) (litOK (z := 1) [(.fz 1 (([(-1 : Int), (1 : Int), (-1 : Int)] : List Int).map eI64)), (.fz 1 (([(-1 : Int), (2 : Int), (-1 : Int)] : List Int).map eI64)), (.fz 1 (([(-1 : Int), (-1 : Int), (3 : Int)] : List Int).map eI64)), (.fz 1 (([(-1 : Int), (-1 : Int), (-1 : Int)] : List Int).map eI64))] rfl ⟨⟨rfl, rfl⟩, ⟨rfl, rfl⟩, ⟨rfl, rfl⟩, ⟨rfl, rfl⟩, trivial⟩) rfl fun n7 => ?_
  refine AO.calm rfl 11 rfl (by decide) (.ptr n2 256) (Calm.fldPtr rfl rfl Try.underlying26 rfl sz23 _ rfl) ?_
  refine AO.freezeS 0 [(10, (.fz 1 (([[(-1 : Int), (1 : Int), (-1 : Int)], [(-1 : Int), (2 : Int), (-1 : Int)], [(-1 : Int), (-1 : Int), (3 : Int)], [(-1 : Int), (-1 : Int), (-1 : Int)]] : List (List Int)).map e24)))] rfl ⟨fz_all rfl, trivial⟩ ?_
  refine AO.store (X' := (.st [(256, (.ar 1 ((vset (vset (Vector.replicate 256 (0 : Int)) (97 : Int) (1 : Int)) (98 : Int) (2 : Int)).toList.map eU8))), (1, (.fz 1 (([[(-1 : Int), (1 : Int), (-1 : Int)], [(-1 : Int), (2 : Int), (-1 : Int)], [(-1 : Int), (-1 : Int), (3 : Int)], [(-1 : Int), (-1 : Int), (-1 : Int)]] : List (List Int)).map e24))), (1, (.fl (.slice none 0 0)))])) 1 rfl rfl rfl rfl rfl rfl (Put.cast (Put.fldS (Put.fld0 Put.here)) rfl) rfl rfl sz23 rfl ?_
  refine AO.nil (ρ' := [(0, (.ptr n1 0)), (1, (.ptr n2 0))]) (H' := [(n1, .mem (.st [(256, (.ar 1 ((Vector.replicate 256 (0 : Int)).toList.map eU8))), (1, (.fl (.slice none 0 0))), (1, (.fl (.slice none 0 0)))])), (n2, .mem (.st [(256, (.ar 1 ((vset (vset (Vector.replicate 256 (0 : Int)) (97 : Int) (1 : Int)) (98 : Int) (2 : Int)).toList.map eU8))), (1, (.fz 1 (([[(-1 : Int), (1 : Int), (-1 : Int)], [(-1 : Int), (2 : Int), (-1 : Int)], [(-1 : Int), (-1 : Int), (3 : Int)], [(-1 : Int), (-1 : Int), (-1 : Int)]] : List (List Int)).map e24))), (1, (.fl (.slice none 0 0)))]))]) ⟨rfl, rfl, trivial⟩ (Sub.refl _) ?_
  refine AW.seq ?_
  refine AW.reg ?_
  refine AO.lit (Z := (eI64 (0 : Int))) (xs := (([(-1 : Int), (0 : Int), (-1 : Int), (1 : Int)] : List Int).map eI64)) (qs := [(0, (eI64 (-1 : Int))), (1, (eI64 (0 : Int))), (2, (eI64 (-1 : Int))), (3, (eI64 (1 : Int)))]) rfl 12 rfl (by decide) rfl ⟨rfl, rfl, rfl, rfl, rfl, rfl, rfl, rfl, rfl, rfl, rfl, rfl, trivial⟩ Try.underlying24 sz3 zr3 lay3 rfl (by decide) (litOK (z := 1) [(eI64 (-1 : Int)), (eI64 (0 : Int)), (eI64 (-1 : Int)), (eI64 (1 : Int))] rfl ⟨⟨rfl, rfl⟩, ⟨rfl, rfl⟩, ⟨rfl, rfl⟩, ⟨rfl, rfl⟩, trivial⟩) rfl fun n8 => ?_
  refine AO.calm rfl 13 rfl (by decide) (.ptr n2 257) (Calm.fldPtr rfl rfl Try.underlying26 rfl sz24 _ rfl) ?_
  refine AO.freezeS 0 [(12, (.fz 1 (([(-1 : Int), (0 : Int), (-1 : Int), (1 : Int)] : List Int).map eI64)))] rfl ⟨fz_all rfl, trivial⟩ ?_
  refine AO.store (X' := (.st [(256, (.ar 1 ((vset (vset (Vector.replicate 256 (0 : Int)) (97 : Int) (1 : Int)) (98 : Int) (2 : Int)).toList.map eU8))), (1, (.fz 1 (([[(-1 : Int), (1 : Int), (-1 : Int)], [(-1 : Int), (2 : Int), (-1 : Int)], [(-1 : Int), (-1 : Int), (3 : Int)], [(-1 : Int), (-1 : Int), (-1 : Int)]] : List (List Int)).map e24))), (1, (.fz 1 (([(-1 : Int), (0 : Int), (-1 : Int), (1 : Int)] : List Int).map eI64)))])) 1 rfl rfl rfl rfl rfl rfl (Put.cast (Put.fldS (Put.fldS (Put.fld0 Put.here))) rfl) rfl rfl sz24 rfl ?_
  refine AO.nil (ρ' := [(0, (.ptr n1 0)), (1, (.ptr n2 0))]) (H' := [(n1, .mem (.st [(256, (.ar 1 ((Vector.replicate 256 (0 : Int)).toList.map eU8))), (1, (.fl (.slice none 0 0))), (1, (.fl (.slice none 0 0)))])), (n2, .mem (.st [(256, (.ar 1 ((vset (vset (Vector.replicate 256 (0 : Int)) (97 : Int) (1 : Int)) (98 : Int) (2 : Int)).toList.map eU8))), (1, (.fz 1 (([[(-1 : Int), (1 : Int), (-1 : Int)], [(-1 : Int), (2 : Int), (-1 : Int)], [(-1 : Int), (-1 : Int), (3 : Int)], [(-1 : Int), (-1 : Int), (-1 : Int)]] : List (List Int)).map e24))), (1, (.fz 1 (([(-1 : Int), (0 : Int), (-1 : Int), (1 : Int)] : List Int).map eI64)))]))]) ⟨rfl, rfl, trivial⟩ (Sub.refl _) ?_
  refine AW.seq ?_
  refine AW.reg ?_
  refine AO.calm rfl 14 rfl (by decide) (e26 (S26.mk (vset (vset (Vector.replicate 256 (0 : Int)) (97 : Int) (1 : Int)) (98 : Int) (2 : Int)) [[(-1 : Int), (1 : Int), (-1 : Int)], [(-1 : Int), (2 : Int), (-1 : Int)], [(-1 : Int), (-1 : Int), (3 : Int)], [(-1 : Int), (-1 : Int), (-1 : Int)]] [(-1 : Int), (0 : Int), (-1 : Int), (1 : Int)])) (Calm.load 1 rfl rfl rfl (At.cast At.here rfl) ag26 sz26) ?_
  refine AO.store (X' := (e26 (S26.mk (vset (vset (Vector.replicate 256 (0 : Int)) (97 : Int) (1 : Int)) (98 : Int) (2 : Int)) [[(-1 : Int), (1 : Int), (-1 : Int)], [(-1 : Int), (2 : Int), (-1 : Int)], [(-1 : Int), (-1 : Int), (3 : Int)], [(-1 : Int), (-1 : Int), (-1 : Int)]] [(-1 : Int), (0 : Int), (-1 : Int), (1 : Int)]))) 0 rfl rfl rfl rfl rfl rfl (Put.cast Put.here rfl) rfl rfl sz26 rfl ?_
  refine AO.nil (ρ' := [(0, (.ptr n1 0))]) (H' := [(n1, .mem (e26 (S26.mk (vset (vset (Vector.replicate 256 (0 : Int)) (97 : Int) (1 : Int)) (98 : Int) (2 : Int)) [[(-1 : Int), (1 : Int), (-1 : Int)], [(-1 : Int), (2 : Int), (-1 : Int)], [(-1 : Int), (-1 : Int), (3 : Int)], [(-1 : Int), (-1 : Int), (-1 : Int)]] [(-1 : Int), (0 : Int), (-1 : Int), (1 : Int)])))]) ⟨rfl, trivial⟩ (Sub.cons 0 rfl (Sub.nil _)) ?_
  refine AW.ret (ρ' := [(0, (.ptr n1 0))]) (H' := [(n1, .mem (e26 (S26.mk (vset (vset (Vector.replicate 256 (0 : Int)) (97 : Int) (1 : Int)) (98 : Int) (2 : Int)) [[(-1 : Int), (1 : Int), (-1 : Int)], [(-1 : Int), (2 : Int), (-1 : Int)], [(-1 : Int), (-1 : Int), (3 : Int)], [(-1 : Int), (-1 : Int), (-1 : Int)]] [(-1 : Int), (0 : Int), (-1 : Int), (1 : Int)])))]) ⟨rfl, trivial⟩ (Sub.refl _) ?_
  have hr := Option.some.inj h
  subst hr
  exact ⟨[(e26 (S26.mk (vset (vset (Vector.replicate 256 (0 : Int)) (97 : Int) (1 : Int)) (98 : Int) (2 : Int)) [[(-1 : Int), (1 : Int), (-1 : Int)], [(-1 : Int), (2 : Int), (-1 : Int)], [(-1 : Int), (-1 : Int), (3 : Int)], [(-1 : Int), (-1 : Int), (-1 : Int)]] [(-1 : Int), (0 : Int), (-1 : Int), (1 : Int)]))], ⟨⟨_, 0, rfl, rfl, ag26, sz26⟩, trivial⟩, rfl⟩
end Go.Avl.T1
