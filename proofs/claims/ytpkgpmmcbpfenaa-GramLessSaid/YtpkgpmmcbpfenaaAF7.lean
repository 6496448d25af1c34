/- Parts: T7f67, T7f39, T7f54, T7f70, T7f42, T7f43, T7f16, T7f22, T7f44, T7f45, T7f11. -/
import Derived.Test.YtpkgpmmcbpfenaaAF1
import Derived.Test.YtpkgpmmcbpfenaaAF6
/- bosket/rules.one; printed by avmain.py. -/
namespace Go.Avl.T7
open Go Go.RowKit Go.Proofs Go.Avl
set_option linter.unusedVariables false
set_option maxRecDepth 100000
set_option maxHeartbeats 4000000
attribute [local irreducible] AW AO AQ Spec SpecH Calm

def F67 (k : Nat) (p0 : S82) (p1 : (List (ByteArray × Int))) : Option Int :=
  (F69 k p0.f0).bind fun t4 =>
  if (!t4) = true then some ((8 : Int))
  else if (0 : Int) < ((mget p1 p0.f0).getD (0 : Int)) then some ((9 : Int))
  else Option.bind (α := Bool) (if p0.f1 < (0 : Int) then some (true)
  else some (decide ((2 : Int) < p0.f1))) fun b7 =>
  if b7 = true then some ((1 : Int))
  else (F62 k p0.f2).bind fun t11 =>
  if t11.2 ≠ (0 : Int) then some (t11.2)
  else (F89 k t11.1 (ByteArray.mk #[])).bind fun t14 =>
  if (0 : Int) ≤ t14 then some ((14 : Int))
  else some ((0 : Int))
theorem F67_spec {k : Nat} {p0 : S82} {p1 : (List (ByteArray × Int))} {r : Int} (h : F67 k p0 p1 = some r) {q1 : Nat} {T0 : Heap} : SpecH Try.prog 67 [(e82 p0), (.mp q1)] ((q1, (.map (encM Value.string eI64 p1))) :: T0) (fun x H' => x = eI64 r ∧ Sub ((q1, (.map (encM Value.string eI64 p1))) :: T0) H') := by
  rw [F67.eq_1] at h
  refine SpecH.intro (res := [.tmp 4]) Try.func67 rfl rfl rfl (Nat.le_of_ble_eq_true rfl) ?_
  refine AW.sr ?_
  refine AO.box rfl 2 rfl (by decide) rfl rfl rfl fun n3 => ?_
  refine AO.ag rfl rfl ?_
  refine AO.nH [1, 2] (H' := ((q1, (.map (encM Value.string eI64 p1))) :: (n3, (.mem (e82 p0))) :: T0)) (Sub.cons 1 rfl (Sub.cons 0 rfl (Sub.refl _))) ?_
  refine AW.seq ?_
  refine AW.block ?_
  refine AW.sr ?_
  refine AO.c (x := .ptr n3 0) (Calm.fldPtr rfl rfl Try.underlying82 rfl sz9 _ rfl) ?_
  refine AO.c (Calm.load 1 rfl rfl rfl (At.cast (At.fld0 At.here) rfl) ag9 sz9) ?_
  obtain ⟨t4, et4, h⟩ := of_bind h
  refine AO.callS [(eStr p0.f0)] (eBool t4) 10 rfl (by decide) ok69 rfl rfl rfl ⟨rfl, rfl, trivial⟩ (F69_spec et4) ?_
  refine AO.c (Calm.not rfl rfl) ?_
  refine AO.ag rfl rfl ?_
  refine AO.nK [1, 2, 7] ?_
  rcases of_ite h with ⟨hc5, h⟩ | ⟨hc5, h⟩
  ·refine AW.condT' _ rfl hc5 ?_
   refine AW.sr ?_
   refine AO.ag rfl rfl ?_
   refine AO.nH [4] (H' := ((q1, (.map (encM Value.string eI64 p1))) :: T0)) (Sub.cons 0 rfl (Sub.drop (Sub.refl _))) ?_
   refine AW.rK [4] ?_
   have hr := Option.some.inj h
   subst hr
   exact ⟨[(eI64 (8 : Int))], ⟨rfl, rfl, trivial⟩, rfl, (Sub.cons 0 rfl (Sub.refl _))⟩
  ·refine AW.condF' _ rfl hc5 ?_
   refine AW.sr ?_
   refine AO.mv rfl rfl ?_
   refine AO.c (x := .ptr n3 0) (Calm.fldPtr rfl rfl Try.underlying82 rfl sz9 _ rfl) ?_
   refine AO.c (Calm.load 1 rfl rfl rfl (At.cast (At.fld0 At.here) rfl) ag9 sz9) ?_
   refine AO.c (x := eI64 ((mget p1 p0.f0).getD (0 : Int))) (Calm.look1 (f := eI64) string_inj string_key (0 : Int) 0 rfl rfl rfl rfl Try.underlying109 Try.underlying9 mz3 rfl rfl) ?_
   refine AO.c (x := eBool (decide ((0 : Int) < ((mget p1 p0.f0).getD (0 : Int))))) (Calm.int rfl rfl rfl rfl) ?_
   refine AO.ag rfl rfl ?_
   refine AO.nK [2, 12] ?_
   rcases of_ite h with ⟨hc6, h⟩ | ⟨hc6, h⟩
   ·refine AW.condP _ rfl hc6 ?_
    refine AW.sr ?_
    refine AO.ag rfl rfl ?_
    refine AO.nH [4] (H' := ((q1, (.map (encM Value.string eI64 p1))) :: T0)) (Sub.cons 0 rfl (Sub.drop (Sub.refl _))) ?_
    refine AW.rK [4] ?_
    have hr := Option.some.inj h
    subst hr
    exact ⟨[(eI64 (9 : Int))], ⟨rfl, rfl, trivial⟩, rfl, (Sub.cons 0 rfl (Sub.refl _))⟩
   ·refine AW.condN _ rfl hc6 ?_
    refine AW.seq ?_
    obtain ⟨b7, hq8, h⟩ := of_bind h
    refine AW.regM [(2, (.ptr n3 0)), (18, (eBool b7))] ((q1, (.map (encM Value.string eI64 p1))) :: (n3, (.mem (e82 p0))) :: T0) ?_ ?_
    ·refine AO.c (x := .ptr n3 1) (Calm.fldPtr rfl rfl Try.underlying82 rfl sz3 _ rfl) ?_
     refine AO.c (Calm.load 1 rfl rfl rfl (At.cast (At.fldS (At.fld0 At.here)) rfl) ag3 sz3) ?_
     refine AO.c (x := eBool (decide (p0.f1 < (0 : Int)))) (Calm.int rfl rfl rfl rfl) ?_
     refine AO.mv rfl rfl ?_
     rcases of_ite hq8 with ⟨hc9, hq8⟩ | ⟨hc9, hq8⟩
     ·refine AO.sF rfl rfl (bD (decide_eq_true hc9)) ?_
      refine AO.sF rfl rfl (bD (decide_eq_true hc9)) ?_
      refine AO.sF rfl rfl (bD (decide_eq_true hc9)) ?_
      refine AO.c (Calm.pickT rfl (bD (decide_eq_true hc9)) rfl) ?_
      refine AO.ag rfl rfl ?_
      cases hq8
      refine AO.nilE ⟨rfl, rfl⟩ ?_ ?_
      · exact ⟨rfl, rfl, trivial⟩
      · exact (Sub.refl _)
     ·refine AO.cG (x := .ptr n3 1) rfl rfl (bD (decide_eq_false hc9)) (Calm.fldPtr rfl rfl Try.underlying82 rfl sz3 _ rfl) ?_
      refine AO.cG rfl rfl (bD (decide_eq_false hc9)) (Calm.load 1 rfl rfl rfl (At.cast (At.fldS (At.fld0 At.here)) rfl) ag3 sz3) ?_
      refine AO.cG (x := eBool (decide ((2 : Int) < p0.f1))) rfl rfl (bD (decide_eq_false hc9)) (Calm.int rfl rfl rfl rfl) ?_
      refine AO.c (Calm.pickF rfl (bD (decide_eq_false hc9)) rfl) ?_
      refine AO.ag rfl rfl ?_
      cases hq8
      refine AO.nilE ⟨rfl, rfl⟩ ?_ ?_
      · exact ⟨rfl, rfl, trivial⟩
      · exact (Sub.refl _)
    ·rcases of_ite h with ⟨hc10, h⟩ | ⟨hc10, h⟩
     ·refine AW.condT' _ rfl hc10 ?_
      refine AW.sr ?_
      refine AO.ag rfl rfl ?_
      refine AO.nH [4] (H' := ((q1, (.map (encM Value.string eI64 p1))) :: T0)) (Sub.cons 0 rfl (Sub.drop (Sub.refl _))) ?_
      refine AW.rK [4] ?_
      have hr := Option.some.inj h
      subst hr
      exact ⟨[(eI64 (1 : Int))], ⟨rfl, rfl, trivial⟩, rfl, (Sub.cons 0 rfl (Sub.refl _))⟩
     ·refine AW.condF' _ rfl hc10 ?_
      refine AW.sK [2] ?_
      refine AW.sr ?_
      refine AO.c (x := .ptr n3 2) (Calm.fldPtr rfl rfl Try.underlying82 rfl sz9 _ rfl) ?_
      refine AO.c (Calm.load 1 rfl rfl rfl (At.cast (At.fldS (At.fldS (At.fld0 At.here))) rfl) ag9 sz9) ?_
      obtain ⟨t11, et11, h⟩ := of_bind h
      refine AO.callS [(eStr p0.f2)] (.tup [(e55 t11.1), (eI64 t11.2)]) 30 rfl (by decide) ok62 rfl rfl rfl ⟨rfl, rfl, trivial⟩ (F62_spec et11) ?_
      refine AO.mv rfl rfl ?_
      refine AO.c (Calm.extract rfl rfl rfl) ?_
      refine AO.c (Calm.extract rfl rfl rfl) ?_
      refine AO.alloc rfl 5 rfl (by decide) rfl zr55 lay55 fun n12 => ?_
      refine AO.store (X' := (e55 t11.1)) 0 rfl rfl rfl rfl rfl rfl (Put.cast Put.here rfl) rfl rfl sz55 rfl ?_
      refine AO.ag rfl rfl ?_
      refine AO.nH [5, 6] (H' := ((q1, (.map (encM Value.string eI64 p1))) :: (n12, (.mem (e55 t11.1))) :: T0)) (Sub.cons 1 rfl (Sub.cons 0 rfl (Sub.drop (Sub.refl _)))) ?_
      refine AW.seq ?_
      refine AW.block ?_
      refine AW.sr ?_
      refine AO.mv rfl rfl ?_
      refine AO.c (x := eBool (decide (t11.2 ≠ (0 : Int)))) (Calm.int rfl rfl rfl rfl) ?_
      refine AO.ag rfl rfl ?_
      refine AO.nK [5, 6, 33] ?_
      rcases of_ite h with ⟨hc13, h⟩ | ⟨hc13, h⟩
      ·refine AW.condP _ rfl hc13 ?_
       refine AW.sr ?_
       refine AO.mv rfl rfl ?_
       refine AO.ag rfl rfl ?_
       refine AO.nH [4] (H' := ((q1, (.map (encM Value.string eI64 p1))) :: T0)) (Sub.cons 0 rfl (Sub.drop (Sub.refl _))) ?_
       refine AW.rK [4] ?_
       have hr := Option.some.inj h
       subst hr
       exact ⟨[(eI64 t11.2)], ⟨rfl, rfl, trivial⟩, rfl, (Sub.cons 0 rfl (Sub.refl _))⟩
      ·refine AW.condN _ rfl hc13 ?_
       refine AW.sr ?_
       refine AO.c (Calm.load 1 rfl rfl rfl (At.cast At.here rfl) ag55 sz55) ?_
       obtain ⟨t14, et14, h⟩ := of_bind h
       refine AO.callS [(e55 t11.1), (eStr (ByteArray.mk #[]))] (eI64 t14) 39 rfl (by decide) ok89 rfl rfl rfl ⟨rfl, rfl, rfl, rfl, trivial⟩ (F89_spec et14) ?_
       refine AO.c (x := eBool (decide ((0 : Int) ≤ t14))) (Calm.int rfl rfl rfl rfl) ?_
       refine AO.ag rfl rfl ?_
       refine AO.nH [37] (H' := ((q1, (.map (encM Value.string eI64 p1))) :: T0)) (Sub.cons 0 rfl (Sub.drop (Sub.refl _))) ?_
       rcases of_ite h with ⟨hc15, h⟩ | ⟨hc15, h⟩
       ·refine AW.condP _ rfl hc15 ?_
        refine AW.sr ?_
        refine AO.ag rfl rfl ?_
        refine AO.nK [4] ?_
        refine AW.rK [4] ?_
        have hr := Option.some.inj h
        subst hr
        exact ⟨[(eI64 (14 : Int))], ⟨rfl, rfl, trivial⟩, rfl, (Sub.cons 0 rfl (Sub.refl _))⟩
       ·refine AW.condN _ rfl hc15 ?_
        refine AW.sK [] ?_
        refine AW.sr ?_
        refine AO.ag rfl rfl ?_
        refine AO.nK [4] ?_
        refine AW.rK [4] ?_
        have hr := Option.some.inj h
        subst hr
        exact ⟨[(eI64 (0 : Int))], ⟨rfl, rfl, trivial⟩, rfl, (Sub.cons 0 rfl (Sub.refl _))⟩
end Go.Avl.T7
/- bosket/rules.Check; printed by avmain.py. -/
namespace Go.Avl.T7
open Go Go.RowKit Go.Proofs Go.Avl
set_option linter.unusedVariables false
set_option maxRecDepth 100000
set_option maxHeartbeats 4000000
attribute [local irreducible] AW AO AQ Spec SpecH Calm

def F39_c0 (k : Nat) (p0 : (List S82)) : Option (Int × Int) :=
  some ((p0.length : Int), (0 : Int))
def F39_l1 (k : Nat) (p0 : (List S82)) : Nat → (List (ByteArray × Int)) → Int → Option (Int × Int)
  | 0, _, _ => none
  | j + 1, x4, x5 =>
    if x5 < (p0.length : Int) then if 0 ≤ x5 ∧ x5 < (p0.length : Int) then (F67 k (lget p0 x5) x4).bind fun t11 =>
    if t11 ≠ (0 : Int) then some (x5, t11)
    else (F39_l1 k p0 j) (mput x4 ((lget p0 x5).f0) (w64 (((mget x4 ((lget p0 x5).f0)).getD (0 : Int)) + (1 : Int)))) (w64 (x5 + (1 : Int)))
    else none
    else F39_c0 k p0
def F39 (k : Nat) (p0 : (List S82)) : Option (Int × Int) :=
  if (60 : Int) < (p0.length : Int) then some ((p0.length : Int), (6 : Int))
  else F39_l1 k p0 k ([] : List (ByteArray × Int)) (0 : Int)
theorem F39_spec {k : Nat} {p0 : (List S82)} {r : (Int × Int)} (h : F39 k p0 = some r) : Spec Try.prog 39 [(.fz 3 (p0.map e82))] (.tup [(eI64 r.1), (eI64 r.2)]) := by
  rw [F39.eq_1] at h
  refine Spec.intro (res := [.tmp 2, .tmp 3]) Try.func39 rfl rfl rfl (Nat.le_of_ble_eq_true rfl) ?_
  refine AW.sr ?_
  refine AO.ag rfl rfl ?_
  refine AO.ag rfl rfl ?_
  refine AO.nK [0] ?_
  refine AW.seq ?_
  refine AW.sr ?_
  refine AO.mv rfl rfl ?_
  refine AO.c (Calm.lenL rfl rfl Try.underlying22) ?_
  refine AO.c (x := eBool (decide ((60 : Int) < (p0.length : Int)))) (Calm.int rfl rfl rfl rfl) ?_
  refine AO.nK [0, 10] ?_
  rcases of_ite h with ⟨hc2, h⟩ | ⟨hc2, h⟩
  ·refine AW.condP _ rfl hc2 ?_
   refine AW.sr ?_
   refine AO.mv rfl rfl ?_
   refine AO.c (Calm.lenL rfl rfl Try.underlying22) ?_
   refine AO.ag rfl rfl ?_
   refine AO.ag rfl rfl ?_
   refine AO.nK [2, 3] ?_
   refine AW.rK [2, 3] ?_
   have hr := Option.some.inj h
   subst hr
   exact ⟨[(eI64 (p0.length : Int)), (eI64 (6 : Int))], ⟨rfl, rfl, rfl, rfl, trivial⟩, rfl⟩
  ·refine AW.condN _ rfl hc2 ?_
   refine AW.sK [0] ?_
   refine AW.sr ?_
   refine AO.makeMap rfl 13 rfl (by decide) rfl fun n3 => ?_
   refine AO.ag rfl rfl ?_
   refine AO.nK [0, 4] ?_
   refine AW.seq_mid (fun ρ H => ρ = [(0, (.fz 3 (p0.map e82)))] ∧ H = [] ∧ F39_c0 k p0 = some r) ?_ ?_
   ·refine AW.sr ?_
    refine AO.mv rfl rfl ?_
    refine AO.c (Calm.lenL rfl rfl Try.underlying22) ?_
    refine AO.mv rfl rfl ?_
    refine AO.nK [0, 4, 14, 15, 16] ?_
    refine AW.block ?_
    refine AW.wK [0, 4, 14, 15, 16] ?_
    refine AW.loop (fun kq ρ H => ∃ (x4 : (List (ByteArray × Int))) (x5 : Int), ρ = [(0, (.fz 3 (p0.map e82))), (4, (.mp n3)), (14, (.fz 3 (p0.map e82))), (15, (eI64 (p0.length : Int))), (16, (eI64 x5))] ∧ H = [(n3, (.map (encM Value.string eI64 x4)))] ∧ F39_l1 k p0 kq x4 x5 = some r) k ⟨([] : List (ByteArray × Int)), (0 : Int), rfl, rfl, h⟩ ?_
    rintro kq7 _ _ ⟨x4, x5, rfl, rfl, h⟩
    cases kq7 with
    | zero => rw [F39_l1.eq_1] at h; cases h
    | succ kq7 =>
    rw [F39_l1.eq_2] at h
    generalize hrec6 : F39_l1 k p0 kq7 = rec6 at h
    refine AW.sr ?_
    refine AO.c (x := eBool (decide (x5 < (p0.length : Int)))) (Calm.int rfl rfl rfl rfl) ?_
    refine AO.nK [0, 4, 14, 15, 16, 17] ?_
    refine AW.seq ?_
    rcases of_ite h with ⟨hc8, h⟩ | ⟨hc8, h⟩
    ·refine AW.condP _ rfl hc8 ?_
     refine AW.sK [0, 4, 14, 15, 16] ?_
     refine AW.seq ?_
     refine AW.block ?_
     refine AW.sr ?_
     refine AO.mv rfl rfl ?_
     obtain ⟨hg9, h⟩ := of_guard h
     refine AO.c (Calm.idxL (f := e82) rfl rfl rfl hg9 Try.underlying22 sz82) ?_
     refine AO.c (Calm.loadRp rfl rfl ag82 sz82) ?_
     refine AO.alloc rfl 6 rfl (by decide) rfl zr82 lay82 fun n10 => ?_
     refine AO.ag rfl rfl ?_
     refine AO.store (X' := (e82 (lget p0 x5))) 0 rfl rfl rfl rfl rfl rfl (Put.cast Put.here rfl) rfl rfl sz82 rfl ?_
     refine AO.nH [0, 4, 5, 6, 14, 15, 16] (H' := [(n3, (.map (encM Value.string eI64 x4))), (n10, (.mem (e82 (lget p0 x5))))]) (Sub.cons 1 rfl (Sub.cons 0 rfl (Sub.nil _))) ?_
     refine AW.seq ?_
     refine AW.sr ?_
     refine AO.c (Calm.load 1 rfl rfl rfl (At.cast At.here rfl) ag82 sz82) ?_
     refine AO.mv rfl rfl ?_
     obtain ⟨t11, et11, h⟩ := of_bind h
     refine AO.callH [(e82 (lget p0 x5)), (.mp n3)] [(n3, (.map (encM Value.string eI64 x4))), (n10, (.mem (e82 (lget p0 x5))))] _ rfl rfl rfl 23 rfl (by decide) ok67 ⟨rfl, rfl, rfl, rfl, trivial⟩ (Sub.cons 0 rfl (Sub.refl _)) (F67_spec et11) ?_
     rintro _ _ ⟨rfl, hs12⟩
     refine AO.wH [0, 4, 5, 6, 14, 15, 16, 21, 22, 23] hs12 ?_
     refine AO.ag rfl rfl ?_
     refine AO.nK [0, 4, 5, 6, 7, 14, 15, 16] ?_
     refine AW.sr ?_
     refine AO.mv rfl rfl ?_
     refine AO.c (x := eBool (decide (t11 ≠ (0 : Int)))) (Calm.int rfl rfl rfl rfl) ?_
     refine AO.nK [0, 4, 5, 6, 7, 14, 15, 16, 25] ?_
     rcases of_ite h with ⟨hc13, h⟩ | ⟨hc13, h⟩
     ·refine AW.condP _ rfl hc13 ?_
      refine AW.sr ?_
      refine AO.mv rfl rfl ?_
      refine AO.mv rfl rfl ?_
      refine AO.ag rfl rfl ?_
      refine AO.ag rfl rfl ?_
      refine AO.nH [2, 3] (H' := []) (Sub.nil _) ?_
      refine AW.rK [2, 3] ?_
      have hr := Option.some.inj h
      subst hr
      exact ⟨[(eI64 x5), (eI64 t11)], ⟨rfl, rfl, rfl, rfl, trivial⟩, rfl⟩
     ·refine AW.condN _ rfl hc13 ?_
      refine AW.sK [0, 4, 6, 14, 15, 16] ?_
      refine AW.reg ?_
      refine AO.mv rfl rfl ?_
      refine AO.c (x := .ptr n10 0) (Calm.fldPtr rfl rfl Try.underlying82 rfl sz9 _ rfl) ?_
      refine AO.c (Calm.load 1 rfl rfl rfl (At.cast (At.fld0 At.here) rfl) ag9 sz9) ?_
      refine AO.c (x := eI64 ((mget x4 ((lget p0 x5).f0)).getD (0 : Int))) (Calm.look1 (f := eI64) string_inj string_key (0 : Int) 0 rfl rfl rfl rfl Try.underlying109 Try.underlying9 mz3 rfl rfl) ?_
      refine AO.c (x := eI64 (w64 (((mget x4 ((lget p0 x5).f0)).getD (0 : Int)) + (1 : Int)))) (Calm.int rfl rfl rfl rfl) ?_
      refine AO.mapPut (f := eI64) string_inj string_key 0 rfl rfl rfl rfl rfl rfl rfl rfl Try.underlying109 Try.underlying9 ?_
      refine AO.nH [0, 4, 14, 15, 16] (H' := [(n3, (.map (encM Value.string eI64 (mput x4 ((lget p0 x5).f0) (w64 (((mget x4 ((lget p0 x5).f0)).getD (0 : Int)) + (1 : Int)))))))]) (Sub.cons 0 rfl (Sub.nil _)) ?_
      refine AW.reg ?_
      refine AO.c (x := eI64 (w64 (x5 + (1 : Int)))) (Calm.int rfl rfl rfl rfl) ?_
      refine AO.mv rfl rfl ?_
      refine AO.nK [0, 4, 14, 15, 16] ?_
      exact ⟨kq7, Nat.lt_succ_self _, (mput x4 ((lget p0 x5).f0) (w64 (((mget x4 ((lget p0 x5).f0)).getD (0 : Int)) + (1 : Int)))), (w64 (x5 + (1 : Int))), rfl, rfl, by rw [hrec6]; exact h⟩
    ·refine AW.condN _ rfl hc8 ?_
     refine AW.eH [0] (H' := []) (Sub.nil _) ?_
     exact ⟨rfl, rfl, h⟩
   ·rintro _ _ ⟨rfl, rfl, h⟩
    rw [F39_c0.eq_1] at h
    refine AW.sr ?_
    refine AO.mv rfl rfl ?_
    refine AO.c (Calm.lenL rfl rfl Try.underlying22) ?_
    refine AO.ag rfl rfl ?_
    refine AO.ag rfl rfl ?_
    refine AO.nK [2, 3] ?_
    refine AW.rK [2, 3] ?_
    have hr := Option.some.inj h
    subst hr
    exact ⟨[(eI64 (p0.length : Int)), (eI64 (0 : Int))], ⟨rfl, rfl, rfl, rfl, trivial⟩, rfl⟩
end Go.Avl.T7
/- slices.Index[[]string,string]; printed by avmain.py. -/
namespace Go.Avl.T7
open Go Go.RowKit Go.Proofs Go.Avl
set_option linter.unusedVariables false
set_option maxRecDepth 100000
set_option maxHeartbeats 4000000
attribute [local irreducible] AW AO AQ Spec SpecH Calm

def F54_c0 (k : Nat) : Option Int :=
  some ((-1 : Int))
def F54_l1 (k : Nat) (p0 : (List ByteArray)) (p1 : ByteArray) : Nat → Int → Option Int
  | 0, _ => none
  | j + 1, x3 =>
    if x3 < (p0.length : Int) then if 0 ≤ x3 ∧ x3 < (p0.length : Int) then if p1 = (lget p0 x3) then some (x3)
    else (F54_l1 k p0 p1 j) (w64 (x3 + (1 : Int)))
    else none
    else F54_c0 k
def F54 (k : Nat) (p0 : (List ByteArray)) (p1 : ByteArray) : Option Int :=
  F54_l1 k p0 p1 k (0 : Int)
theorem F54_spec {k : Nat} {p0 : (List ByteArray)} {p1 : ByteArray} {r : Int} (h : F54 k p0 p1 = some r) : Spec Try.prog 54 [(.fz 1 (p0.map eStr)), (eStr p1)] (eI64 r) := by
  rw [F54.eq_1] at h
  refine Spec.intro (res := [.tmp 4]) Try.func54 rfl rfl rfl (Nat.le_of_ble_eq_true rfl) ?_
  refine AW.sr ?_
  refine AO.ag rfl rfl ?_
  refine AO.nK [0, 1] ?_
  refine AW.seq_mid (fun ρ H => ρ = [] ∧ H = [] ∧ F54_c0 k = some r) ?_ ?_
  ·refine AW.sr ?_
   refine AO.mv rfl rfl ?_
   refine AO.c (Calm.lenL rfl rfl Try.underlying23) ?_
   refine AO.mv rfl rfl ?_
   refine AO.nK [0, 1, 7, 8] ?_
   refine AW.block ?_
   refine AW.wK [0, 1, 7, 8] ?_
   refine AW.loop (fun kq ρ H => ∃ (x3 : Int), ρ = [(0, (.fz 1 (p0.map eStr))), (1, (eStr p1)), (7, (eI64 (p0.length : Int))), (8, (eI64 x3))] ∧ H = [] ∧ F54_l1 k p0 p1 kq x3 = some r) k ⟨(0 : Int), rfl, rfl, h⟩ ?_
   rintro kq5 _ _ ⟨x3, rfl, rfl, h⟩
   cases kq5 with
   | zero => rw [F54_l1.eq_1] at h; cases h
   | succ kq5 =>
   rw [F54_l1.eq_2] at h
   generalize hrec4 : F54_l1 k p0 p1 kq5 = rec4 at h
   refine AW.sr ?_
   refine AO.c (x := eBool (decide (x3 < (p0.length : Int)))) (Calm.int rfl rfl rfl rfl) ?_
   refine AO.nK [0, 1, 7, 8, 9] ?_
   refine AW.seq ?_
   rcases of_ite h with ⟨hc6, h⟩ | ⟨hc6, h⟩
   ·refine AW.condP _ rfl hc6 ?_
    refine AW.sK [0, 1, 7, 8] ?_
    refine AW.seq ?_
    refine AW.block ?_
    refine AW.sr ?_
    refine AO.mv rfl rfl ?_
    refine AO.ag rfl rfl ?_
    refine AO.nK [0, 1, 5, 7, 8] ?_
    refine AW.sr ?_
    refine AO.mv rfl rfl ?_
    refine AO.mv rfl rfl ?_
    refine AO.mv rfl rfl ?_
    obtain ⟨hg7, h⟩ := of_guard h
    refine AO.c (Calm.idxL (f := eStr) rfl rfl rfl hg7 Try.underlying23 sz9) ?_
    refine AO.c (Calm.loadRp rfl rfl ag9 sz9) ?_
    refine AO.c (x := eBool (decide (p1 = (lget p0 x3)))) (Calm.str rfl rfl rfl rfl) ?_
    refine AO.nK [0, 1, 5, 7, 8, 16] ?_
    rcases of_ite h with ⟨hc8, h⟩ | ⟨hc8, h⟩
    ·refine AW.condP _ rfl hc8 ?_
     refine AW.sr ?_
     refine AO.mv rfl rfl ?_
     refine AO.ag rfl rfl ?_
     refine AO.nK [4] ?_
     refine AW.rK [4] ?_
     have hr := Option.some.inj h
     subst hr
     exact ⟨[(eI64 x3)], ⟨rfl, rfl, trivial⟩, rfl⟩
    ·refine AW.condN _ rfl hc8 ?_
     refine AW.sK [0, 1, 7, 8] ?_
     refine AW.reg ?_
     refine AO.c (x := eI64 (w64 (x3 + (1 : Int)))) (Calm.int rfl rfl rfl rfl) ?_
     refine AO.mv rfl rfl ?_
     refine AO.nK [0, 1, 7, 8] ?_
     exact ⟨kq5, Nat.lt_succ_self _, (w64 (x3 + (1 : Int))), rfl, rfl, by rw [hrec4]; exact h⟩
   ·refine AW.condN _ rfl hc6 ?_
    refine AW.eK [] ?_
    exact ⟨rfl, rfl, h⟩
  ·rintro _ _ ⟨rfl, rfl, h⟩
   rw [F54_c0.eq_1] at h
   refine AW.sr ?_
   refine AO.ag rfl rfl ?_
   refine AO.nK [4] ?_
   refine AW.rK [4] ?_
   have hr := Option.some.inj h
   subst hr
   exact ⟨[(eI64 (-1 : Int))], ⟨rfl, rfl, trivial⟩, rfl⟩
end Go.Avl.T7
/- slices.Contains[[]string,string]; printed by avmain.py. -/
namespace Go.Avl.T7
open Go Go.RowKit Go.Proofs Go.Avl
set_option linter.unusedVariables false
set_option maxRecDepth 100000
set_option maxHeartbeats 4000000
attribute [local irreducible] AW AO AQ Spec SpecH Calm

def F70 (k : Nat) (p0 : (List ByteArray)) (p1 : ByteArray) : Option Bool :=
  (F54 k p0 p1).bind fun t3 =>
  some (decide ((0 : Int) ≤ t3))
theorem F70_spec {k : Nat} {p0 : (List ByteArray)} {p1 : ByteArray} {r : Bool} (h : F70 k p0 p1 = some r) : Spec Try.prog 70 [(.fz 1 (p0.map eStr)), (eStr p1)] (eBool r) := by
  rw [F70.eq_1] at h
  refine Spec.intro (res := [.tmp 4]) Try.func70 rfl rfl rfl (Nat.le_of_ble_eq_true rfl) ?_
  refine AW.sr ?_
  refine AO.ag rfl rfl ?_
  refine AO.nK [0, 1] ?_
  refine AW.sr ?_
  refine AO.mv rfl rfl ?_
  refine AO.mv rfl rfl ?_
  obtain ⟨t3, et3, h⟩ := of_bind h
  refine AO.callS [(.fz 1 (p0.map eStr)), (eStr p1)] (eI64 t3) 7 rfl (by decide) ok54 rfl rfl rfl ⟨rfl, rfl, rfl, rfl, trivial⟩ (F54_spec et3) ?_
  refine AO.c (x := eBool (decide ((0 : Int) ≤ t3))) (Calm.int rfl rfl rfl rfl) ?_
  refine AO.ag rfl rfl ?_
  refine AO.nK [4] ?_
  refine AW.rK [4] ?_
  have hr := Option.some.inj h
  subst hr
  exact ⟨[(eBool (decide ((0 : Int) ≤ t3)))], ⟨rfl, rfl, trivial⟩, rfl⟩
end Go.Avl.T7
/- bosket/rules.Find; printed by avmain.py. -/
namespace Go.Avl.T7
open Go Go.RowKit Go.Proofs Go.Avl
set_option linter.unusedVariables false
set_option maxRecDepth 100000
set_option maxHeartbeats 4000000
attribute [local irreducible] AW AO AQ Spec SpecH Calm

def F42_c0 (k : Nat) : Option Int :=
  some ((-1 : Int))
def F42_l1 (k : Nat) (p0 : (List S82)) (p1 : ByteArray) : Nat → Int → Option Int
  | 0, _ => none
  | j + 1, x3 =>
    if x3 < (p0.length : Int) then if 0 ≤ x3 ∧ x3 < (p0.length : Int) then if ((lget p0 x3).f0) = p1 then some (x3)
    else (F42_l1 k p0 p1 j) (w64 (x3 + (1 : Int)))
    else none
    else F42_c0 k
def F42 (k : Nat) (p0 : (List S82)) (p1 : ByteArray) : Option Int :=
  F42_l1 k p0 p1 k (0 : Int)
theorem F42_spec {k : Nat} {p0 : (List S82)} {p1 : ByteArray} {r : Int} (h : F42 k p0 p1 = some r) : Spec Try.prog 42 [(.fz 3 (p0.map e82)), (eStr p1)] (eI64 r) := by
  rw [F42.eq_1] at h
  refine Spec.intro (res := [.tmp 4]) Try.func42 rfl rfl rfl (Nat.le_of_ble_eq_true rfl) ?_
  refine AW.sr ?_
  refine AO.ag rfl rfl ?_
  refine AO.nK [0, 1] ?_
  refine AW.seq_mid (fun ρ H => ρ = [] ∧ H = [] ∧ F42_c0 k = some r) ?_ ?_
  ·refine AW.sr ?_
   refine AO.mv rfl rfl ?_
   refine AO.c (Calm.lenL rfl rfl Try.underlying22) ?_
   refine AO.mv rfl rfl ?_
   refine AO.nK [1, 7, 8, 9] ?_
   refine AW.block ?_
   refine AW.wK [1, 7, 8, 9] ?_
   refine AW.loop (fun kq ρ H => ∃ (x3 : Int), ρ = [(1, (eStr p1)), (7, (.fz 3 (p0.map e82))), (8, (eI64 (p0.length : Int))), (9, (eI64 x3))] ∧ H = [] ∧ F42_l1 k p0 p1 kq x3 = some r) k ⟨(0 : Int), rfl, rfl, h⟩ ?_
   rintro kq5 _ _ ⟨x3, rfl, rfl, h⟩
   cases kq5 with
   | zero => rw [F42_l1.eq_1] at h; cases h
   | succ kq5 =>
   rw [F42_l1.eq_2] at h
   generalize hrec4 : F42_l1 k p0 p1 kq5 = rec4 at h
   refine AW.sr ?_
   refine AO.c (x := eBool (decide (x3 < (p0.length : Int)))) (Calm.int rfl rfl rfl rfl) ?_
   refine AO.nK [1, 7, 8, 9, 10] ?_
   refine AW.seq ?_
   rcases of_ite h with ⟨hc6, h⟩ | ⟨hc6, h⟩
   ·refine AW.condP _ rfl hc6 ?_
    refine AW.sK [1, 7, 8, 9] ?_
    refine AW.seq ?_
    refine AW.block ?_
    refine AW.sr ?_
    refine AO.mv rfl rfl ?_
    obtain ⟨hg7, h⟩ := of_guard h
    refine AO.c (Calm.idxL (f := e82) rfl rfl rfl hg7 Try.underlying22 sz82) ?_
    refine AO.c (Calm.loadRp rfl rfl ag82 sz82) ?_
    refine AO.alloc rfl 6 rfl (by decide) rfl zr82 lay82 fun n8 => ?_
    refine AO.ag rfl rfl ?_
    refine AO.store (X' := (e82 (lget p0 x3))) 0 rfl rfl rfl rfl rfl rfl (Put.cast Put.here rfl) rfl rfl sz82 rfl ?_
    refine AO.nK [1, 5, 6, 7, 8, 9] ?_
    refine AW.sr ?_
    refine AO.c (x := .ptr n8 0) (Calm.fldPtr rfl rfl Try.underlying82 rfl sz9 _ rfl) ?_
    refine AO.c (Calm.load 0 rfl rfl rfl (At.cast (At.fld0 At.here) rfl) ag9 sz9) ?_
    refine AO.mv rfl rfl ?_
    refine AO.c (x := eBool (decide (((lget p0 x3).f0) = p1))) (Calm.str rfl rfl rfl rfl) ?_
    refine AO.nH [1, 5, 7, 8, 9, 17] (H' := []) (Sub.nil _) ?_
    rcases of_ite h with ⟨hc9, h⟩ | ⟨hc9, h⟩
    ·refine AW.condP _ rfl hc9 ?_
     refine AW.sr ?_
     refine AO.mv rfl rfl ?_
     refine AO.ag rfl rfl ?_
     refine AO.nK [4] ?_
     refine AW.rK [4] ?_
     have hr := Option.some.inj h
     subst hr
     exact ⟨[(eI64 x3)], ⟨rfl, rfl, trivial⟩, rfl⟩
    ·refine AW.condN _ rfl hc9 ?_
     refine AW.sK [1, 7, 8, 9] ?_
     refine AW.reg ?_
     refine AO.c (x := eI64 (w64 (x3 + (1 : Int)))) (Calm.int rfl rfl rfl rfl) ?_
     refine AO.mv rfl rfl ?_
     refine AO.nK [1, 7, 8, 9] ?_
     exact ⟨kq5, Nat.lt_succ_self _, (w64 (x3 + (1 : Int))), rfl, rfl, by rw [hrec4]; exact h⟩
   ·refine AW.condN _ rfl hc6 ?_
    refine AW.eK [] ?_
    exact ⟨rfl, rfl, h⟩
  ·rintro _ _ ⟨rfl, rfl, h⟩
   rw [F42_c0.eq_1] at h
   refine AW.sr ?_
   refine AO.ag rfl rfl ?_
   refine AO.nK [4] ?_
   refine AW.rK [4] ?_
   have hr := Option.some.inj h
   subst hr
   exact ⟨[(eI64 (-1 : Int))], ⟨rfl, rfl, trivial⟩, rfl⟩
end Go.Avl.T7
/- bosket/gram.sorts; printed by avmain.py. -/
namespace Go.Avl.T7
open Go Go.RowKit Go.Proofs Go.Avl
set_option linter.unusedVariables false
set_option maxRecDepth 100000
set_option maxHeartbeats 4000000
attribute [local irreducible] AW AO AQ Spec SpecH Calm

def F43_c0 (k : Nat) : Option S32 :=
  some ((S32.mk (0 : Int) (0 : Int) (0 : Int)))
def F43_l1 (k : Nat) (p0 : S27) : Nat → Int → Option S32
  | 0, _ => none
  | j + 1, x5 =>
    if x5 < (p0.f1.length : Int) then if 0 ≤ x5 ∧ x5 < (p0.f1.length : Int) then (F69 k (lget p0.f1 x5)).bind fun t10 =>
    if (!t10) = true then some ((S32.mk (8 : Int) (2 : Int) x5))
    else Option.bind (α := Bool) (if 0 ≤ (0 : Int) ∧ (0 : Int) ≤ x5 ∧ x5 ≤ (p0.f1.length : Int) then (F70 k (lcut p0.f1 (0 : Int) x5) (lget p0.f1 x5)).bind fun t15 =>
    if t15 = true then some (true)
    else (F42 k p0.f0 (lget p0.f1 x5)).bind fun t17 =>
    some (decide ((0 : Int) ≤ t17))
    else none) fun b12 =>
    if b12 = true then some ((S32.mk (9 : Int) (2 : Int) x5))
    else (F43_l1 k p0 j) (w64 (x5 + (1 : Int)))
    else none
    else F43_c0 k
def F43 (k : Nat) (p0 : S27) : Option S32 :=
  if (300 : Int) < (p0.f1.length : Int) then some ((S32.mk (6 : Int) (2 : Int) (p0.f1.length : Int)))
  else F43_l1 k p0 k (0 : Int)
theorem F43_spec {k : Nat} {p0 : S27} {r : S32} (h : F43 k p0 = some r) : Spec Try.prog 43 [(e27 p0)] (e32 r) := by
  rw [F43.eq_1] at h
  refine Spec.intro (res := [.cell 2 32]) Try.func43 rfl rfl rfl (Nat.le_of_ble_eq_true rfl) ?_
  refine AW.sr ?_
  refine AO.box rfl 1 rfl (by decide) rfl rfl rfl fun n2 => ?_
  refine AO.alloc rfl 2 rfl (by decide) rfl zr32 lay32 fun n3 => ?_
  refine AO.nH [1, 2] (H' := [(n2, (.mem (e27 p0))), (n3, (.mem (.st [(1, (eI64 (0 : Int))), (1, (eI64 (0 : Int))), (1, (eI64 (0 : Int)))])))]) (Sub.cons 1 rfl (Sub.cons 0 rfl (Sub.nil _))) ?_
  refine AW.seq ?_
  refine AW.sr ?_
  refine AO.c (x := .ptr n2 1) (Calm.fldPtr rfl rfl Try.underlying27 rfl sz23 _ rfl) ?_
  refine AO.c (Calm.load 0 rfl rfl rfl (At.cast (At.fldS (At.fld0 At.here)) rfl) ag23 sz23) ?_
  refine AO.c (Calm.lenL rfl rfl Try.underlying23) ?_
  refine AO.c (x := eBool (decide ((300 : Int) < (p0.f1.length : Int)))) (Calm.int rfl rfl rfl rfl) ?_
  refine AO.nK [1, 2, 8] ?_
  rcases of_ite h with ⟨hc4, h⟩ | ⟨hc4, h⟩
  ·refine AW.condP _ rfl hc4 ?_
   refine AW.sr ?_
   refine AO.c (x := .ptr n2 1) (Calm.fldPtr rfl rfl Try.underlying27 rfl sz23 _ rfl) ?_
   refine AO.c (Calm.load 0 rfl rfl rfl (At.cast (At.fldS (At.fld0 At.here)) rfl) ag23 sz23) ?_
   refine AO.c (Calm.lenL rfl rfl Try.underlying23) ?_
   refine AO.c (x := .st [(1, (eI64 (6 : Int))), (1, (eI64 (2 : Int))), (1, (eI64 (p0.f1.length : Int)))]) (Calm.build (qs := [(0, (eI64 (6 : Int))), (1, (eI64 (2 : Int))), (2, (eI64 (p0.f1.length : Int)))]) rfl ⟨rfl, rfl, rfl, rfl, rfl, rfl, rfl, rfl, rfl, trivial⟩ Try.underlying32 rfl zr32 lay32 (.cons rfl rfl rfl rfl (Put.cast (Put.fld0 Put.here) rfl) (.cons rfl rfl rfl rfl (Put.cast (Put.fldS (Put.fld0 Put.here)) rfl) (.cons rfl rfl rfl rfl (Put.cast (Put.fldS (Put.fldS (Put.fld0 Put.here))) rfl) .nil))) rfl) ?_
   refine AO.store (X' := (e32 (S32.mk (6 : Int) (2 : Int) (p0.f1.length : Int)))) 1 rfl rfl rfl rfl rfl rfl (Put.cast Put.here rfl) rfl rfl sz32 rfl ?_
   refine AO.nH [2] (H' := [(n3, (.mem (e32 (S32.mk (6 : Int) (2 : Int) (p0.f1.length : Int)))))]) (Sub.cons 1 rfl (Sub.nil _)) ?_
   refine AW.rK [2] ?_
   have hr := Option.some.inj h
   subst hr
   exact ⟨[(e32 (S32.mk (6 : Int) (2 : Int) (p0.f1.length : Int)))], ⟨⟨_, 0, rfl, rfl, ag32, sz32⟩, trivial⟩, rfl⟩
  ·refine AW.condN _ rfl hc4 ?_
   refine AW.sK [1, 2] ?_
   refine AW.seq_mid (fun ρ H => ρ = [(2, (.ptr n3 0))] ∧ H = [(n3, (.mem (.st [(1, (eI64 (0 : Int))), (1, (eI64 (0 : Int))), (1, (eI64 (0 : Int)))])))] ∧ F43_c0 k = some r) ?_ ?_
   ·refine AW.sr ?_
    refine AO.c (x := .ptr n2 1) (Calm.fldPtr rfl rfl Try.underlying27 rfl sz23 _ rfl) ?_
    refine AO.c (Calm.load 0 rfl rfl rfl (At.cast (At.fldS (At.fld0 At.here)) rfl) ag23 sz23) ?_
    refine AO.c (Calm.lenL rfl rfl Try.underlying23) ?_
    refine AO.mv rfl rfl ?_
    refine AO.nK [1, 2, 14, 15, 16] ?_
    refine AW.block ?_
    refine AW.wK [1, 2, 14, 15, 16] ?_
    refine AW.loop (fun kq ρ H => ∃ (x5 : Int), ρ = [(1, (.ptr n2 0)), (2, (.ptr n3 0)), (14, (.fz 1 (p0.f1.map eStr))), (15, (eI64 (p0.f1.length : Int))), (16, (eI64 x5))] ∧ H = [(n2, (.mem (e27 p0))), (n3, (.mem (.st [(1, (eI64 (0 : Int))), (1, (eI64 (0 : Int))), (1, (eI64 (0 : Int)))])))] ∧ F43_l1 k p0 kq x5 = some r) k ⟨(0 : Int), rfl, rfl, h⟩ ?_
    rintro kq7 _ _ ⟨x5, rfl, rfl, h⟩
    cases kq7 with
    | zero => rw [F43_l1.eq_1] at h; cases h
    | succ kq7 =>
    rw [F43_l1.eq_2] at h
    generalize hrec6 : F43_l1 k p0 kq7 = rec6 at h
    refine AW.sr ?_
    refine AO.c (x := eBool (decide (x5 < (p0.f1.length : Int)))) (Calm.int rfl rfl rfl rfl) ?_
    refine AO.nK [1, 2, 14, 15, 16, 17] ?_
    refine AW.seq ?_
    rcases of_ite h with ⟨hc8, h⟩ | ⟨hc8, h⟩
    ·refine AW.condP _ rfl hc8 ?_
     refine AW.sK [1, 2, 14, 15, 16] ?_
     refine AW.seq ?_
     refine AW.block ?_
     refine AW.sr ?_
     refine AO.mv rfl rfl ?_
     obtain ⟨hg9, h⟩ := of_guard h
     refine AO.c (Calm.idxL (f := eStr) rfl rfl rfl hg9 Try.underlying23 sz9) ?_
     refine AO.c (Calm.loadRp rfl rfl ag9 sz9) ?_
     refine AO.ag rfl rfl ?_
     refine AO.ag rfl rfl ?_
     refine AO.nK [1, 2, 3, 4, 14, 15, 16] ?_
     refine AW.block ?_
     refine AW.sr ?_
     refine AO.mv rfl rfl ?_
     obtain ⟨t10, et10, h⟩ := of_bind h
     refine AO.callS [(eStr (lget p0.f1 x5))] (eBool t10) 23 rfl (by decide) ok69 rfl rfl rfl ⟨rfl, rfl, trivial⟩ (F69_spec et10) ?_
     refine AO.c (Calm.not rfl rfl) ?_
     refine AO.ag rfl rfl ?_
     refine AO.nK [1, 2, 3, 4, 14, 15, 16, 21] ?_
     rcases of_ite h with ⟨hc11, h⟩ | ⟨hc11, h⟩
     ·refine AW.condT' _ rfl hc11 ?_
      refine AW.sr ?_
      refine AO.mv rfl rfl ?_
      refine AO.c (x := .st [(1, (eI64 (8 : Int))), (1, (eI64 (2 : Int))), (1, (eI64 x5))]) (Calm.build (qs := [(0, (eI64 (8 : Int))), (1, (eI64 (2 : Int))), (2, (eI64 x5))]) rfl ⟨rfl, rfl, rfl, rfl, rfl, rfl, rfl, rfl, rfl, trivial⟩ Try.underlying32 rfl zr32 lay32 (.cons rfl rfl rfl rfl (Put.cast (Put.fld0 Put.here) rfl) (.cons rfl rfl rfl rfl (Put.cast (Put.fldS (Put.fld0 Put.here)) rfl) (.cons rfl rfl rfl rfl (Put.cast (Put.fldS (Put.fldS (Put.fld0 Put.here))) rfl) .nil))) rfl) ?_
      refine AO.store (X' := (e32 (S32.mk (8 : Int) (2 : Int) x5))) 1 rfl rfl rfl rfl rfl rfl (Put.cast Put.here rfl) rfl rfl sz32 rfl ?_
      refine AO.nH [2] (H' := [(n3, (.mem (e32 (S32.mk (8 : Int) (2 : Int) x5))))]) (Sub.cons 1 rfl (Sub.nil _)) ?_
      refine AW.rK [2] ?_
      have hr := Option.some.inj h
      subst hr
      exact ⟨[(e32 (S32.mk (8 : Int) (2 : Int) x5))], ⟨⟨_, 0, rfl, rfl, ag32, sz32⟩, trivial⟩, rfl⟩
     ·refine AW.condF' _ rfl hc11 ?_
      refine AW.seq ?_
      obtain ⟨b12, hq13, h⟩ := of_bind h
      refine AW.regM [(1, (.ptr n2 0)), (2, (.ptr n3 0)), (3, (eI64 x5)), (14, (.fz 1 (p0.f1.map eStr))), (15, (eI64 (p0.f1.length : Int))), (16, (eI64 x5)), (27, (eBool b12))] [(n2, (.mem (e27 p0))), (n3, (.mem (.st [(1, (eI64 (0 : Int))), (1, (eI64 (0 : Int))), (1, (eI64 (0 : Int)))])))] ?_ ?_
      ·refine AO.c (x := .ptr n2 1) (Calm.fldPtr rfl rfl Try.underlying27 rfl sz23 _ rfl) ?_
       refine AO.c (Calm.load 0 rfl rfl rfl (At.cast (At.fldS (At.fld0 At.here)) rfl) ag23 sz23) ?_
       refine AO.mv rfl rfl ?_
       obtain ⟨hg14, hq13⟩ := of_guard hq13
       refine AO.c (x := .fz 1 ((lcut p0.f1 (0 : Int) x5).map eStr)) (Calm.sliceL rfl rfl rfl rfl hg14 Try.underlying23 sz9) ?_
       refine AO.mv rfl rfl ?_
       obtain ⟨t15, et15, hq13⟩ := of_bind hq13
       refine AO.callS [(.fz 1 ((lcut p0.f1 (0 : Int) x5).map eStr)), (eStr (lget p0.f1 x5))] (eBool t15) 33 rfl (by decide) ok70 rfl rfl rfl ⟨rfl, rfl, rfl, rfl, trivial⟩ (F70_spec et15) ?_
       refine AO.mv rfl rfl ?_
       rcases of_ite hq13 with ⟨hc16, hq13⟩ | ⟨hc16, hq13⟩
       ·refine AO.sF rfl rfl (bD hc16) ?_
        refine AO.sF rfl rfl (bD hc16) ?_
        refine AO.sF rfl rfl (bD hc16) ?_
        refine AO.sF rfl rfl (bD hc16) ?_
        refine AO.sF rfl rfl (bD hc16) ?_
        refine AO.c (Calm.pickT rfl (bD hc16) rfl) ?_
        refine AO.ag rfl rfl ?_
        cases hq13
        refine AO.nilE ⟨rfl, rfl⟩ ?_ ?_
        · exact ⟨rfl, rfl, rfl, rfl, rfl, rfl, rfl, trivial⟩
        · exact (Sub.refl _)
       ·refine AO.cG (x := .ptr n2 0) rfl rfl (bD (eq_false_of_ne_true hc16)) (Calm.fldPtr rfl rfl Try.underlying27 rfl sz22 _ rfl) ?_
        refine AO.cG rfl rfl (bD (eq_false_of_ne_true hc16)) (Calm.load 0 rfl rfl rfl (At.cast (At.fld0 At.here) rfl) ag22 sz22) ?_
        refine AO.cG rfl rfl (bD (eq_false_of_ne_true hc16)) (Calm.move rfl rfl) ?_
        obtain ⟨t17, et17, hq13⟩ := of_bind hq13
        refine AO.callG 6 false 34 [(.fz 3 (p0.f0.map e82)), (eStr (lget p0.f1 x5))] (eI64 t17) 38 rfl (by decide) ok42 rfl rfl (bD (eq_false_of_ne_true hc16)) rfl rfl ⟨rfl, rfl, rfl, rfl, trivial⟩ (F42_spec et17) ?_
        refine AO.cG (x := eBool (decide ((0 : Int) ≤ t17))) rfl rfl (bD (eq_false_of_ne_true hc16)) (Calm.int rfl rfl rfl rfl) ?_
        refine AO.c (Calm.pickF rfl (bD (eq_false_of_ne_true hc16)) rfl) ?_
        refine AO.ag rfl rfl ?_
        cases hq13
        refine AO.nilE ⟨rfl, rfl⟩ ?_ ?_
        · exact ⟨rfl, rfl, rfl, rfl, rfl, rfl, rfl, trivial⟩
        · exact (Sub.refl _)
      ·rcases of_ite h with ⟨hc18, h⟩ | ⟨hc18, h⟩
       ·refine AW.condT' _ rfl hc18 ?_
        refine AW.sr ?_
        refine AO.mv rfl rfl ?_
        refine AO.c (x := .st [(1, (eI64 (9 : Int))), (1, (eI64 (2 : Int))), (1, (eI64 x5))]) (Calm.build (qs := [(0, (eI64 (9 : Int))), (1, (eI64 (2 : Int))), (2, (eI64 x5))]) rfl ⟨rfl, rfl, rfl, rfl, rfl, rfl, rfl, rfl, rfl, trivial⟩ Try.underlying32 rfl zr32 lay32 (.cons rfl rfl rfl rfl (Put.cast (Put.fld0 Put.here) rfl) (.cons rfl rfl rfl rfl (Put.cast (Put.fldS (Put.fld0 Put.here)) rfl) (.cons rfl rfl rfl rfl (Put.cast (Put.fldS (Put.fldS (Put.fld0 Put.here))) rfl) .nil))) rfl) ?_
        refine AO.store (X' := (e32 (S32.mk (9 : Int) (2 : Int) x5))) 1 rfl rfl rfl rfl rfl rfl (Put.cast Put.here rfl) rfl rfl sz32 rfl ?_
        refine AO.nH [2] (H' := [(n3, (.mem (e32 (S32.mk (9 : Int) (2 : Int) x5))))]) (Sub.cons 1 rfl (Sub.nil _)) ?_
        refine AW.rK [2] ?_
        have hr := Option.some.inj h
        subst hr
        exact ⟨[(e32 (S32.mk (9 : Int) (2 : Int) x5))], ⟨⟨_, 0, rfl, rfl, ag32, sz32⟩, trivial⟩, rfl⟩
       ·refine AW.condF' _ rfl hc18 ?_
        refine AW.sK [1, 2, 14, 15, 16] ?_
        refine AW.reg ?_
        refine AO.c (x := eI64 (w64 (x5 + (1 : Int)))) (Calm.int rfl rfl rfl rfl) ?_
        refine AO.mv rfl rfl ?_
        refine AO.nK [1, 2, 14, 15, 16] ?_
        exact ⟨kq7, Nat.lt_succ_self _, (w64 (x5 + (1 : Int))), rfl, rfl, by rw [hrec6]; exact h⟩
    ·refine AW.condN _ rfl hc8 ?_
     refine AW.eH [2] (H' := [(n3, (.mem (.st [(1, (eI64 (0 : Int))), (1, (eI64 (0 : Int))), (1, (eI64 (0 : Int)))])))]) (Sub.cons 1 rfl (Sub.nil _)) ?_
     exact ⟨rfl, rfl, h⟩
   ·rintro _ _ ⟨rfl, rfl, h⟩
    rw [F43_c0.eq_1] at h
    refine AW.sr ?_
    refine AO.c (x := .st [(1, (eI64 (0 : Int))), (1, (eI64 (0 : Int))), (1, (eI64 (0 : Int)))]) (Calm.build (qs := []) rfl trivial Try.underlying32 rfl zr32 lay32 .nil rfl) ?_
    refine AO.store (X' := (e32 (S32.mk (0 : Int) (0 : Int) (0 : Int)))) 0 rfl rfl rfl rfl rfl rfl (Put.cast Put.here rfl) rfl rfl sz32 rfl ?_
    refine AO.nK [2] ?_
    refine AW.rK [2] ?_
    have hr := Option.some.inj h
    subst hr
    exact ⟨[(e32 (S32.mk (0 : Int) (0 : Int) (0 : Int)))], ⟨⟨_, 0, rfl, rfl, ag32, sz32⟩, trivial⟩, rfl⟩
end Go.Avl.T7
/- bosket/gram.Has; printed by avmain.py. -/
namespace Go.Avl.T7
open Go Go.RowKit Go.Proofs Go.Avl
set_option linter.unusedVariables false
set_option maxRecDepth 100000
set_option maxHeartbeats 4000000
attribute [local irreducible] AW AO AQ Spec SpecH Calm

def F16 (k : Nat) (p0 : S27) (p1 : S41) : Option Bool :=
  if p1.f0 = true then Option.bind (α := Bool) (if (0 : Int) ≤ p1.f1 then some (decide (p1.f1 < (p0.f1.length : Int)))
  else some (false)) fun b6 =>
  some (b6)
  else Option.bind (α := Bool) (if (0 : Int) ≤ p1.f1 then if p1.f1 < (p0.f0.length : Int) then if 0 ≤ p1.f1 ∧ p1.f1 < (p0.f0.length : Int) then some (decide (((lget p0.f0 p1.f1).f1) = (0 : Int)))
  else none
  else some (false)
  else some (false)) fun b9 =>
  some (b9)
theorem F16_spec {k : Nat} {p0 : S27} {p1 : S41} {r : Bool} (h : F16 k p0 p1 = some r) : Spec Try.prog 16 [(e27 p0), (e41 p1)] (eBool r) := by
  rw [F16.eq_1] at h
  refine Spec.intro (res := [.tmp 4]) Try.func16 rfl rfl rfl (Nat.le_of_ble_eq_true rfl) ?_
  refine AW.sr ?_
  refine AO.box rfl 2 rfl (by decide) rfl rfl rfl fun n3 => ?_
  refine AO.box rfl 3 rfl (by decide) rfl rfl rfl fun n4 => ?_
  refine AO.ag rfl rfl ?_
  refine AO.nH [2, 3] (H' := [(n3, (.mem (e27 p0))), (n4, (.mem (e41 p1)))]) (Sub.cons 1 rfl (Sub.cons 0 rfl (Sub.nil _))) ?_
  refine AW.seq ?_
  refine AW.sr ?_
  refine AO.c (x := .ptr n4 0) (Calm.fldPtr rfl rfl Try.underlying41 rfl sz4 _ rfl) ?_
  refine AO.c (Calm.load 1 rfl rfl rfl (At.cast (At.fld0 At.here) rfl) ag4 sz4) ?_
  refine AO.nK [2, 3, 6] ?_
  rcases of_ite h with ⟨hc5, h⟩ | ⟨hc5, h⟩
  ·refine AW.condT' _ rfl hc5 ?_
   refine AW.seq ?_
   obtain ⟨b6, hq7, h⟩ := of_bind h
   refine AW.regM [(4, (eBool b6))] [] ?_ ?_
   ·refine AO.c (x := .ptr n4 1) (Calm.fldPtr rfl rfl Try.underlying41 rfl sz3 _ rfl) ?_
    refine AO.c (Calm.load 1 rfl rfl rfl (At.cast (At.fldS (At.fld0 At.here)) rfl) ag3 sz3) ?_
    refine AO.c (x := eBool (decide ((0 : Int) ≤ p1.f1))) (Calm.int rfl rfl rfl rfl) ?_
    refine AO.mv rfl rfl ?_
    rcases of_ite hq7 with ⟨hc8, hq7⟩ | ⟨hc8, hq7⟩
    ·refine AO.cG (x := .ptr n4 1) rfl rfl (bD (decide_eq_true hc8)) (Calm.fldPtr rfl rfl Try.underlying41 rfl sz3 _ rfl) ?_
     refine AO.cG rfl rfl (bD (decide_eq_true hc8)) (Calm.load 1 rfl rfl rfl (At.cast (At.fldS (At.fld0 At.here)) rfl) ag3 sz3) ?_
     refine AO.cG (x := .ptr n3 1) rfl rfl (bD (decide_eq_true hc8)) (Calm.fldPtr rfl rfl Try.underlying27 rfl sz23 _ rfl) ?_
     refine AO.cG rfl rfl (bD (decide_eq_true hc8)) (Calm.load 0 rfl rfl rfl (At.cast (At.fldS (At.fld0 At.here)) rfl) ag23 sz23) ?_
     refine AO.cG rfl rfl (bD (decide_eq_true hc8)) (Calm.lenL rfl rfl Try.underlying23) ?_
     refine AO.cG (x := eBool (decide (p1.f1 < (p0.f1.length : Int)))) rfl rfl (bD (decide_eq_true hc8)) (Calm.int rfl rfl rfl rfl) ?_
     refine AO.c (Calm.pickT rfl (bD (decide_eq_true hc8)) rfl) ?_
     refine AO.ag rfl rfl ?_
     cases hq7
     refine AO.nilE ⟨rfl, rfl⟩ ?_ ?_
     · exact ⟨rfl, trivial⟩
     · exact (Sub.nil _)
    ·refine AO.sT rfl rfl (bD (decide_eq_false hc8)) ?_
     refine AO.sT rfl rfl (bD (decide_eq_false hc8)) ?_
     refine AO.sT rfl rfl (bD (decide_eq_false hc8)) ?_
     refine AO.sT rfl rfl (bD (decide_eq_false hc8)) ?_
     refine AO.sT rfl rfl (bD (decide_eq_false hc8)) ?_
     refine AO.sT rfl rfl (bD (decide_eq_false hc8)) ?_
     refine AO.c (Calm.pickF rfl (bD (decide_eq_false hc8)) rfl) ?_
     refine AO.ag rfl rfl ?_
     cases hq7
     refine AO.nilE ⟨rfl, rfl⟩ ?_ ?_
     · exact ⟨rfl, trivial⟩
     · exact (Sub.nil _)
   ·refine AW.rK [4] ?_
    have hr := Option.some.inj h
    subst hr
    exact ⟨[(eBool b6)], ⟨rfl, rfl, trivial⟩, rfl⟩
  ·refine AW.condF' _ rfl hc5 ?_
   refine AW.sK [2, 3] ?_
   refine AW.seq ?_
   obtain ⟨b9, hq10, h⟩ := of_bind h
   refine AW.regM [(4, (eBool b9))] [] ?_ ?_
   ·refine AO.c (x := .ptr n4 1) (Calm.fldPtr rfl rfl Try.underlying41 rfl sz3 _ rfl) ?_
    refine AO.c (Calm.load 1 rfl rfl rfl (At.cast (At.fldS (At.fld0 At.here)) rfl) ag3 sz3) ?_
    refine AO.c (x := eBool (decide ((0 : Int) ≤ p1.f1))) (Calm.int rfl rfl rfl rfl) ?_
    refine AO.mv rfl rfl ?_
    rcases of_ite hq10 with ⟨hc11, hq10⟩ | ⟨hc11, hq10⟩
    ·refine AO.cG (x := .ptr n4 1) rfl rfl (bD (decide_eq_true hc11)) (Calm.fldPtr rfl rfl Try.underlying41 rfl sz3 _ rfl) ?_
     refine AO.cG rfl rfl (bD (decide_eq_true hc11)) (Calm.load 1 rfl rfl rfl (At.cast (At.fldS (At.fld0 At.here)) rfl) ag3 sz3) ?_
     refine AO.cG (x := .ptr n3 0) rfl rfl (bD (decide_eq_true hc11)) (Calm.fldPtr rfl rfl Try.underlying27 rfl sz22 _ rfl) ?_
     refine AO.cG rfl rfl (bD (decide_eq_true hc11)) (Calm.load 0 rfl rfl rfl (At.cast (At.fld0 At.here) rfl) ag22 sz22) ?_
     refine AO.cG rfl rfl (bD (decide_eq_true hc11)) (Calm.lenL rfl rfl Try.underlying22) ?_
     refine AO.cG (x := eBool (decide (p1.f1 < (p0.f0.length : Int)))) rfl rfl (bD (decide_eq_true hc11)) (Calm.int rfl rfl rfl rfl) ?_
     refine AO.c (Calm.pickT rfl (bD (decide_eq_true hc11)) rfl) ?_
     refine AO.mv rfl rfl ?_
     rcases of_ite hq10 with ⟨hc12, hq10⟩ | ⟨hc12, hq10⟩
     ·refine AO.cG (x := .ptr n3 0) rfl rfl (bD (decide_eq_true hc12)) (Calm.fldPtr rfl rfl Try.underlying27 rfl sz22 _ rfl) ?_
      refine AO.cG rfl rfl (bD (decide_eq_true hc12)) (Calm.load 0 rfl rfl rfl (At.cast (At.fld0 At.here) rfl) ag22 sz22) ?_
      refine AO.cG (x := .ptr n4 1) rfl rfl (bD (decide_eq_true hc12)) (Calm.fldPtr rfl rfl Try.underlying41 rfl sz3 _ rfl) ?_
      refine AO.cG rfl rfl (bD (decide_eq_true hc12)) (Calm.load 1 rfl rfl rfl (At.cast (At.fldS (At.fld0 At.here)) rfl) ag3 sz3) ?_
      obtain ⟨hg13, hq10⟩ := of_guard hq10
      refine AO.cG rfl rfl (bD (decide_eq_true hc12)) (Calm.idxL (f := e82) rfl rfl rfl hg13 Try.underlying22 sz82) ?_
      refine AO.cG rfl rfl (bD (decide_eq_true hc12)) (Calm.fldRp rfl rfl Try.underlying82 rfl sz3 (At.cast (At.fldS (At.fld0 At.here)) rfl)) ?_
      refine AO.cG rfl rfl (bD (decide_eq_true hc12)) (Calm.loadRp rfl rfl ag3 sz3) ?_
      refine AO.cG (x := eBool (decide (((lget p0.f0 p1.f1).f1) = (0 : Int)))) rfl rfl (bD (decide_eq_true hc12)) (Calm.int rfl rfl rfl rfl) ?_
      refine AO.c (Calm.pickT rfl (bD (decide_eq_true hc12)) rfl) ?_
      refine AO.ag rfl rfl ?_
      cases hq10
      refine AO.nilE ⟨rfl, rfl⟩ ?_ ?_
      · exact ⟨rfl, trivial⟩
      · exact (Sub.nil _)
     ·refine AO.sT rfl rfl (bD (decide_eq_false hc12)) ?_
      refine AO.sT rfl rfl (bD (decide_eq_false hc12)) ?_
      refine AO.sT rfl rfl (bD (decide_eq_false hc12)) ?_
      refine AO.sT rfl rfl (bD (decide_eq_false hc12)) ?_
      refine AO.sT rfl rfl (bD (decide_eq_false hc12)) ?_
      refine AO.sT rfl rfl (bD (decide_eq_false hc12)) ?_
      refine AO.sT rfl rfl (bD (decide_eq_false hc12)) ?_
      refine AO.sT rfl rfl (bD (decide_eq_false hc12)) ?_
      refine AO.c (Calm.pickF rfl (bD (decide_eq_false hc12)) rfl) ?_
      refine AO.ag rfl rfl ?_
      cases hq10
      refine AO.nilE ⟨rfl, rfl⟩ ?_ ?_
      · exact ⟨rfl, trivial⟩
      · exact (Sub.nil _)
    ·refine AO.sT rfl rfl (bD (decide_eq_false hc11)) ?_
     refine AO.sT rfl rfl (bD (decide_eq_false hc11)) ?_
     refine AO.sT rfl rfl (bD (decide_eq_false hc11)) ?_
     refine AO.sT rfl rfl (bD (decide_eq_false hc11)) ?_
     refine AO.sT rfl rfl (bD (decide_eq_false hc11)) ?_
     refine AO.sT rfl rfl (bD (decide_eq_false hc11)) ?_
     refine AO.c (Calm.pickF rfl (bD (decide_eq_false hc11)) rfl) ?_
     refine AO.mv rfl rfl ?_
     refine AO.sT rfl rfl rfl ?_
     refine AO.sT rfl rfl rfl ?_
     refine AO.sT rfl rfl rfl ?_
     refine AO.sT rfl rfl rfl ?_
     refine AO.sT rfl rfl rfl ?_
     refine AO.sT rfl rfl rfl ?_
     refine AO.sT rfl rfl rfl ?_
     refine AO.sT rfl rfl rfl ?_
     refine AO.c (Calm.pickF rfl rfl rfl) ?_
     refine AO.ag rfl rfl ?_
     cases hq10
     refine AO.nilE ⟨rfl, rfl⟩ ?_ ?_
     · exact ⟨rfl, trivial⟩
     · exact (Sub.nil _)
   ·refine AW.rK [4] ?_
    have hr := Option.some.inj h
    subst hr
    exact ⟨[(eBool b9)], ⟨rfl, rfl, trivial⟩, rfl⟩
end Go.Avl.T7
/- bosket/gram.Encloses; printed by avmain.py. -/
namespace Go.Avl.T7
open Go Go.RowKit Go.Proofs Go.Avl
set_option linter.unusedVariables false
set_option maxRecDepth 100000
set_option maxHeartbeats 4000000
attribute [local irreducible] AW AO AQ Spec SpecH Calm

def F22 (k : Nat) (p0 : S37) : Option Bool :=
  Option.bind (α := Bool) (if (p0.f2.length : Int) = (3 : Int) then if 0 ≤ (0 : Int) ∧ (0 : Int) < (p0.f2.length : Int) then if (!((lget p0.f2 (0 : Int)).f0)) = true then if 0 ≤ (1 : Int) ∧ (1 : Int) < (p0.f2.length : Int) then if (lget p0.f2 (1 : Int)) = (S41.mk true p0.f0) then if 0 ≤ (2 : Int) ∧ (2 : Int) < (p0.f2.length : Int) then some (!((lget p0.f2 (2 : Int)).f0))
  else none
  else some (false)
  else none
  else some (false)
  else none
  else some (false)) fun b3 =>
  some (b3)
theorem F22_spec {k : Nat} {p0 : S37} {r : Bool} (h : F22 k p0 = some r) : Spec Try.prog 22 [(e37 p0)] (eBool r) := by
  rw [F22.eq_1] at h
  refine Spec.intro (res := [.tmp 2]) Try.func22 rfl rfl rfl (Nat.le_of_ble_eq_true rfl) ?_
  refine AW.sr ?_
  refine AO.box rfl 1 rfl (by decide) rfl rfl rfl fun n2 => ?_
  refine AO.ag rfl rfl ?_
  refine AO.nK [1] ?_
  refine AW.seq ?_
  obtain ⟨b3, hq4, h⟩ := of_bind h
  refine AW.regQM (by rfl) (by decide +kernel) [(2, (eBool b3))] ?_ ?_
  ·refine AQ.c (x := .ptr n2 2) (Calm.fldPtr rfl rfl Try.underlying37 rfl sz34 _ rfl) ?_
   refine AQ.c (Calm.load 0 rfl rfl rfl (At.cast (At.fldS (At.fldS (At.fld0 At.here))) rfl) ag34 sz34) ?_
   refine AQ.c (Calm.lenL rfl rfl Try.underlying34) ?_
   refine AQ.c (x := eBool (decide ((p0.f2.length : Int) = (3 : Int)))) (Calm.int rfl rfl rfl rfl) ?_
   refine AQ.c (Calm.move rfl rfl) ?_
   rcases of_ite hq4 with ⟨hc5, hq4⟩ | ⟨hc5, hq4⟩
   ·refine AQ.cG (x := .ptr n2 2) rfl rfl (bD (decide_eq_true hc5)) (Calm.fldPtr rfl rfl Try.underlying37 rfl sz34 _ rfl) ?_
    refine AQ.cG rfl rfl (bD (decide_eq_true hc5)) (Calm.load 0 rfl rfl rfl (At.cast (At.fldS (At.fldS (At.fld0 At.here))) rfl) ag34 sz34) ?_
    obtain ⟨hg6, hq4⟩ := of_guard hq4
    refine AQ.cG rfl rfl (bD (decide_eq_true hc5)) (Calm.idxL (f := e41) rfl rfl rfl hg6 Try.underlying34 sz41) ?_
    refine AQ.cG rfl rfl (bD (decide_eq_true hc5)) (Calm.fldRp rfl rfl Try.underlying41 rfl sz4 (At.cast (At.fld0 At.here) rfl)) ?_
    refine AQ.cG rfl rfl (bD (decide_eq_true hc5)) (Calm.loadRp rfl rfl ag4 sz4) ?_
    refine AQ.cG rfl rfl (bD (decide_eq_true hc5)) (Calm.not rfl rfl) ?_
    refine AQ.c (Calm.pickT rfl (bD (decide_eq_true hc5)) rfl) ?_
    refine AQ.c (Calm.move rfl rfl) ?_
    rcases of_ite hq4 with ⟨hc7, hq4⟩ | ⟨hc7, hq4⟩
    ·refine AQ.cG (x := .ptr n2 2) rfl rfl (bD hc7) (Calm.fldPtr rfl rfl Try.underlying37 rfl sz34 _ rfl) ?_
     refine AQ.cG rfl rfl (bD hc7) (Calm.load 0 rfl rfl rfl (At.cast (At.fldS (At.fldS (At.fld0 At.here))) rfl) ag34 sz34) ?_
     obtain ⟨hg8, hq4⟩ := of_guard hq4
     refine AQ.cG rfl rfl (bD hc7) (Calm.idxL (f := e41) rfl rfl rfl hg8 Try.underlying34 sz41) ?_
     refine AQ.cG rfl rfl (bD hc7) (Calm.loadRp rfl rfl ag41 sz41) ?_
     refine AQ.cG (x := .ptr n2 0) rfl rfl (bD hc7) (Calm.fldPtr rfl rfl Try.underlying37 rfl sz3 _ rfl) ?_
     refine AQ.cG rfl rfl (bD hc7) (Calm.load 0 rfl rfl rfl (At.cast (At.fld0 At.here) rfl) ag3 sz3) ?_
     refine AQ.cG (x := .st [(1, (eBool true)), (1, (eI64 p0.f0))]) rfl rfl (bD hc7) (Calm.build (qs := [(0, (eBool true)), (1, (eI64 p0.f0))]) rfl ⟨rfl, rfl, rfl, rfl, rfl, rfl, trivial⟩ Try.underlying41 rfl zr41 lay41 (.cons rfl rfl rfl rfl (Put.cast (Put.fld0 Put.here) rfl) (.cons rfl rfl rfl rfl (Put.cast (Put.fldS (Put.fld0 Put.here)) rfl) .nil)) rfl) ?_
     refine AQ.cG (x := eBool (decide ((lget p0.f2 (1 : Int)) = (S41.mk true p0.f0)))) rfl rfl (bD hc7) (Calm.eqS rfl rfl rfl eg41 (eqk41 (lget p0.f2 (1 : Int)) (S41.mk true p0.f0)) (by decide)) ?_
     refine AQ.c (Calm.pickT rfl (bD hc7) rfl) ?_
     refine AQ.c (Calm.move rfl rfl) ?_
     rcases of_ite hq4 with ⟨hc9, hq4⟩ | ⟨hc9, hq4⟩
     ·refine AQ.cG (x := .ptr n2 2) rfl rfl (bD (decide_eq_true hc9)) (Calm.fldPtr rfl rfl Try.underlying37 rfl sz34 _ rfl) ?_
      refine AQ.cG rfl rfl (bD (decide_eq_true hc9)) (Calm.load 0 rfl rfl rfl (At.cast (At.fldS (At.fldS (At.fld0 At.here))) rfl) ag34 sz34) ?_
      obtain ⟨hg10, hq4⟩ := of_guard hq4
      refine AQ.cG rfl rfl (bD (decide_eq_true hc9)) (Calm.idxL (f := e41) rfl rfl rfl hg10 Try.underlying34 sz41) ?_
      refine AQ.cG rfl rfl (bD (decide_eq_true hc9)) (Calm.fldRp rfl rfl Try.underlying41 rfl sz4 (At.cast (At.fld0 At.here) rfl)) ?_
      refine AQ.cG rfl rfl (bD (decide_eq_true hc9)) (Calm.loadRp rfl rfl ag4 sz4) ?_
      refine AQ.cG rfl rfl (bD (decide_eq_true hc9)) (Calm.not rfl rfl) ?_
      refine AQ.c (Calm.pickT rfl (bD (decide_eq_true hc9)) rfl) ?_
      refine AQ.c (Calm.assign rfl rfl) ?_
      cases hq4
      refine AQ.nilE rfl ?_
      exact ⟨rfl, trivial⟩
     ·refine AQ.sT rfl rfl (bD (decide_eq_false hc9)) ?_
      refine AQ.sT rfl rfl (bD (decide_eq_false hc9)) ?_
      refine AQ.sT rfl rfl (bD (decide_eq_false hc9)) ?_
      refine AQ.sT rfl rfl (bD (decide_eq_false hc9)) ?_
      refine AQ.sT rfl rfl (bD (decide_eq_false hc9)) ?_
      refine AQ.sT rfl rfl (bD (decide_eq_false hc9)) ?_
      refine AQ.c (Calm.pickF rfl (bD (decide_eq_false hc9)) rfl) ?_
      refine AQ.c (Calm.assign rfl rfl) ?_
      cases hq4
      refine AQ.nilE rfl ?_
      exact ⟨rfl, trivial⟩
    ·refine AQ.sT rfl rfl (bD (eq_false_of_ne_true hc7)) ?_
     refine AQ.sT rfl rfl (bD (eq_false_of_ne_true hc7)) ?_
     refine AQ.sT rfl rfl (bD (eq_false_of_ne_true hc7)) ?_
     refine AQ.sT rfl rfl (bD (eq_false_of_ne_true hc7)) ?_
     refine AQ.sT rfl rfl (bD (eq_false_of_ne_true hc7)) ?_
     refine AQ.sT rfl rfl (bD (eq_false_of_ne_true hc7)) ?_
     refine AQ.sT rfl rfl (bD (eq_false_of_ne_true hc7)) ?_
     refine AQ.sT rfl rfl (bD (eq_false_of_ne_true hc7)) ?_
     refine AQ.c (Calm.pickF rfl (bD (eq_false_of_ne_true hc7)) rfl) ?_
     refine AQ.c (Calm.move rfl rfl) ?_
     refine AQ.sT rfl rfl rfl ?_
     refine AQ.sT rfl rfl rfl ?_
     refine AQ.sT rfl rfl rfl ?_
     refine AQ.sT rfl rfl rfl ?_
     refine AQ.sT rfl rfl rfl ?_
     refine AQ.sT rfl rfl rfl ?_
     refine AQ.c (Calm.pickF rfl rfl rfl) ?_
     refine AQ.c (Calm.assign rfl rfl) ?_
     cases hq4
     refine AQ.nilE rfl ?_
     exact ⟨rfl, trivial⟩
   ·refine AQ.sT rfl rfl (bD (decide_eq_false hc5)) ?_
    refine AQ.sT rfl rfl (bD (decide_eq_false hc5)) ?_
    refine AQ.sT rfl rfl (bD (decide_eq_false hc5)) ?_
    refine AQ.sT rfl rfl (bD (decide_eq_false hc5)) ?_
    refine AQ.sT rfl rfl (bD (decide_eq_false hc5)) ?_
    refine AQ.sT rfl rfl (bD (decide_eq_false hc5)) ?_
    refine AQ.c (Calm.pickF rfl (bD (decide_eq_false hc5)) rfl) ?_
    refine AQ.c (Calm.move rfl rfl) ?_
    refine AQ.sT rfl rfl rfl ?_
    refine AQ.sT rfl rfl rfl ?_
    refine AQ.sT rfl rfl rfl ?_
    refine AQ.sT rfl rfl rfl ?_
    refine AQ.sT rfl rfl rfl ?_
    refine AQ.sT rfl rfl rfl ?_
    refine AQ.sT rfl rfl rfl ?_
    refine AQ.sT rfl rfl rfl ?_
    refine AQ.c (Calm.pickF rfl rfl rfl) ?_
    refine AQ.c (Calm.move rfl rfl) ?_
    refine AQ.sT rfl rfl rfl ?_
    refine AQ.sT rfl rfl rfl ?_
    refine AQ.sT rfl rfl rfl ?_
    refine AQ.sT rfl rfl rfl ?_
    refine AQ.sT rfl rfl rfl ?_
    refine AQ.sT rfl rfl rfl ?_
    refine AQ.c (Calm.pickF rfl rfl rfl) ?_
    refine AQ.c (Calm.assign rfl rfl) ?_
    cases hq4
    refine AQ.nilE rfl ?_
    exact ⟨rfl, trivial⟩
  ·refine AW.rH [2] (H' := []) (Sub.nil _) ?_
   have hr := Option.some.inj h
   subst hr
   exact ⟨[(eBool b3)], ⟨rfl, rfl, trivial⟩, rfl⟩
end Go.Avl.T7
/- bosket/gram.prod; printed by avmain.py. -/
namespace Go.Avl.T7
open Go Go.RowKit Go.Proofs Go.Avl
set_option linter.unusedVariables false
set_option maxRecDepth 100000
set_option maxHeartbeats 4000000
attribute [local irreducible] AW AO AQ Spec SpecH Calm

def F44_c0 (k : Nat) (p0 : S27) (p1 : Int) : Option Int :=
  Option.bind (α := Bool) (if ((lget p0.f2 p1).f4) ≠ (-1 : Int) then if ((lget p0.f2 p1).f4) < (0 : Int) then some (true)
  else (F16 k p0 (S41.mk false ((lget p0.f2 p1).f4))).bind fun t18 =>
  some (!t18)
  else some (false)) fun b14 =>
  if b14 = true then some ((11 : Int))
  else Option.bind (α := Bool) (if ((lget p0.f2 p1).f3) = true then (F22 k (lget p0.f2 p1)).bind fun t23 =>
  some (!t23)
  else some (false)) fun b20 =>
  if b20 = true then some ((15 : Int))
  else some ((0 : Int))
def F44_l1 (k : Nat) (p0 : S27) (p1 : Int) : Nat → Int → Option Int
  | 0, _ => none
  | j + 1, x25 =>
    if x25 < (((lget p0.f2 p1).f5).length : Int) then if 0 ≤ x25 ∧ x25 < (((lget p0.f2 p1).f5).length : Int) then Option.bind (α := Bool) (if (lget ((lget p0.f2 p1).f5) x25) < (0 : Int) then some (true)
    else some (decide ((3 : Int) < (lget ((lget p0.f2 p1).f5) x25)))) fun b30 =>
    if b30 = true then some ((1 : Int))
    else (F44_l1 k p0 p1 j) (w64 (x25 + (1 : Int)))
    else none
    else F44_c0 k p0 p1
def F44_c2 (k : Nat) (p0 : S27) (p1 : Int) : Option Int :=
  F44_l1 k p0 p1 k (0 : Int)
def F44_l3 (k : Nat) (p0 : S27) (p1 : Int) : Nat → Int → Option Int
  | 0, _ => none
  | j + 1, x34 =>
    if x34 < (((lget p0.f2 p1).f2).length : Int) then if 0 ≤ x34 ∧ x34 < (((lget p0.f2 p1).f2).length : Int) then (F16 k p0 (lget ((lget p0.f2 p1).f2) x34)).bind fun t40 =>
    if (!t40) = true then some ((11 : Int))
    else (F44_l3 k p0 p1 j) (w64 (x34 + (1 : Int)))
    else none
    else F44_c2 k p0 p1
def F44_c4 (k : Nat) (p0 : S27) (p1 : Int) : Option Int :=
  F44_l3 k p0 p1 k (0 : Int)
def F44_l5 (k : Nat) (p0 : S27) (p1 : Int) : Nat → Int → Option Int
  | 0, _ => none
  | j + 1, x43 =>
    if x43 < ((lcut p0.f2 (0 : Int) p1).length : Int) then if 0 ≤ x43 ∧ x43 < ((lcut p0.f2 (0 : Int) p1).length : Int) then if ((lget (lcut p0.f2 (0 : Int) p1) x43).f1) = ((lget p0.f2 p1).f1) then some ((9 : Int))
    else (F44_l5 k p0 p1 j) (w64 (x43 + (1 : Int)))
    else none
    else F44_c4 k p0 p1
def F44 (k : Nat) (p0 : S27) (p1 : Int) : Option Int :=
  if 0 ≤ p1 ∧ p1 < (p0.f2.length : Int) then Option.bind (α := Bool) (if ((lget p0.f2 p1).f0) < (0 : Int) then some (true)
  else some (decide ((p0.f1.length : Int) ≤ ((lget p0.f2 p1).f0)))) fun b6 =>
  if b6 = true then some ((11 : Int))
  else (F69 k ((lget p0.f2 p1).f1)).bind fun t10 =>
  if (!t10) = true then some ((8 : Int))
  else if (12 : Int) < (((lget p0.f2 p1).f2).length : Int) then some ((6 : Int))
  else if (((lget p0.f2 p1).f5).length : Int) ≠ (max (w64 ((((lget p0.f2 p1).f2).length : Int) - (1 : Int))) (0 : Int)) then some ((1 : Int))
  else if 0 ≤ (0 : Int) ∧ (0 : Int) ≤ p1 ∧ p1 ≤ (p0.f2.length : Int) then F44_l5 k p0 p1 k (0 : Int)
  else none
  else none
theorem F44_spec {k : Nat} {p0 : S27} {p1 : Int} {r : Int} (h : F44 k p0 p1 = some r) : Spec Try.prog 44 [(e27 p0), (eI64 p1)] (eI64 r) := by
  rw [F44.eq_1] at h
  refine Spec.intro (res := [.tmp 4]) Try.func44 rfl rfl rfl (Nat.le_of_ble_eq_true rfl) ?_
  refine AW.sr ?_
  refine AO.box rfl 2 rfl (by decide) rfl rfl rfl fun n3 => ?_
  refine AO.ag rfl rfl ?_
  refine AO.nK [1, 2] ?_
  refine AW.sr ?_
  refine AO.c (x := .ptr n3 2) (Calm.fldPtr rfl rfl Try.underlying27 rfl sz24 _ rfl) ?_
  refine AO.c (Calm.load 0 rfl rfl rfl (At.cast (At.fldS (At.fldS (At.fld0 At.here))) rfl) ag24 sz24) ?_
  refine AO.mv rfl rfl ?_
  obtain ⟨hg4, h⟩ := of_guard h
  refine AO.c (Calm.idxL (f := e37) rfl rfl rfl hg4 Try.underlying24 sz37) ?_
  refine AO.c (Calm.loadRp rfl rfl ag37 sz37) ?_
  refine AO.alloc rfl 5 rfl (by decide) rfl zr37 lay37 fun n5 => ?_
  refine AO.store (X' := (e37 (lget p0.f2 p1))) 0 rfl rfl rfl rfl rfl rfl (Put.cast Put.here rfl) rfl rfl sz37 rfl ?_
  refine AO.nH [1, 2, 5] (H' := [(n3, (.mem (e27 p0))), (n5, (.mem (e37 (lget p0.f2 p1))))]) (Sub.cons 1 rfl (Sub.cons 0 rfl (Sub.nil _))) ?_
  refine AW.seq ?_
  refine AW.block ?_
  refine AW.seq ?_
  obtain ⟨b6, hq7, h⟩ := of_bind h
  refine AW.regM [(1, (eI64 p1)), (2, (.ptr n3 0)), (5, (.ptr n5 0)), (17, (eBool b6))] [(n3, (.mem (e27 p0))), (n5, (.mem (e37 (lget p0.f2 p1))))] ?_ ?_
  ·refine AO.c (x := .ptr n5 0) (Calm.fldPtr rfl rfl Try.underlying37 rfl sz3 _ rfl) ?_
   refine AO.c (Calm.load 1 rfl rfl rfl (At.cast (At.fld0 At.here) rfl) ag3 sz3) ?_
   refine AO.c (x := eBool (decide (((lget p0.f2 p1).f0) < (0 : Int)))) (Calm.int rfl rfl rfl rfl) ?_
   refine AO.mv rfl rfl ?_
   rcases of_ite hq7 with ⟨hc8, hq7⟩ | ⟨hc8, hq7⟩
   ·refine AO.sF rfl rfl (bD (decide_eq_true hc8)) ?_
    refine AO.sF rfl rfl (bD (decide_eq_true hc8)) ?_
    refine AO.sF rfl rfl (bD (decide_eq_true hc8)) ?_
    refine AO.sF rfl rfl (bD (decide_eq_true hc8)) ?_
    refine AO.sF rfl rfl (bD (decide_eq_true hc8)) ?_
    refine AO.sF rfl rfl (bD (decide_eq_true hc8)) ?_
    refine AO.c (Calm.pickT rfl (bD (decide_eq_true hc8)) rfl) ?_
    refine AO.ag rfl rfl ?_
    cases hq7
    refine AO.nilE ⟨rfl, rfl⟩ ?_ ?_
    · exact ⟨rfl, rfl, rfl, rfl, trivial⟩
    · exact (Sub.refl _)
   ·refine AO.cG (x := .ptr n5 0) rfl rfl (bD (decide_eq_false hc8)) (Calm.fldPtr rfl rfl Try.underlying37 rfl sz3 _ rfl) ?_
    refine AO.cG rfl rfl (bD (decide_eq_false hc8)) (Calm.load 1 rfl rfl rfl (At.cast (At.fld0 At.here) rfl) ag3 sz3) ?_
    refine AO.cG (x := .ptr n3 1) rfl rfl (bD (decide_eq_false hc8)) (Calm.fldPtr rfl rfl Try.underlying27 rfl sz23 _ rfl) ?_
    refine AO.cG rfl rfl (bD (decide_eq_false hc8)) (Calm.load 0 rfl rfl rfl (At.cast (At.fldS (At.fld0 At.here)) rfl) ag23 sz23) ?_
    refine AO.cG rfl rfl (bD (decide_eq_false hc8)) (Calm.lenL rfl rfl Try.underlying23) ?_
    refine AO.cG (x := eBool (decide ((p0.f1.length : Int) ≤ ((lget p0.f2 p1).f0)))) rfl rfl (bD (decide_eq_false hc8)) (Calm.int rfl rfl rfl rfl) ?_
    refine AO.c (Calm.pickF rfl (bD (decide_eq_false hc8)) rfl) ?_
    refine AO.ag rfl rfl ?_
    cases hq7
    refine AO.nilE ⟨rfl, rfl⟩ ?_ ?_
    · exact ⟨rfl, rfl, rfl, rfl, trivial⟩
    · exact (Sub.refl _)
  ·rcases of_ite h with ⟨hc9, h⟩ | ⟨hc9, h⟩
   ·refine AW.condT' _ rfl hc9 ?_
    refine AW.sr ?_
    refine AO.ag rfl rfl ?_
    refine AO.nH [4] (H' := []) (Sub.nil _) ?_
    refine AW.rK [4] ?_
    have hr := Option.some.inj h
    subst hr
    exact ⟨[(eI64 (11 : Int))], ⟨rfl, rfl, trivial⟩, rfl⟩
   ·refine AW.condF' _ rfl hc9 ?_
    refine AW.sr ?_
    refine AO.c (x := .ptr n5 1) (Calm.fldPtr rfl rfl Try.underlying37 rfl sz9 _ rfl) ?_
    refine AO.c (Calm.load 1 rfl rfl rfl (At.cast (At.fldS (At.fld0 At.here)) rfl) ag9 sz9) ?_
    obtain ⟨t10, et10, h⟩ := of_bind h
    refine AO.callS [(eStr ((lget p0.f2 p1).f1))] (eBool t10) 32 rfl (by decide) ok69 rfl rfl rfl ⟨rfl, rfl, trivial⟩ (F69_spec et10) ?_
    refine AO.c (Calm.not rfl rfl) ?_
    refine AO.ag rfl rfl ?_
    refine AO.nK [1, 2, 5, 29] ?_
    rcases of_ite h with ⟨hc11, h⟩ | ⟨hc11, h⟩
    ·refine AW.condT' _ rfl hc11 ?_
     refine AW.sr ?_
     refine AO.ag rfl rfl ?_
     refine AO.nH [4] (H' := []) (Sub.nil _) ?_
     refine AW.rK [4] ?_
     have hr := Option.some.inj h
     subst hr
     exact ⟨[(eI64 (8 : Int))], ⟨rfl, rfl, trivial⟩, rfl⟩
    ·refine AW.condF' _ rfl hc11 ?_
     refine AW.sr ?_
     refine AO.c (x := .ptr n5 2) (Calm.fldPtr rfl rfl Try.underlying37 rfl sz34 _ rfl) ?_
     refine AO.c (Calm.load 1 rfl rfl rfl (At.cast (At.fldS (At.fldS (At.fld0 At.here))) rfl) ag34 sz34) ?_
     refine AO.c (Calm.lenL rfl rfl Try.underlying34) ?_
     refine AO.c (x := eBool (decide ((12 : Int) < (((lget p0.f2 p1).f2).length : Int)))) (Calm.int rfl rfl rfl rfl) ?_
     refine AO.ag rfl rfl ?_
     refine AO.nK [1, 2, 5, 34] ?_
     rcases of_ite h with ⟨hc12, h⟩ | ⟨hc12, h⟩
     ·refine AW.condP _ rfl hc12 ?_
      refine AW.sr ?_
      refine AO.ag rfl rfl ?_
      refine AO.nH [4] (H' := []) (Sub.nil _) ?_
      refine AW.rK [4] ?_
      have hr := Option.some.inj h
      subst hr
      exact ⟨[(eI64 (6 : Int))], ⟨rfl, rfl, trivial⟩, rfl⟩
     ·refine AW.condN _ rfl hc12 ?_
      refine AW.sr ?_
      refine AO.c (x := .ptr n5 5) (Calm.fldPtr rfl rfl Try.underlying37 rfl sz35 _ rfl) ?_
      refine AO.c (Calm.load 1 rfl rfl rfl (At.cast (At.fldS (At.fldS (At.fldS (At.fldS (At.fldS (At.fld0 At.here)))))) rfl) ag35 sz35) ?_
      refine AO.c (Calm.lenL rfl rfl Try.underlying35) ?_
      refine AO.c (x := .ptr n5 2) (Calm.fldPtr rfl rfl Try.underlying37 rfl sz34 _ rfl) ?_
      refine AO.c (Calm.load 1 rfl rfl rfl (At.cast (At.fldS (At.fldS (At.fld0 At.here))) rfl) ag34 sz34) ?_
      refine AO.c (Calm.lenL rfl rfl Try.underlying34) ?_
      refine AO.c (x := eI64 (w64 ((((lget p0.f2 p1).f2).length : Int) - (1 : Int)))) (Calm.int rfl rfl rfl rfl) ?_
      refine AO.c (x := eI64 (max (w64 ((((lget p0.f2 p1).f2).length : Int) - (1 : Int))) (0 : Int))) (Calm.max2 rfl rfl rfl) ?_
      refine AO.c (x := eBool (decide ((((lget p0.f2 p1).f5).length : Int) ≠ (max (w64 ((((lget p0.f2 p1).f2).length : Int) - (1 : Int))) (0 : Int))))) (Calm.int rfl rfl rfl rfl) ?_
      refine AO.ag rfl rfl ?_
      refine AO.nK [1, 2, 5, 39] ?_
      rcases of_ite h with ⟨hc13, h⟩ | ⟨hc13, h⟩
      ·refine AW.condP _ rfl hc13 ?_
       refine AW.sr ?_
       refine AO.ag rfl rfl ?_
       refine AO.nH [4] (H' := []) (Sub.nil _) ?_
       refine AW.rK [4] ?_
       have hr := Option.some.inj h
       subst hr
       exact ⟨[(eI64 (1 : Int))], ⟨rfl, rfl, trivial⟩, rfl⟩
      ·refine AW.condN _ rfl hc13 ?_
       refine AW.sK [1, 2, 5] ?_
       refine AW.seq_mid (fun ρ H => ρ = [(2, (.ptr n3 0)), (5, (.ptr n5 0))] ∧ H = [(n3, (.mem (e27 p0))), (n5, (.mem (e37 (lget p0.f2 p1))))] ∧ F44_c4 k p0 p1 = some r) ?_ ?_
       ·refine AW.sr ?_
        refine AO.c (x := .ptr n3 2) (Calm.fldPtr rfl rfl Try.underlying27 rfl sz24 _ rfl) ?_
        refine AO.c (Calm.load 0 rfl rfl rfl (At.cast (At.fldS (At.fldS (At.fld0 At.here))) rfl) ag24 sz24) ?_
        refine AO.mv rfl rfl ?_
        obtain ⟨hg42, h⟩ := of_guard h
        refine AO.c (x := .fz 6 ((lcut p0.f2 (0 : Int) p1).map e37)) (Calm.sliceL rfl rfl rfl rfl hg42 Try.underlying24 sz37) ?_
        refine AO.c (Calm.lenL rfl rfl Try.underlying24) ?_
        refine AO.mv rfl rfl ?_
        refine AO.nK [2, 5, 52, 53, 54] ?_
        refine AW.block ?_
        refine AW.wK [2, 5, 52, 53, 54] ?_
        refine AW.loop (fun kq ρ H => ∃ (x43 : Int), ρ = [(2, (.ptr n3 0)), (5, (.ptr n5 0)), (52, (.fz 6 ((lcut p0.f2 (0 : Int) p1).map e37))), (53, (eI64 ((lcut p0.f2 (0 : Int) p1).length : Int))), (54, (eI64 x43))] ∧ H = [(n3, (.mem (e27 p0))), (n5, (.mem (e37 (lget p0.f2 p1))))] ∧ F44_l5 k p0 p1 kq x43 = some r) k ⟨(0 : Int), rfl, rfl, h⟩ ?_
        rintro kq45 _ _ ⟨x43, rfl, rfl, h⟩
        cases kq45 with
        | zero => rw [F44_l5.eq_1] at h; cases h
        | succ kq45 =>
        rw [F44_l5.eq_2] at h
        generalize hrec44 : F44_l5 k p0 p1 kq45 = rec44 at h
        refine AW.sr ?_
        refine AO.c (x := eBool (decide (x43 < ((lcut p0.f2 (0 : Int) p1).length : Int)))) (Calm.int rfl rfl rfl rfl) ?_
        refine AO.nK [2, 5, 52, 53, 54, 55] ?_
        refine AW.seq ?_
        rcases of_ite h with ⟨hc46, h⟩ | ⟨hc46, h⟩
        ·refine AW.condP _ rfl hc46 ?_
         refine AW.sK [2, 5, 52, 53, 54] ?_
         refine AW.seq ?_
         refine AW.block ?_
         refine AW.sr ?_
         obtain ⟨hg47, h⟩ := of_guard h
         refine AO.c (Calm.idxL (f := e37) rfl rfl rfl hg47 Try.underlying24 sz37) ?_
         refine AO.c (Calm.loadRp rfl rfl ag37 sz37) ?_
         refine AO.alloc rfl 7 rfl (by decide) rfl zr37 lay37 fun n48 => ?_
         refine AO.store (X' := (e37 (lget (lcut p0.f2 (0 : Int) p1) x43))) 0 rfl rfl rfl rfl rfl rfl (Put.cast Put.here rfl) rfl rfl sz37 rfl ?_
         refine AO.nH [2, 5, 7, 52, 53, 54] (H' := [(n3, (.mem (e27 p0))), (n5, (.mem (e37 (lget p0.f2 p1)))), (n48, (.mem (e37 (lget (lcut p0.f2 (0 : Int) p1) x43))))]) (Sub.cons 1 rfl (Sub.cons 1 rfl (Sub.cons 0 rfl (Sub.nil _)))) ?_
         refine AW.sr ?_
         refine AO.c (x := .ptr n48 1) (Calm.fldPtr rfl rfl Try.underlying37 rfl sz9 _ rfl) ?_
         refine AO.c (Calm.load 2 rfl rfl rfl (At.cast (At.fldS (At.fld0 At.here)) rfl) ag9 sz9) ?_
         refine AO.c (x := .ptr n5 1) (Calm.fldPtr rfl rfl Try.underlying37 rfl sz9 _ rfl) ?_
         refine AO.c (Calm.load 1 rfl rfl rfl (At.cast (At.fldS (At.fld0 At.here)) rfl) ag9 sz9) ?_
         refine AO.c (x := eBool (decide (((lget (lcut p0.f2 (0 : Int) p1) x43).f1) = ((lget p0.f2 p1).f1)))) (Calm.str rfl rfl rfl rfl) ?_
         refine AO.nH [2, 5, 52, 53, 54, 62] (H' := [(n3, (.mem (e27 p0))), (n5, (.mem (e37 (lget p0.f2 p1))))]) (Sub.cons 0 rfl (Sub.cons 0 rfl (Sub.nil _))) ?_
         rcases of_ite h with ⟨hc49, h⟩ | ⟨hc49, h⟩
         ·refine AW.condP _ rfl hc49 ?_
          refine AW.sr ?_
          refine AO.ag rfl rfl ?_
          refine AO.nH [4] (H' := []) (Sub.nil _) ?_
          refine AW.rK [4] ?_
          have hr := Option.some.inj h
          subst hr
          exact ⟨[(eI64 (9 : Int))], ⟨rfl, rfl, trivial⟩, rfl⟩
         ·refine AW.condN _ rfl hc49 ?_
          refine AW.sK [2, 5, 52, 53, 54] ?_
          refine AW.reg ?_
          refine AO.c (x := eI64 (w64 (x43 + (1 : Int)))) (Calm.int rfl rfl rfl rfl) ?_
          refine AO.mv rfl rfl ?_
          refine AO.nK [2, 5, 52, 53, 54] ?_
          exact ⟨kq45, Nat.lt_succ_self _, (w64 (x43 + (1 : Int))), rfl, rfl, by rw [hrec44]; exact h⟩
        ·refine AW.condN _ rfl hc46 ?_
         refine AW.eK [2, 5] ?_
         exact ⟨rfl, rfl, h⟩
       ·rintro _ _ ⟨rfl, rfl, h⟩
        rw [F44_c4.eq_1] at h
        refine AW.seq_mid (fun ρ H => ρ = [(2, (.ptr n3 0)), (5, (.ptr n5 0))] ∧ H = [(n3, (.mem (e27 p0))), (n5, (.mem (e37 (lget p0.f2 p1))))] ∧ F44_c2 k p0 p1 = some r) ?_ ?_
        ·refine AW.sr ?_
         refine AO.c (x := .ptr n5 2) (Calm.fldPtr rfl rfl Try.underlying37 rfl sz34 _ rfl) ?_
         refine AO.c (Calm.load 1 rfl rfl rfl (At.cast (At.fldS (At.fldS (At.fld0 At.here))) rfl) ag34 sz34) ?_
         refine AO.c (Calm.lenL rfl rfl Try.underlying34) ?_
         refine AO.mv rfl rfl ?_
         refine AO.nK [2, 5, 65, 66, 67] ?_
         refine AW.block ?_
         refine AW.wK [2, 5, 65, 66, 67] ?_
         refine AW.loop (fun kq ρ H => ∃ (x34 : Int), ρ = [(2, (.ptr n3 0)), (5, (.ptr n5 0)), (65, (.fz 2 (((lget p0.f2 p1).f2).map e41))), (66, (eI64 (((lget p0.f2 p1).f2).length : Int))), (67, (eI64 x34))] ∧ H = [(n3, (.mem (e27 p0))), (n5, (.mem (e37 (lget p0.f2 p1))))] ∧ F44_l3 k p0 p1 kq x34 = some r) k ⟨(0 : Int), rfl, rfl, h⟩ ?_
         rintro kq36 _ _ ⟨x34, rfl, rfl, h⟩
         cases kq36 with
         | zero => rw [F44_l3.eq_1] at h; cases h
         | succ kq36 =>
         rw [F44_l3.eq_2] at h
         generalize hrec35 : F44_l3 k p0 p1 kq36 = rec35 at h
         refine AW.sr ?_
         refine AO.c (x := eBool (decide (x34 < (((lget p0.f2 p1).f2).length : Int)))) (Calm.int rfl rfl rfl rfl) ?_
         refine AO.nK [2, 5, 65, 66, 67, 68] ?_
         refine AW.seq ?_
         rcases of_ite h with ⟨hc37, h⟩ | ⟨hc37, h⟩
         ·refine AW.condP _ rfl hc37 ?_
          refine AW.sK [2, 5, 65, 66, 67] ?_
          refine AW.seq ?_
          refine AW.block ?_
          refine AW.sr ?_
          obtain ⟨hg38, h⟩ := of_guard h
          refine AO.c (Calm.idxL (f := e41) rfl rfl rfl hg38 Try.underlying34 sz41) ?_
          refine AO.c (Calm.loadRp rfl rfl ag41 sz41) ?_
          refine AO.alloc rfl 9 rfl (by decide) rfl zr41 lay41 fun n39 => ?_
          refine AO.store (X' := (e41 (lget ((lget p0.f2 p1).f2) x34))) 0 rfl rfl rfl rfl rfl rfl (Put.cast Put.here rfl) rfl rfl sz41 rfl ?_
          refine AO.nH [2, 5, 9, 65, 66, 67] (H' := [(n3, (.mem (e27 p0))), (n5, (.mem (e37 (lget p0.f2 p1)))), (n39, (.mem (e41 (lget ((lget p0.f2 p1).f2) x34))))]) (Sub.cons 1 rfl (Sub.cons 1 rfl (Sub.cons 0 rfl (Sub.nil _)))) ?_
          refine AW.sr ?_
          refine AO.c (Calm.load 0 rfl rfl rfl (At.cast At.here rfl) ag27 sz27) ?_
          refine AO.c (Calm.load 2 rfl rfl rfl (At.cast At.here rfl) ag41 sz41) ?_
          obtain ⟨t40, et40, h⟩ := of_bind h
          refine AO.callS [(e27 p0), (e41 (lget ((lget p0.f2 p1).f2) x34))] (eBool t40) 73 rfl (by decide) ok16 rfl rfl rfl ⟨rfl, rfl, rfl, rfl, trivial⟩ (F16_spec et40) ?_
          refine AO.c (Calm.not rfl rfl) ?_
          refine AO.nH [2, 5, 65, 66, 67, 74] (H' := [(n3, (.mem (e27 p0))), (n5, (.mem (e37 (lget p0.f2 p1))))]) (Sub.cons 0 rfl (Sub.cons 0 rfl (Sub.nil _))) ?_
          rcases of_ite h with ⟨hc41, h⟩ | ⟨hc41, h⟩
          ·refine AW.condT' _ rfl hc41 ?_
           refine AW.sr ?_
           refine AO.ag rfl rfl ?_
           refine AO.nH [4] (H' := []) (Sub.nil _) ?_
           refine AW.rK [4] ?_
           have hr := Option.some.inj h
           subst hr
           exact ⟨[(eI64 (11 : Int))], ⟨rfl, rfl, trivial⟩, rfl⟩
          ·refine AW.condF' _ rfl hc41 ?_
           refine AW.sK [2, 5, 65, 66, 67] ?_
           refine AW.reg ?_
           refine AO.c (x := eI64 (w64 (x34 + (1 : Int)))) (Calm.int rfl rfl rfl rfl) ?_
           refine AO.mv rfl rfl ?_
           refine AO.nK [2, 5, 65, 66, 67] ?_
           exact ⟨kq36, Nat.lt_succ_self _, (w64 (x34 + (1 : Int))), rfl, rfl, by rw [hrec35]; exact h⟩
         ·refine AW.condN _ rfl hc37 ?_
          refine AW.eK [2, 5] ?_
          exact ⟨rfl, rfl, h⟩
        ·rintro _ _ ⟨rfl, rfl, h⟩
         rw [F44_c2.eq_1] at h
         refine AW.seq_mid (fun ρ H => ρ = [(2, (.ptr n3 0)), (5, (.ptr n5 0))] ∧ H = [(n3, (.mem (e27 p0))), (n5, (.mem (e37 (lget p0.f2 p1))))] ∧ F44_c0 k p0 p1 = some r) ?_ ?_
         ·refine AW.sr ?_
          refine AO.c (x := .ptr n5 5) (Calm.fldPtr rfl rfl Try.underlying37 rfl sz35 _ rfl) ?_
          refine AO.c (Calm.load 1 rfl rfl rfl (At.cast (At.fldS (At.fldS (At.fldS (At.fldS (At.fldS (At.fld0 At.here)))))) rfl) ag35 sz35) ?_
          refine AO.c (Calm.lenL rfl rfl Try.underlying35) ?_
          refine AO.mv rfl rfl ?_
          refine AO.nK [2, 5, 77, 78, 79] ?_
          refine AW.block ?_
          refine AW.wK [2, 5, 77, 78, 79] ?_
          refine AW.loop (fun kq ρ H => ∃ (x25 : Int), ρ = [(2, (.ptr n3 0)), (5, (.ptr n5 0)), (77, (.fz 1 (((lget p0.f2 p1).f5).map eI64))), (78, (eI64 (((lget p0.f2 p1).f5).length : Int))), (79, (eI64 x25))] ∧ H = [(n3, (.mem (e27 p0))), (n5, (.mem (e37 (lget p0.f2 p1))))] ∧ F44_l1 k p0 p1 kq x25 = some r) k ⟨(0 : Int), rfl, rfl, h⟩ ?_
          rintro kq27 _ _ ⟨x25, rfl, rfl, h⟩
          cases kq27 with
          | zero => rw [F44_l1.eq_1] at h; cases h
          | succ kq27 =>
          rw [F44_l1.eq_2] at h
          generalize hrec26 : F44_l1 k p0 p1 kq27 = rec26 at h
          refine AW.sr ?_
          refine AO.c (x := eBool (decide (x25 < (((lget p0.f2 p1).f5).length : Int)))) (Calm.int rfl rfl rfl rfl) ?_
          refine AO.nK [2, 5, 77, 78, 79, 80] ?_
          refine AW.seq ?_
          rcases of_ite h with ⟨hc28, h⟩ | ⟨hc28, h⟩
          ·refine AW.condP _ rfl hc28 ?_
           refine AW.sK [2, 5, 77, 78, 79] ?_
           refine AW.seq ?_
           refine AW.block ?_
           refine AW.sr ?_
           obtain ⟨hg29, h⟩ := of_guard h
           refine AO.c (Calm.idxL (f := eI64) rfl rfl rfl hg29 Try.underlying35 sz3) ?_
           refine AO.c (Calm.loadRp rfl rfl ag3 sz3) ?_
           refine AO.ag rfl rfl ?_
           refine AO.nK [2, 5, 11, 77, 78, 79] ?_
           refine AW.seq ?_
           obtain ⟨b30, hq31, h⟩ := of_bind h
           refine AW.regM [(2, (.ptr n3 0)), (5, (.ptr n5 0)), (77, (.fz 1 (((lget p0.f2 p1).f5).map eI64))), (78, (eI64 (((lget p0.f2 p1).f5).length : Int))), (79, (eI64 x25)), (88, (eBool b30))] [(n3, (.mem (e27 p0))), (n5, (.mem (e37 (lget p0.f2 p1))))] ?_ ?_
           ·refine AO.mv rfl rfl ?_
            refine AO.c (x := eBool (decide ((lget ((lget p0.f2 p1).f5) x25) < (0 : Int)))) (Calm.int rfl rfl rfl rfl) ?_
            refine AO.mv rfl rfl ?_
            rcases of_ite hq31 with ⟨hc32, hq31⟩ | ⟨hc32, hq31⟩
            ·refine AO.sF rfl rfl (bD (decide_eq_true hc32)) ?_
             refine AO.sF rfl rfl (bD (decide_eq_true hc32)) ?_
             refine AO.c (Calm.pickT rfl (bD (decide_eq_true hc32)) rfl) ?_
             cases hq31
             refine AO.nilE ⟨rfl, rfl⟩ ?_ ?_
             · exact ⟨rfl, rfl, rfl, rfl, rfl, rfl, trivial⟩
             · exact (Sub.refl _)
            ·refine AO.cG rfl rfl (bD (decide_eq_false hc32)) (Calm.move rfl rfl) ?_
             refine AO.cG (x := eBool (decide ((3 : Int) < (lget ((lget p0.f2 p1).f5) x25)))) rfl rfl (bD (decide_eq_false hc32)) (Calm.int rfl rfl rfl rfl) ?_
             refine AO.c (Calm.pickF rfl (bD (decide_eq_false hc32)) rfl) ?_
             cases hq31
             refine AO.nilE ⟨rfl, rfl⟩ ?_ ?_
             · exact ⟨rfl, rfl, rfl, rfl, rfl, rfl, trivial⟩
             · exact (Sub.refl _)
           ·rcases of_ite h with ⟨hc33, h⟩ | ⟨hc33, h⟩
            ·refine AW.condT' _ rfl hc33 ?_
             refine AW.sr ?_
             refine AO.ag rfl rfl ?_
             refine AO.nH [4] (H' := []) (Sub.nil _) ?_
             refine AW.rK [4] ?_
             have hr := Option.some.inj h
             subst hr
             exact ⟨[(eI64 (1 : Int))], ⟨rfl, rfl, trivial⟩, rfl⟩
            ·refine AW.condF' _ rfl hc33 ?_
             refine AW.sK [2, 5, 77, 78, 79] ?_
             refine AW.reg ?_
             refine AO.c (x := eI64 (w64 (x25 + (1 : Int)))) (Calm.int rfl rfl rfl rfl) ?_
             refine AO.mv rfl rfl ?_
             refine AO.nK [2, 5, 77, 78, 79] ?_
             exact ⟨kq27, Nat.lt_succ_self _, (w64 (x25 + (1 : Int))), rfl, rfl, by rw [hrec26]; exact h⟩
          ·refine AW.condN _ rfl hc28 ?_
           refine AW.eK [2, 5] ?_
           exact ⟨rfl, rfl, h⟩
         ·rintro _ _ ⟨rfl, rfl, h⟩
          rw [F44_c0.eq_1] at h
          refine AW.seq ?_
          refine AW.seq ?_
          obtain ⟨b14, hq15, h⟩ := of_bind h
          refine AW.regM [(5, (.ptr n5 0)), (105, (eBool b14))] [(n5, (.mem (e37 (lget p0.f2 p1))))] ?_ ?_
          ·refine AO.c (x := .ptr n5 4) (Calm.fldPtr rfl rfl Try.underlying37 rfl sz3 _ rfl) ?_
           refine AO.c (Calm.load 1 rfl rfl rfl (At.cast (At.fldS (At.fldS (At.fldS (At.fldS (At.fld0 At.here))))) rfl) ag3 sz3) ?_
           refine AO.c (x := eBool (decide (((lget p0.f2 p1).f4) ≠ (-1 : Int)))) (Calm.int rfl rfl rfl rfl) ?_
           refine AO.mv rfl rfl ?_
           rcases of_ite hq15 with ⟨hc16, hq15⟩ | ⟨hc16, hq15⟩
           ·refine AO.cG (x := .ptr n5 4) rfl rfl (bD (decide_eq_true hc16)) (Calm.fldPtr rfl rfl Try.underlying37 rfl sz3 _ rfl) ?_
            refine AO.cG rfl rfl (bD (decide_eq_true hc16)) (Calm.load 1 rfl rfl rfl (At.cast (At.fldS (At.fldS (At.fldS (At.fldS (At.fld0 At.here))))) rfl) ag3 sz3) ?_
            refine AO.cG (x := eBool (decide (((lget p0.f2 p1).f4) < (0 : Int)))) rfl rfl (bD (decide_eq_true hc16)) (Calm.int rfl rfl rfl rfl) ?_
            refine AO.cG rfl rfl (bD (decide_eq_true hc16)) (Calm.move rfl rfl) ?_
            rcases of_ite hq15 with ⟨hc17, hq15⟩ | ⟨hc17, hq15⟩
            ·refine AO.sF rfl rfl (bD (decide_eq_true hc17)) ?_
             refine AO.sF rfl rfl (bD (decide_eq_true hc17)) ?_
             refine AO.sF rfl rfl (bD (decide_eq_true hc17)) ?_
             refine AO.sF rfl rfl (bD (decide_eq_true hc17)) ?_
             refine AO.sF rfl rfl (bD (decide_eq_true hc17)) ?_
             refine AO.sF rfl rfl (bD (decide_eq_true hc17)) ?_
             refine AO.cG rfl rfl (bD (decide_eq_true hc16)) (Calm.pickT rfl (bD (decide_eq_true hc17)) rfl) ?_
             refine AO.c (Calm.pickT rfl (bD (decide_eq_true hc16)) rfl) ?_
             cases hq15
             refine AO.nilE ⟨rfl, rfl⟩ ?_ ?_
             · exact ⟨rfl, rfl, trivial⟩
             · exact (Sub.cons 1 rfl (Sub.nil _))
            ·refine AO.cG rfl rfl (bD (decide_eq_false hc17)) (Calm.load 0 rfl rfl rfl (At.cast At.here rfl) ag27 sz27) ?_
             refine AO.cG (x := .ptr n5 4) rfl rfl (bD (decide_eq_false hc17)) (Calm.fldPtr rfl rfl Try.underlying37 rfl sz3 _ rfl) ?_
             refine AO.cG rfl rfl (bD (decide_eq_false hc17)) (Calm.load 1 rfl rfl rfl (At.cast (At.fldS (At.fldS (At.fldS (At.fldS (At.fld0 At.here))))) rfl) ag3 sz3) ?_
             refine AO.cG (x := .st [(1, (eBool false)), (1, (eI64 ((lget p0.f2 p1).f4)))]) rfl rfl (bD (decide_eq_false hc17)) (Calm.build (qs := [(1, (eI64 ((lget p0.f2 p1).f4)))]) rfl ⟨rfl, rfl, rfl, trivial⟩ Try.underlying41 rfl zr41 lay41 (.cons rfl rfl rfl rfl (Put.cast (Put.fldS (Put.fld0 Put.here)) rfl) .nil) rfl) ?_
             obtain ⟨t18, et18, hq15⟩ := of_bind hq15
             refine AO.callG 7 false 97 [(e27 p0), (e41 (S41.mk false ((lget p0.f2 p1).f4)))] (eBool t18) 102 rfl (by decide) ok16 rfl rfl (bD (decide_eq_false hc17)) rfl rfl ⟨rfl, rfl, rfl, rfl, trivial⟩ (F16_spec et18) ?_
             refine AO.cG rfl rfl (bD (decide_eq_false hc17)) (Calm.not rfl rfl) ?_
             refine AO.cG rfl rfl (bD (decide_eq_true hc16)) (Calm.pickF rfl (bD (decide_eq_false hc17)) rfl) ?_
             refine AO.c (Calm.pickT rfl (bD (decide_eq_true hc16)) rfl) ?_
             cases hq15
             refine AO.nilE ⟨rfl, rfl⟩ ?_ ?_
             · exact ⟨rfl, rfl, trivial⟩
             · exact (Sub.cons 1 rfl (Sub.nil _))
           ·refine AO.sT rfl rfl (bD (decide_eq_false hc16)) ?_
            refine AO.sT rfl rfl (bD (decide_eq_false hc16)) ?_
            refine AO.sT rfl rfl (bD (decide_eq_false hc16)) ?_
            refine AO.sT rfl rfl (bD (decide_eq_false hc16)) ?_
            refine AO.sU rfl rfl rfl ?_
            refine AO.sU rfl rfl rfl ?_
            refine AO.sU rfl rfl rfl ?_
            refine AO.sU rfl rfl rfl ?_
            refine AO.sU rfl rfl rfl ?_
            refine AO.sU rfl rfl rfl ?_
            refine AO.sT rfl rfl (bD (decide_eq_false hc16)) ?_
            refine AO.c (Calm.pickF rfl (bD (decide_eq_false hc16)) rfl) ?_
            cases hq15
            refine AO.nilE ⟨rfl, rfl⟩ ?_ ?_
            · exact ⟨rfl, rfl, trivial⟩
            · exact (Sub.cons 1 rfl (Sub.nil _))
          ·rcases of_ite h with ⟨hc19, h⟩ | ⟨hc19, h⟩
           ·refine AW.condT' _ rfl hc19 ?_
            refine AW.sr ?_
            refine AO.ag rfl rfl ?_
            refine AO.nH [4] (H' := []) (Sub.nil _) ?_
            refine AW.rK [4] ?_
            have hr := Option.some.inj h
            subst hr
            exact ⟨[(eI64 (11 : Int))], ⟨rfl, rfl, trivial⟩, rfl⟩
           ·refine AW.condF' _ rfl hc19 ?_
            refine AW.sK [5] ?_
            refine AW.seq ?_
            refine AW.seq ?_
            obtain ⟨b20, hq21, h⟩ := of_bind h
            refine AW.regM [(112, (eBool b20))] [] ?_ ?_
            ·refine AO.c (x := .ptr n5 3) (Calm.fldPtr rfl rfl Try.underlying37 rfl sz4 _ rfl) ?_
             refine AO.c (Calm.load 0 rfl rfl rfl (At.cast (At.fldS (At.fldS (At.fldS (At.fld0 At.here)))) rfl) ag4 sz4) ?_
             refine AO.mv rfl rfl ?_
             rcases of_ite hq21 with ⟨hc22, hq21⟩ | ⟨hc22, hq21⟩
             ·refine AO.cG rfl rfl (bD hc22) (Calm.load 0 rfl rfl rfl (At.cast At.here rfl) ag37 sz37) ?_
              obtain ⟨t23, et23, hq21⟩ := of_bind hq21
              refine AO.callG 2 true 108 [(e37 (lget p0.f2 p1))] (eBool t23) 110 rfl (by decide) ok22 rfl rfl (bD hc22) rfl rfl ⟨rfl, rfl, trivial⟩ (F22_spec et23) ?_
              refine AO.cG rfl rfl (bD hc22) (Calm.not rfl rfl) ?_
              refine AO.c (Calm.pickT rfl (bD hc22) rfl) ?_
              cases hq21
              refine AO.nilE ⟨rfl, rfl⟩ ?_ ?_
              · exact ⟨rfl, trivial⟩
              · exact (Sub.nil _)
             ·refine AO.sT rfl rfl (bD (eq_false_of_ne_true hc22)) ?_
              refine AO.sT rfl rfl (bD (eq_false_of_ne_true hc22)) ?_
              refine AO.sT rfl rfl (bD (eq_false_of_ne_true hc22)) ?_
              refine AO.c (Calm.pickF rfl (bD (eq_false_of_ne_true hc22)) rfl) ?_
              cases hq21
              refine AO.nilE ⟨rfl, rfl⟩ ?_ ?_
              · exact ⟨rfl, trivial⟩
              · exact (Sub.nil _)
            ·rcases of_ite h with ⟨hc24, h⟩ | ⟨hc24, h⟩
             ·refine AW.condT' _ rfl hc24 ?_
              refine AW.sr ?_
              refine AO.ag rfl rfl ?_
              refine AO.nK [4] ?_
              refine AW.rK [4] ?_
              have hr := Option.some.inj h
              subst hr
              exact ⟨[(eI64 (15 : Int))], ⟨rfl, rfl, trivial⟩, rfl⟩
             ·refine AW.condF' _ rfl hc24 ?_
              refine AW.sK [] ?_
              refine AW.sr ?_
              refine AO.ag rfl rfl ?_
              refine AO.nK [4] ?_
              refine AW.rK [4] ?_
              have hr := Option.some.inj h
              subst hr
              exact ⟨[(eI64 (0 : Int))], ⟨rfl, rfl, trivial⟩, rfl⟩
end Go.Avl.T7
/- bosket/gram.levels; printed by avmain.py. -/
namespace Go.Avl.T7
open Go Go.RowKit Go.Proofs Go.Avl
set_option linter.unusedVariables false
set_option maxRecDepth 100000
set_option maxHeartbeats 4000000
attribute [local irreducible] AW AO AQ Spec SpecH Calm

def F45_c0 (k : Nat) : Option S32 :=
  some ((S32.mk (0 : Int) (0 : Int) (0 : Int)))
def F45_c1 (k : Nat) (rec7 : ((List (Int × Int)) → Int → Option S32)) (x6 : Int) (x10 : (List (Int × Int))) : Option S32 :=
  rec7 x10 (w64 (x6 + (1 : Int)))
def F45_l2 (k : Nat) (rec7 : ((List (Int × Int)) → Int → Option S32)) (p0 : S27) (x6 : Int) : Nat → (List (Int × Int)) → Int → Option S32
  | 0, _, _ => none
  | j + 1, x19, x20 =>
    if x20 < (((lget p0.f3 x6).f1).length : Int) then if 0 ≤ x20 ∧ x20 < (((lget p0.f3 x6).f1).length : Int) then (F16 k p0 (S41.mk false (lget ((lget p0.f3 x6).f1) x20))).bind fun t25 =>
    if (!t25) = true then some ((S32.mk (11 : Int) (4 : Int) x6))
    else if (0 : Int) < ((mget x19 (lget ((lget p0.f3 x6).f1) x20)).getD (0 : Int)) then some ((S32.mk (9 : Int) (4 : Int) x6))
    else (F45_l2 k rec7 p0 x6 j) (mput x19 (lget ((lget p0.f3 x6).f1) x20) (w64 (((mget x19 (lget ((lget p0.f3 x6).f1) x20)).getD (0 : Int)) + (1 : Int)))) (w64 (x20 + (1 : Int)))
    else none
    else F45_c1 k rec7 x6 x19
def F45_l3 (k : Nat) (p0 : S27) : Nat → (List (Int × Int)) → Int → Option S32
  | 0, _, _ => none
  | j + 1, x5, x6 =>
    if x6 < (p0.f3.length : Int) then if 0 ≤ x6 ∧ x6 < (p0.f3.length : Int) then Option.bind (α := Bool) (if ((lget p0.f3 x6).f0) < (1 : Int) then some (true)
    else if (3 : Int) < ((lget p0.f3 x6).f0) then some (true)
    else if (((lget p0.f3 x6).f1).length : Int) = (0 : Int) then some (true)
    else some (decide ((60 : Int) ≤ x6))) fun b13 =>
    if b13 = true then some ((S32.mk (1 : Int) (4 : Int) x6))
    else F45_l2 k (F45_l3 k p0 j) p0 x6 k x5 (0 : Int)
    else none
    else F45_c0 k
def F45 (k : Nat) (p0 : S27) : Option S32 :=
  F45_l3 k p0 k ([] : List (Int × Int)) (0 : Int)
theorem F45_spec {k : Nat} {p0 : S27} {r : S32} (h : F45 k p0 = some r) : Spec Try.prog 45 [(e27 p0)] (e32 r) := by
  rw [F45.eq_1] at h
  refine Spec.intro (res := [.cell 2 32]) Try.func45 rfl rfl rfl (Nat.le_of_ble_eq_true rfl) ?_
  refine AW.sr ?_
  refine AO.box rfl 1 rfl (by decide) rfl rfl rfl fun n2 => ?_
  refine AO.alloc rfl 2 rfl (by decide) rfl zr32 lay32 fun n3 => ?_
  refine AO.nH [1, 2] (H' := [(n2, (.mem (e27 p0))), (n3, (.mem (.st [(1, (eI64 (0 : Int))), (1, (eI64 (0 : Int))), (1, (eI64 (0 : Int)))])))]) (Sub.cons 1 rfl (Sub.cons 0 rfl (Sub.nil _))) ?_
  refine AW.sr ?_
  refine AO.makeMap rfl 8 rfl (by decide) rfl fun n4 => ?_
  refine AO.ag rfl rfl ?_
  refine AO.nH [1, 2, 3] (H' := [(n2, (.mem (e27 p0))), (n3, (.mem (.st [(1, (eI64 (0 : Int))), (1, (eI64 (0 : Int))), (1, (eI64 (0 : Int)))]))), (n4, (.map (encM (Value.int .i64) eI64 ([] : List (Int × Int)))))]) (Sub.cons 1 rfl (Sub.cons 1 rfl (Sub.cons 0 rfl (Sub.nil _)))) ?_
  refine AW.seq_mid (fun ρ H => ρ = [(2, (.ptr n3 0))] ∧ H = [(n3, (.mem (.st [(1, (eI64 (0 : Int))), (1, (eI64 (0 : Int))), (1, (eI64 (0 : Int)))])))] ∧ F45_c0 k = some r) ?_ ?_
  ·refine AW.sr ?_
   refine AO.c (x := .ptr n2 3) (Calm.fldPtr rfl rfl Try.underlying27 rfl sz25 _ rfl) ?_
   refine AO.c (Calm.load 0 rfl rfl rfl (At.cast (At.fldS (At.fldS (At.fldS (At.fld0 At.here)))) rfl) ag25 sz25) ?_
   refine AO.c (Calm.lenL rfl rfl Try.underlying25) ?_
   refine AO.mv rfl rfl ?_
   refine AO.nK [1, 2, 3, 10, 11, 12] ?_
   refine AW.block ?_
   refine AW.wK [1, 2, 3, 10, 11, 12] ?_
   refine AW.loop (fun kq ρ H => ∃ (x5 : (List (Int × Int))) (x6 : Int), ρ = [(1, (.ptr n2 0)), (2, (.ptr n3 0)), (3, (.mp n4)), (10, (.fz 2 (p0.f3.map e86))), (11, (eI64 (p0.f3.length : Int))), (12, (eI64 x6))] ∧ H = [(n2, (.mem (e27 p0))), (n3, (.mem (.st [(1, (eI64 (0 : Int))), (1, (eI64 (0 : Int))), (1, (eI64 (0 : Int)))]))), (n4, (.map (encM (Value.int .i64) eI64 x5)))] ∧ F45_l3 k p0 kq x5 x6 = some r) k ⟨([] : List (Int × Int)), (0 : Int), rfl, rfl, h⟩ ?_
   rintro kq8 _ _ ⟨x5, x6, rfl, rfl, h⟩
   cases kq8 with
   | zero => rw [F45_l3.eq_1] at h; cases h
   | succ kq8 =>
   rw [F45_l3.eq_2] at h
   generalize hrec7 : F45_l3 k p0 kq8 = rec7 at h
   refine AW.sr ?_
   refine AO.c (x := eBool (decide (x6 < (p0.f3.length : Int)))) (Calm.int rfl rfl rfl rfl) ?_
   refine AO.nK [1, 2, 3, 10, 11, 12, 13] ?_
   refine AW.seq ?_
   rcases of_ite h with ⟨hc9, h⟩ | ⟨hc9, h⟩
   ·refine AW.condP _ rfl hc9 ?_
    refine AW.sK [1, 2, 3, 10, 11, 12] ?_
    refine AW.seq_mid (fun ρ H => ∃ (x10 : (List (Int × Int))), ρ = [(1, (.ptr n2 0)), (2, (.ptr n3 0)), (3, (.mp n4)), (10, (.fz 2 (p0.f3.map e86))), (11, (eI64 (p0.f3.length : Int))), (12, (eI64 x6))] ∧ H = [(n2, (.mem (e27 p0))), (n3, (.mem (.st [(1, (eI64 (0 : Int))), (1, (eI64 (0 : Int))), (1, (eI64 (0 : Int)))]))), (n4, (.map (encM (Value.int .i64) eI64 x10)))] ∧ F45_c1 k rec7 x6 x10 = some r) ?_ ?_
    ·refine AW.block ?_
     refine AW.sr ?_
     refine AO.mv rfl rfl ?_
     obtain ⟨hg11, h⟩ := of_guard h
     refine AO.c (Calm.idxL (f := e86) rfl rfl rfl hg11 Try.underlying25 sz86) ?_
     refine AO.c (Calm.loadRp rfl rfl ag86 sz86) ?_
     refine AO.alloc rfl 5 rfl (by decide) rfl zr86 lay86 fun n12 => ?_
     refine AO.ag rfl rfl ?_
     refine AO.store (X' := (e86 (lget p0.f3 x6))) 0 rfl rfl rfl rfl rfl rfl (Put.cast Put.here rfl) rfl rfl sz86 rfl ?_
     refine AO.nH [1, 2, 3, 4, 5, 10, 11, 12] (H' := [(n2, (.mem (e27 p0))), (n3, (.mem (.st [(1, (eI64 (0 : Int))), (1, (eI64 (0 : Int))), (1, (eI64 (0 : Int)))]))), (n4, (.map (encM (Value.int .i64) eI64 x5))), (n12, (.mem (e86 (lget p0.f3 x6))))]) (Sub.cons 1 rfl (Sub.cons 1 rfl (Sub.cons 1 rfl (Sub.cons 0 rfl (Sub.nil _))))) ?_
     refine AW.seq ?_
     refine AW.seq ?_
     obtain ⟨b13, hq14, h⟩ := of_bind h
     refine AW.regM [(1, (.ptr n2 0)), (2, (.ptr n3 0)), (3, (.mp n4)), (4, (eI64 x6)), (5, (.ptr n12 0)), (10, (.fz 2 (p0.f3.map e86))), (11, (eI64 (p0.f3.length : Int))), (12, (eI64 x6)), (34, (eBool b13))] [(n2, (.mem (e27 p0))), (n3, (.mem (.st [(1, (eI64 (0 : Int))), (1, (eI64 (0 : Int))), (1, (eI64 (0 : Int)))]))), (n4, (.map (encM (Value.int .i64) eI64 x5))), (n12, (.mem (e86 (lget p0.f3 x6))))] ?_ ?_
     ·refine AO.c (x := .ptr n12 0) (Calm.fldPtr rfl rfl Try.underlying86 rfl sz3 _ rfl) ?_
      refine AO.c (Calm.load 3 rfl rfl rfl (At.cast (At.fld0 At.here) rfl) ag3 sz3) ?_
      refine AO.c (x := eBool (decide (((lget p0.f3 x6).f0) < (1 : Int)))) (Calm.int rfl rfl rfl rfl) ?_
      refine AO.mv rfl rfl ?_
      rcases of_ite hq14 with ⟨hc15, hq14⟩ | ⟨hc15, hq14⟩
      ·refine AO.sF rfl rfl (bD (decide_eq_true hc15)) ?_
       refine AO.sF rfl rfl (bD (decide_eq_true hc15)) ?_
       refine AO.sF rfl rfl (bD (decide_eq_true hc15)) ?_
       refine AO.c (Calm.pickT rfl (bD (decide_eq_true hc15)) rfl) ?_
       refine AO.mv rfl rfl ?_
       refine AO.sF rfl rfl rfl ?_
       refine AO.sF rfl rfl rfl ?_
       refine AO.sF rfl rfl rfl ?_
       refine AO.sF rfl rfl rfl ?_
       refine AO.c (Calm.pickT rfl rfl rfl) ?_
       refine AO.mv rfl rfl ?_
       refine AO.sF rfl rfl rfl ?_
       refine AO.sF rfl rfl rfl ?_
       refine AO.c (Calm.pickT rfl rfl rfl) ?_
       cases hq14
       refine AO.nilE ⟨rfl, rfl⟩ ?_ ?_
       · exact ⟨rfl, rfl, rfl, rfl, rfl, rfl, rfl, rfl, rfl, trivial⟩
       · exact (Sub.refl _)
      ·refine AO.cG (x := .ptr n12 0) rfl rfl (bD (decide_eq_false hc15)) (Calm.fldPtr rfl rfl Try.underlying86 rfl sz3 _ rfl) ?_
       refine AO.cG rfl rfl (bD (decide_eq_false hc15)) (Calm.load 3 rfl rfl rfl (At.cast (At.fld0 At.here) rfl) ag3 sz3) ?_
       refine AO.cG (x := eBool (decide ((3 : Int) < ((lget p0.f3 x6).f0)))) rfl rfl (bD (decide_eq_false hc15)) (Calm.int rfl rfl rfl rfl) ?_
       refine AO.c (Calm.pickF rfl (bD (decide_eq_false hc15)) rfl) ?_
       refine AO.mv rfl rfl ?_
       rcases of_ite hq14 with ⟨hc16, hq14⟩ | ⟨hc16, hq14⟩
       ·refine AO.sF rfl rfl (bD (decide_eq_true hc16)) ?_
        refine AO.sF rfl rfl (bD (decide_eq_true hc16)) ?_
        refine AO.sF rfl rfl (bD (decide_eq_true hc16)) ?_
        refine AO.sF rfl rfl (bD (decide_eq_true hc16)) ?_
        refine AO.c (Calm.pickT rfl (bD (decide_eq_true hc16)) rfl) ?_
        refine AO.mv rfl rfl ?_
        refine AO.sF rfl rfl rfl ?_
        refine AO.sF rfl rfl rfl ?_
        refine AO.c (Calm.pickT rfl rfl rfl) ?_
        cases hq14
        refine AO.nilE ⟨rfl, rfl⟩ ?_ ?_
        · exact ⟨rfl, rfl, rfl, rfl, rfl, rfl, rfl, rfl, rfl, trivial⟩
        · exact (Sub.refl _)
       ·refine AO.cG (x := .ptr n12 1) rfl rfl (bD (decide_eq_false hc16)) (Calm.fldPtr rfl rfl Try.underlying86 rfl sz35 _ rfl) ?_
        refine AO.cG rfl rfl (bD (decide_eq_false hc16)) (Calm.load 3 rfl rfl rfl (At.cast (At.fldS (At.fld0 At.here)) rfl) ag35 sz35) ?_
        refine AO.cG rfl rfl (bD (decide_eq_false hc16)) (Calm.lenL rfl rfl Try.underlying35) ?_
        refine AO.cG (x := eBool (decide ((((lget p0.f3 x6).f1).length : Int) = (0 : Int)))) rfl rfl (bD (decide_eq_false hc16)) (Calm.int rfl rfl rfl rfl) ?_
        refine AO.c (Calm.pickF rfl (bD (decide_eq_false hc16)) rfl) ?_
        refine AO.mv rfl rfl ?_
        rcases of_ite hq14 with ⟨hc17, hq14⟩ | ⟨hc17, hq14⟩
        ·refine AO.sF rfl rfl (bD (decide_eq_true hc17)) ?_
         refine AO.sF rfl rfl (bD (decide_eq_true hc17)) ?_
         refine AO.c (Calm.pickT rfl (bD (decide_eq_true hc17)) rfl) ?_
         cases hq14
         refine AO.nilE ⟨rfl, rfl⟩ ?_ ?_
         · exact ⟨rfl, rfl, rfl, rfl, rfl, rfl, rfl, rfl, rfl, trivial⟩
         · exact (Sub.refl _)
        ·refine AO.cG rfl rfl (bD (decide_eq_false hc17)) (Calm.move rfl rfl) ?_
         refine AO.cG (x := eBool (decide ((60 : Int) ≤ x6))) rfl rfl (bD (decide_eq_false hc17)) (Calm.int rfl rfl rfl rfl) ?_
         refine AO.c (Calm.pickF rfl (bD (decide_eq_false hc17)) rfl) ?_
         cases hq14
         refine AO.nilE ⟨rfl, rfl⟩ ?_ ?_
         · exact ⟨rfl, rfl, rfl, rfl, rfl, rfl, rfl, rfl, rfl, trivial⟩
         · exact (Sub.refl _)
     ·rcases of_ite h with ⟨hc18, h⟩ | ⟨hc18, h⟩
      ·refine AW.condT' _ rfl hc18 ?_
       refine AW.sr ?_
       refine AO.mv rfl rfl ?_
       refine AO.c (x := .st [(1, (eI64 (1 : Int))), (1, (eI64 (4 : Int))), (1, (eI64 x6))]) (Calm.build (qs := [(0, (eI64 (1 : Int))), (1, (eI64 (4 : Int))), (2, (eI64 x6))]) rfl ⟨rfl, rfl, rfl, rfl, rfl, rfl, rfl, rfl, rfl, trivial⟩ Try.underlying32 rfl zr32 lay32 (.cons rfl rfl rfl rfl (Put.cast (Put.fld0 Put.here) rfl) (.cons rfl rfl rfl rfl (Put.cast (Put.fldS (Put.fld0 Put.here)) rfl) (.cons rfl rfl rfl rfl (Put.cast (Put.fldS (Put.fldS (Put.fld0 Put.here))) rfl) .nil))) rfl) ?_
       refine AO.store (X' := (e32 (S32.mk (1 : Int) (4 : Int) x6))) 1 rfl rfl rfl rfl rfl rfl (Put.cast Put.here rfl) rfl rfl sz32 rfl ?_
       refine AO.nH [2] (H' := [(n3, (.mem (e32 (S32.mk (1 : Int) (4 : Int) x6))))]) (Sub.cons 1 rfl (Sub.nil _)) ?_
       refine AW.rK [2] ?_
       have hr := Option.some.inj h
       subst hr
       exact ⟨[(e32 (S32.mk (1 : Int) (4 : Int) x6))], ⟨⟨_, 0, rfl, rfl, ag32, sz32⟩, trivial⟩, rfl⟩
      ·refine AW.condF' _ rfl hc18 ?_
       refine AW.sK [1, 2, 3, 4, 5, 10, 11, 12] ?_
       refine AW.sr ?_
       refine AO.c (x := .ptr n12 1) (Calm.fldPtr rfl rfl Try.underlying86 rfl sz35 _ rfl) ?_
       refine AO.c (Calm.load 3 rfl rfl rfl (At.cast (At.fldS (At.fld0 At.here)) rfl) ag35 sz35) ?_
       refine AO.c (Calm.lenL rfl rfl Try.underlying35) ?_
       refine AO.mv rfl rfl ?_
       refine AO.nH [1, 2, 3, 4, 10, 11, 12, 38, 39, 40] (H' := [(n2, (.mem (e27 p0))), (n3, (.mem (.st [(1, (eI64 (0 : Int))), (1, (eI64 (0 : Int))), (1, (eI64 (0 : Int)))]))), (n4, (.map (encM (Value.int .i64) eI64 x5)))]) (Sub.cons 0 rfl (Sub.cons 0 rfl (Sub.cons 0 rfl (Sub.nil _)))) ?_
       refine AW.block ?_
       refine AW.wK [1, 2, 3, 4, 10, 11, 12, 38, 39, 40] ?_
       refine AW.loop (fun kq ρ H => ∃ (x19 : (List (Int × Int))) (x20 : Int), ρ = [(1, (.ptr n2 0)), (2, (.ptr n3 0)), (3, (.mp n4)), (4, (eI64 x6)), (10, (.fz 2 (p0.f3.map e86))), (11, (eI64 (p0.f3.length : Int))), (12, (eI64 x6)), (38, (.fz 1 (((lget p0.f3 x6).f1).map eI64))), (39, (eI64 (((lget p0.f3 x6).f1).length : Int))), (40, (eI64 x20))] ∧ H = [(n2, (.mem (e27 p0))), (n3, (.mem (.st [(1, (eI64 (0 : Int))), (1, (eI64 (0 : Int))), (1, (eI64 (0 : Int)))]))), (n4, (.map (encM (Value.int .i64) eI64 x19)))] ∧ F45_l2 k rec7 p0 x6 kq x19 x20 = some r) k ⟨x5, (0 : Int), rfl, rfl, h⟩ ?_
       rintro kq22 _ _ ⟨x19, x20, rfl, rfl, h⟩
       cases kq22 with
       | zero => rw [F45_l2.eq_1] at h; cases h
       | succ kq22 =>
       rw [F45_l2.eq_2] at h
       generalize hrec21 : F45_l2 k rec7 p0 x6 kq22 = rec21 at h
       refine AW.sr ?_
       refine AO.c (x := eBool (decide (x20 < (((lget p0.f3 x6).f1).length : Int)))) (Calm.int rfl rfl rfl rfl) ?_
       refine AO.nK [1, 2, 3, 4, 10, 11, 12, 38, 39, 40, 41] ?_
       refine AW.seq ?_
       rcases of_ite h with ⟨hc23, h⟩ | ⟨hc23, h⟩
       ·refine AW.condP _ rfl hc23 ?_
        refine AW.sK [1, 2, 3, 4, 10, 11, 12, 38, 39, 40] ?_
        refine AW.seq ?_
        refine AW.block ?_
        refine AW.sr ?_
        obtain ⟨hg24, h⟩ := of_guard h
        refine AO.c (Calm.idxL (f := eI64) rfl rfl rfl hg24 Try.underlying35 sz3) ?_
        refine AO.c (Calm.loadRp rfl rfl ag3 sz3) ?_
        refine AO.ag rfl rfl ?_
        refine AO.nK [1, 2, 3, 4, 7, 10, 11, 12, 38, 39, 40] ?_
        refine AW.seq ?_
        refine AW.block ?_
        refine AW.sr ?_
        refine AO.c (Calm.load 0 rfl rfl rfl (At.cast At.here rfl) ag27 sz27) ?_
        refine AO.mv rfl rfl ?_
        refine AO.c (x := .st [(1, (eBool false)), (1, (eI64 (lget ((lget p0.f3 x6).f1) x20)))]) (Calm.build (qs := [(1, (eI64 (lget ((lget p0.f3 x6).f1) x20)))]) rfl ⟨rfl, rfl, rfl, trivial⟩ Try.underlying41 rfl zr41 lay41 (.cons rfl rfl rfl rfl (Put.cast (Put.fldS (Put.fld0 Put.here)) rfl) .nil) rfl) ?_
        obtain ⟨t25, et25, h⟩ := of_bind h
        refine AO.callS [(e27 p0), (e41 (S41.mk false (lget ((lget p0.f3 x6).f1) x20)))] (eBool t25) 48 rfl (by decide) ok16 rfl rfl rfl ⟨rfl, rfl, rfl, rfl, trivial⟩ (F16_spec et25) ?_
        refine AO.c (Calm.not rfl rfl) ?_
        refine AO.ag rfl rfl ?_
        refine AO.nK [1, 2, 3, 4, 7, 10, 11, 12, 38, 39, 40, 44] ?_
        rcases of_ite h with ⟨hc26, h⟩ | ⟨hc26, h⟩
        ·refine AW.condT' _ rfl hc26 ?_
         refine AW.sr ?_
         refine AO.mv rfl rfl ?_
         refine AO.c (x := .st [(1, (eI64 (11 : Int))), (1, (eI64 (4 : Int))), (1, (eI64 x6))]) (Calm.build (qs := [(0, (eI64 (11 : Int))), (1, (eI64 (4 : Int))), (2, (eI64 x6))]) rfl ⟨rfl, rfl, rfl, rfl, rfl, rfl, rfl, rfl, rfl, trivial⟩ Try.underlying32 rfl zr32 lay32 (.cons rfl rfl rfl rfl (Put.cast (Put.fld0 Put.here) rfl) (.cons rfl rfl rfl rfl (Put.cast (Put.fldS (Put.fld0 Put.here)) rfl) (.cons rfl rfl rfl rfl (Put.cast (Put.fldS (Put.fldS (Put.fld0 Put.here))) rfl) .nil))) rfl) ?_
         refine AO.store (X' := (e32 (S32.mk (11 : Int) (4 : Int) x6))) 1 rfl rfl rfl rfl rfl rfl (Put.cast Put.here rfl) rfl rfl sz32 rfl ?_
         refine AO.nH [2] (H' := [(n3, (.mem (e32 (S32.mk (11 : Int) (4 : Int) x6))))]) (Sub.cons 1 rfl (Sub.nil _)) ?_
         refine AW.rK [2] ?_
         have hr := Option.some.inj h
         subst hr
         exact ⟨[(e32 (S32.mk (11 : Int) (4 : Int) x6))], ⟨⟨_, 0, rfl, rfl, ag32, sz32⟩, trivial⟩, rfl⟩
        ·refine AW.condF' _ rfl hc26 ?_
         refine AW.sr ?_
         refine AO.mv rfl rfl ?_
         refine AO.mv rfl rfl ?_
         refine AO.c (x := eI64 ((mget x19 (lget ((lget p0.f3 x6).f1) x20)).getD (0 : Int))) (Calm.look1 (f := eI64) (int_inj (k := .i64)) (int_key (k := .i64)) (0 : Int) 2 rfl rfl rfl rfl Try.underlying114 Try.underlying3 mz3 rfl rfl) ?_
         refine AO.c (x := eBool (decide ((0 : Int) < ((mget x19 (lget ((lget p0.f3 x6).f1) x20)).getD (0 : Int))))) (Calm.int rfl rfl rfl rfl) ?_
         refine AO.ag rfl rfl ?_
         refine AO.nK [1, 2, 3, 4, 7, 10, 11, 12, 38, 39, 40, 52] ?_
         rcases of_ite h with ⟨hc27, h⟩ | ⟨hc27, h⟩
         ·refine AW.condP _ rfl hc27 ?_
          refine AW.sr ?_
          refine AO.mv rfl rfl ?_
          refine AO.c (x := .st [(1, (eI64 (9 : Int))), (1, (eI64 (4 : Int))), (1, (eI64 x6))]) (Calm.build (qs := [(0, (eI64 (9 : Int))), (1, (eI64 (4 : Int))), (2, (eI64 x6))]) rfl ⟨rfl, rfl, rfl, rfl, rfl, rfl, rfl, rfl, rfl, trivial⟩ Try.underlying32 rfl zr32 lay32 (.cons rfl rfl rfl rfl (Put.cast (Put.fld0 Put.here) rfl) (.cons rfl rfl rfl rfl (Put.cast (Put.fldS (Put.fld0 Put.here)) rfl) (.cons rfl rfl rfl rfl (Put.cast (Put.fldS (Put.fldS (Put.fld0 Put.here))) rfl) .nil))) rfl) ?_
          refine AO.store (X' := (e32 (S32.mk (9 : Int) (4 : Int) x6))) 1 rfl rfl rfl rfl rfl rfl (Put.cast Put.here rfl) rfl rfl sz32 rfl ?_
          refine AO.nH [2] (H' := [(n3, (.mem (e32 (S32.mk (9 : Int) (4 : Int) x6))))]) (Sub.cons 1 rfl (Sub.nil _)) ?_
          refine AW.rK [2] ?_
          have hr := Option.some.inj h
          subst hr
          exact ⟨[(e32 (S32.mk (9 : Int) (4 : Int) x6))], ⟨⟨_, 0, rfl, rfl, ag32, sz32⟩, trivial⟩, rfl⟩
         ·refine AW.condN _ rfl hc27 ?_
          refine AW.sK [1, 2, 3, 4, 7, 10, 11, 12, 38, 39, 40] ?_
          refine AW.reg ?_
          refine AO.mv rfl rfl ?_
          refine AO.mv rfl rfl ?_
          refine AO.c (x := eI64 ((mget x19 (lget ((lget p0.f3 x6).f1) x20)).getD (0 : Int))) (Calm.look1 (f := eI64) (int_inj (k := .i64)) (int_key (k := .i64)) (0 : Int) 2 rfl rfl rfl rfl Try.underlying114 Try.underlying3 mz3 rfl rfl) ?_
          refine AO.c (x := eI64 (w64 (((mget x19 (lget ((lget p0.f3 x6).f1) x20)).getD (0 : Int)) + (1 : Int)))) (Calm.int rfl rfl rfl rfl) ?_
          refine AO.mapPut (f := eI64) (int_inj (k := .i64)) (int_key (k := .i64)) 2 rfl rfl rfl rfl rfl rfl rfl rfl Try.underlying114 Try.underlying3 ?_
          refine AO.nK [1, 2, 3, 4, 10, 11, 12, 38, 39, 40] ?_
          refine AW.reg ?_
          refine AO.c (x := eI64 (w64 (x20 + (1 : Int)))) (Calm.int rfl rfl rfl rfl) ?_
          refine AO.mv rfl rfl ?_
          refine AO.nK [1, 2, 3, 4, 10, 11, 12, 38, 39, 40] ?_
          exact ⟨kq22, Nat.lt_succ_self _, (mput x19 (lget ((lget p0.f3 x6).f1) x20) (w64 (((mget x19 (lget ((lget p0.f3 x6).f1) x20)).getD (0 : Int)) + (1 : Int)))), (w64 (x20 + (1 : Int))), rfl, rfl, by rw [hrec21]; exact h⟩
       ·refine AW.condN _ rfl hc23 ?_
        refine AW.eK [1, 2, 3, 10, 11, 12] ?_
        exact ⟨x19, rfl, rfl, h⟩
    ·rintro _ _ ⟨x10, rfl, rfl, h⟩
     rw [F45_c1.eq_1] at h
     refine AW.reg ?_
     refine AO.c (x := eI64 (w64 (x6 + (1 : Int)))) (Calm.int rfl rfl rfl rfl) ?_
     refine AO.mv rfl rfl ?_
     refine AO.nK [1, 2, 3, 10, 11, 12] ?_
     exact ⟨kq8, Nat.lt_succ_self _, x10, (w64 (x6 + (1 : Int))), rfl, rfl, by rw [hrec7]; exact h⟩
   ·refine AW.condN _ rfl hc9 ?_
    refine AW.eH [2] (H' := [(n3, (.mem (.st [(1, (eI64 (0 : Int))), (1, (eI64 (0 : Int))), (1, (eI64 (0 : Int)))])))]) (Sub.cons 1 rfl (Sub.nil _)) ?_
    exact ⟨rfl, rfl, h⟩
  ·rintro _ _ ⟨rfl, rfl, h⟩
   rw [F45_c0.eq_1] at h
   refine AW.sr ?_
   refine AO.c (x := .st [(1, (eI64 (0 : Int))), (1, (eI64 (0 : Int))), (1, (eI64 (0 : Int)))]) (Calm.build (qs := []) rfl trivial Try.underlying32 rfl zr32 lay32 .nil rfl) ?_
   refine AO.store (X' := (e32 (S32.mk (0 : Int) (0 : Int) (0 : Int)))) 0 rfl rfl rfl rfl rfl rfl (Put.cast Put.here rfl) rfl rfl sz32 rfl ?_
   refine AO.nK [2] ?_
   refine AW.rK [2] ?_
   have hr := Option.some.inj h
   subst hr
   exact ⟨[(e32 (S32.mk (0 : Int) (0 : Int) (0 : Int)))], ⟨⟨_, 0, rfl, rfl, ag32, sz32⟩, trivial⟩, rfl⟩
end Go.Avl.T7
/- bosket/gram.Check; printed by avmain.py. -/
namespace Go.Avl.T7
open Go Go.RowKit Go.Proofs Go.Avl
set_option linter.unusedVariables false
set_option maxRecDepth 100000
set_option maxHeartbeats 4000000
attribute [local irreducible] AW AO AQ Spec SpecH Calm

def F11_c0 (k : Nat) (p0 : S27) : Option S32 :=
  (F45 k p0).bind fun t10 =>
  if t10.f0 ≠ (0 : Int) then some (t10)
  else Option.bind (α := Bool) (if p0.f4 < (0 : Int) then some (true)
  else some (decide ((p0.f1.length : Int) ≤ p0.f4))) fun b13 =>
  if b13 = true then some ((S32.mk (11 : Int) (5 : Int) (0 : Int)))
  else some ((S32.mk (0 : Int) (0 : Int) (0 : Int)))
def F11_l1 (k : Nat) (p0 : S27) : Nat → Int → Option S32
  | 0, _ => none
  | j + 1, x17 =>
    if x17 < (p0.f2.length : Int) then (F44 k p0 x17).bind fun t21 =>
    if t21 ≠ (0 : Int) then some ((S32.mk t21 (3 : Int) x17))
    else (F11_l1 k p0 j) (w64 (x17 + (1 : Int)))
    else F11_c0 k p0
def F11 (k : Nat) (p0 : S27) : Option S32 :=
  (F39 k p0.f0).bind fun t4 =>
  if t4.2 ≠ (0 : Int) then some ((S32.mk t4.2 (1 : Int) t4.1))
  else (F43 k p0).bind fun t6 =>
  if t6.f0 ≠ (0 : Int) then some (t6)
  else if (200 : Int) < (p0.f2.length : Int) then some ((S32.mk (6 : Int) (3 : Int) (p0.f2.length : Int)))
  else F11_l1 k p0 k (0 : Int)
theorem F11_spec {k : Nat} {p0 : S27} {r : S32} (h : F11 k p0 = some r) : Spec Try.prog 11 [(e27 p0)] (e32 r) := by
  rw [F11.eq_1] at h
  refine Spec.intro (res := [.cell 2 32]) Try.func11 rfl rfl rfl (Nat.le_of_ble_eq_true rfl) ?_
  refine AW.sr ?_
  refine AO.box rfl 1 rfl (by decide) rfl rfl rfl fun n2 => ?_
  refine AO.alloc rfl 2 rfl (by decide) rfl zr32 lay32 fun n3 => ?_
  refine AO.nH [1, 2] (H' := [(n2, (.mem (e27 p0))), (n3, (.mem (.st [(1, (eI64 (0 : Int))), (1, (eI64 (0 : Int))), (1, (eI64 (0 : Int)))])))]) (Sub.cons 1 rfl (Sub.cons 0 rfl (Sub.nil _))) ?_
  refine AW.seq ?_
  refine AW.sr ?_
  refine AO.c (x := .ptr n2 0) (Calm.fldPtr rfl rfl Try.underlying27 rfl sz22 _ rfl) ?_
  refine AO.c (Calm.load 0 rfl rfl rfl (At.cast (At.fld0 At.here) rfl) ag22 sz22) ?_
  obtain ⟨t4, et4, h⟩ := of_bind h
  refine AO.callS [(.fz 3 (p0.f0.map e82))] (.tup [(eI64 t4.1), (eI64 t4.2)]) 12 rfl (by decide) ok39 rfl rfl rfl ⟨rfl, rfl, trivial⟩ (F39_spec et4) ?_
  refine AO.mv rfl rfl ?_
  refine AO.c (Calm.extract rfl rfl rfl) ?_
  refine AO.c (Calm.extract rfl rfl rfl) ?_
  refine AO.ag rfl rfl ?_
  refine AO.ag rfl rfl ?_
  refine AO.nK [1, 2, 3, 4] ?_
  refine AW.sr ?_
  refine AO.mv rfl rfl ?_
  refine AO.c (x := eBool (decide (t4.2 ≠ (0 : Int)))) (Calm.int rfl rfl rfl rfl) ?_
  refine AO.nK [1, 2, 3, 4, 16] ?_
  rcases of_ite h with ⟨hc5, h⟩ | ⟨hc5, h⟩
  ·refine AW.condP _ rfl hc5 ?_
   refine AW.sr ?_
   refine AO.mv rfl rfl ?_
   refine AO.mv rfl rfl ?_
   refine AO.c (x := .st [(1, (eI64 t4.2)), (1, (eI64 (1 : Int))), (1, (eI64 t4.1))]) (Calm.build (qs := [(0, (eI64 t4.2)), (1, (eI64 (1 : Int))), (2, (eI64 t4.1))]) rfl ⟨rfl, rfl, rfl, rfl, rfl, rfl, rfl, rfl, rfl, trivial⟩ Try.underlying32 rfl zr32 lay32 (.cons rfl rfl rfl rfl (Put.cast (Put.fld0 Put.here) rfl) (.cons rfl rfl rfl rfl (Put.cast (Put.fldS (Put.fld0 Put.here)) rfl) (.cons rfl rfl rfl rfl (Put.cast (Put.fldS (Put.fldS (Put.fld0 Put.here))) rfl) .nil))) rfl) ?_
   refine AO.store (X' := (e32 (S32.mk t4.2 (1 : Int) t4.1))) 1 rfl rfl rfl rfl rfl rfl (Put.cast Put.here rfl) rfl rfl sz32 rfl ?_
   refine AO.nH [2] (H' := [(n3, (.mem (e32 (S32.mk t4.2 (1 : Int) t4.1))))]) (Sub.cons 1 rfl (Sub.nil _)) ?_
   refine AW.rK [2] ?_
   have hr := Option.some.inj h
   subst hr
   exact ⟨[(e32 (S32.mk t4.2 (1 : Int) t4.1))], ⟨⟨_, 0, rfl, rfl, ag32, sz32⟩, trivial⟩, rfl⟩
  ·refine AW.condN _ rfl hc5 ?_
   refine AW.sK [1, 2] ?_
   refine AW.seq ?_
   refine AW.sr ?_
   refine AO.c (Calm.load 0 rfl rfl rfl (At.cast At.here rfl) ag27 sz27) ?_
   obtain ⟨t6, et6, h⟩ := of_bind h
   refine AO.callS [(e27 p0)] (e32 t6) 21 rfl (by decide) ok43 rfl rfl rfl ⟨rfl, rfl, trivial⟩ (F43_spec et6) ?_
   refine AO.alloc rfl 5 rfl (by decide) rfl zr32 lay32 fun n7 => ?_
   refine AO.store (X' := (e32 t6)) 0 rfl rfl rfl rfl rfl rfl (Put.cast Put.here rfl) rfl rfl sz32 rfl ?_
   refine AO.nH [1, 2, 5] (H' := [(n2, (.mem (e27 p0))), (n3, (.mem (.st [(1, (eI64 (0 : Int))), (1, (eI64 (0 : Int))), (1, (eI64 (0 : Int)))]))), (n7, (.mem (e32 t6)))]) (Sub.cons 1 rfl (Sub.cons 1 rfl (Sub.cons 0 rfl (Sub.nil _)))) ?_
   refine AW.sr ?_
   refine AO.c (x := .ptr n7 0) (Calm.fldPtr rfl rfl Try.underlying32 rfl sz30 _ rfl) ?_
   refine AO.c (Calm.load 2 rfl rfl rfl (At.cast (At.fld0 At.here) rfl) ag30 sz30) ?_
   refine AO.c (x := eBool (decide (t6.f0 ≠ (0 : Int)))) (Calm.int rfl rfl rfl rfl) ?_
   refine AO.nK [1, 2, 5, 24] ?_
   rcases of_ite h with ⟨hc8, h⟩ | ⟨hc8, h⟩
   ·refine AW.condP _ rfl hc8 ?_
    refine AW.sr ?_
    refine AO.c (Calm.load 2 rfl rfl rfl (At.cast At.here rfl) ag32 sz32) ?_
    refine AO.store (X' := (e32 t6)) 1 rfl rfl rfl rfl rfl rfl (Put.cast Put.here rfl) rfl rfl sz32 rfl ?_
    refine AO.nH [2] (H' := [(n3, (.mem (e32 t6)))]) (Sub.cons 1 rfl (Sub.nil _)) ?_
    refine AW.rK [2] ?_
    have hr := Option.some.inj h
    subst hr
    exact ⟨[(e32 t6)], ⟨⟨_, 0, rfl, rfl, ag32, sz32⟩, trivial⟩, rfl⟩
   ·refine AW.condN _ rfl hc8 ?_
    refine AW.sH [1, 2] (H' := [(n2, (.mem (e27 p0))), (n3, (.mem (.st [(1, (eI64 (0 : Int))), (1, (eI64 (0 : Int))), (1, (eI64 (0 : Int)))])))]) (Sub.cons 0 rfl (Sub.cons 0 rfl (Sub.nil _))) ?_
    refine AW.seq ?_
    refine AW.sr ?_
    refine AO.c (x := .ptr n2 2) (Calm.fldPtr rfl rfl Try.underlying27 rfl sz24 _ rfl) ?_
    refine AO.c (Calm.load 0 rfl rfl rfl (At.cast (At.fldS (At.fldS (At.fld0 At.here))) rfl) ag24 sz24) ?_
    refine AO.c (Calm.lenL rfl rfl Try.underlying24) ?_
    refine AO.c (x := eBool (decide ((200 : Int) < (p0.f2.length : Int)))) (Calm.int rfl rfl rfl rfl) ?_
    refine AO.nK [1, 2, 29] ?_
    rcases of_ite h with ⟨hc9, h⟩ | ⟨hc9, h⟩
    ·refine AW.condP _ rfl hc9 ?_
     refine AW.sr ?_
     refine AO.c (x := .ptr n2 2) (Calm.fldPtr rfl rfl Try.underlying27 rfl sz24 _ rfl) ?_
     refine AO.c (Calm.load 0 rfl rfl rfl (At.cast (At.fldS (At.fldS (At.fld0 At.here))) rfl) ag24 sz24) ?_
     refine AO.c (Calm.lenL rfl rfl Try.underlying24) ?_
     refine AO.c (x := .st [(1, (eI64 (6 : Int))), (1, (eI64 (3 : Int))), (1, (eI64 (p0.f2.length : Int)))]) (Calm.build (qs := [(0, (eI64 (6 : Int))), (1, (eI64 (3 : Int))), (2, (eI64 (p0.f2.length : Int)))]) rfl ⟨rfl, rfl, rfl, rfl, rfl, rfl, rfl, rfl, rfl, trivial⟩ Try.underlying32 rfl zr32 lay32 (.cons rfl rfl rfl rfl (Put.cast (Put.fld0 Put.here) rfl) (.cons rfl rfl rfl rfl (Put.cast (Put.fldS (Put.fld0 Put.here)) rfl) (.cons rfl rfl rfl rfl (Put.cast (Put.fldS (Put.fldS (Put.fld0 Put.here))) rfl) .nil))) rfl) ?_
     refine AO.store (X' := (e32 (S32.mk (6 : Int) (3 : Int) (p0.f2.length : Int)))) 1 rfl rfl rfl rfl rfl rfl (Put.cast Put.here rfl) rfl rfl sz32 rfl ?_
     refine AO.nH [2] (H' := [(n3, (.mem (e32 (S32.mk (6 : Int) (3 : Int) (p0.f2.length : Int)))))]) (Sub.cons 1 rfl (Sub.nil _)) ?_
     refine AW.rK [2] ?_
     have hr := Option.some.inj h
     subst hr
     exact ⟨[(e32 (S32.mk (6 : Int) (3 : Int) (p0.f2.length : Int)))], ⟨⟨_, 0, rfl, rfl, ag32, sz32⟩, trivial⟩, rfl⟩
    ·refine AW.condN _ rfl hc9 ?_
     refine AW.sK [1, 2] ?_
     refine AW.seq_mid (fun ρ H => ρ = [(1, (.ptr n2 0)), (2, (.ptr n3 0))] ∧ H = [(n2, (.mem (e27 p0))), (n3, (.mem (.st [(1, (eI64 (0 : Int))), (1, (eI64 (0 : Int))), (1, (eI64 (0 : Int)))])))] ∧ F11_c0 k p0 = some r) ?_ ?_
     ·refine AW.sr ?_
      refine AO.c (x := .ptr n2 2) (Calm.fldPtr rfl rfl Try.underlying27 rfl sz24 _ rfl) ?_
      refine AO.c (Calm.load 0 rfl rfl rfl (At.cast (At.fldS (At.fldS (At.fld0 At.here))) rfl) ag24 sz24) ?_
      refine AO.c (Calm.lenL rfl rfl Try.underlying24) ?_
      refine AO.mv rfl rfl ?_
      refine AO.nK [1, 2, 36, 37] ?_
      refine AW.block ?_
      refine AW.wK [1, 2, 36, 37] ?_
      refine AW.loop (fun kq ρ H => ∃ (x17 : Int), ρ = [(1, (.ptr n2 0)), (2, (.ptr n3 0)), (36, (eI64 (p0.f2.length : Int))), (37, (eI64 x17))] ∧ H = [(n2, (.mem (e27 p0))), (n3, (.mem (.st [(1, (eI64 (0 : Int))), (1, (eI64 (0 : Int))), (1, (eI64 (0 : Int)))])))] ∧ F11_l1 k p0 kq x17 = some r) k ⟨(0 : Int), rfl, rfl, h⟩ ?_
      rintro kq19 _ _ ⟨x17, rfl, rfl, h⟩
      cases kq19 with
      | zero => rw [F11_l1.eq_1] at h; cases h
      | succ kq19 =>
      rw [F11_l1.eq_2] at h
      generalize hrec18 : F11_l1 k p0 kq19 = rec18 at h
      refine AW.sr ?_
      refine AO.c (x := eBool (decide (x17 < (p0.f2.length : Int)))) (Calm.int rfl rfl rfl rfl) ?_
      refine AO.nK [1, 2, 36, 37, 38] ?_
      refine AW.seq ?_
      rcases of_ite h with ⟨hc20, h⟩ | ⟨hc20, h⟩
      ·refine AW.condP _ rfl hc20 ?_
       refine AW.sK [1, 2, 36, 37] ?_
       refine AW.seq ?_
       refine AW.block ?_
       refine AW.sr ?_
       refine AO.mv rfl rfl ?_
       refine AO.ag rfl rfl ?_
       refine AO.nK [1, 2, 6, 36, 37] ?_
       refine AW.sr ?_
       refine AO.c (Calm.load 0 rfl rfl rfl (At.cast At.here rfl) ag27 sz27) ?_
       refine AO.mv rfl rfl ?_
       obtain ⟨t21, et21, h⟩ := of_bind h
       refine AO.callS [(e27 p0), (eI64 x17)] (eI64 t21) 42 rfl (by decide) ok44 rfl rfl rfl ⟨rfl, rfl, rfl, rfl, trivial⟩ (F44_spec et21) ?_
       refine AO.ag rfl rfl ?_
       refine AO.nK [1, 2, 6, 7, 36, 37] ?_
       refine AW.sr ?_
       refine AO.mv rfl rfl ?_
       refine AO.c (x := eBool (decide (t21 ≠ (0 : Int)))) (Calm.int rfl rfl rfl rfl) ?_
       refine AO.nK [1, 2, 6, 7, 36, 37, 44] ?_
       rcases of_ite h with ⟨hc22, h⟩ | ⟨hc22, h⟩
       ·refine AW.condP _ rfl hc22 ?_
        refine AW.sr ?_
        refine AO.mv rfl rfl ?_
        refine AO.mv rfl rfl ?_
        refine AO.c (x := .st [(1, (eI64 t21)), (1, (eI64 (3 : Int))), (1, (eI64 x17))]) (Calm.build (qs := [(0, (eI64 t21)), (1, (eI64 (3 : Int))), (2, (eI64 x17))]) rfl ⟨rfl, rfl, rfl, rfl, rfl, rfl, rfl, rfl, rfl, trivial⟩ Try.underlying32 rfl zr32 lay32 (.cons rfl rfl rfl rfl (Put.cast (Put.fld0 Put.here) rfl) (.cons rfl rfl rfl rfl (Put.cast (Put.fldS (Put.fld0 Put.here)) rfl) (.cons rfl rfl rfl rfl (Put.cast (Put.fldS (Put.fldS (Put.fld0 Put.here))) rfl) .nil))) rfl) ?_
        refine AO.store (X' := (e32 (S32.mk t21 (3 : Int) x17))) 1 rfl rfl rfl rfl rfl rfl (Put.cast Put.here rfl) rfl rfl sz32 rfl ?_
        refine AO.nH [2] (H' := [(n3, (.mem (e32 (S32.mk t21 (3 : Int) x17))))]) (Sub.cons 1 rfl (Sub.nil _)) ?_
        refine AW.rK [2] ?_
        have hr := Option.some.inj h
        subst hr
        exact ⟨[(e32 (S32.mk t21 (3 : Int) x17))], ⟨⟨_, 0, rfl, rfl, ag32, sz32⟩, trivial⟩, rfl⟩
       ·refine AW.condN _ rfl hc22 ?_
        refine AW.sK [1, 2, 36, 37] ?_
        refine AW.reg ?_
        refine AO.c (x := eI64 (w64 (x17 + (1 : Int)))) (Calm.int rfl rfl rfl rfl) ?_
        refine AO.mv rfl rfl ?_
        refine AO.nK [1, 2, 36, 37] ?_
        exact ⟨kq19, Nat.lt_succ_self _, (w64 (x17 + (1 : Int))), rfl, rfl, by rw [hrec18]; exact h⟩
      ·refine AW.condN _ rfl hc20 ?_
       refine AW.eK [1, 2] ?_
       exact ⟨rfl, rfl, h⟩
     ·rintro _ _ ⟨rfl, rfl, h⟩
      rw [F11_c0.eq_1] at h
      refine AW.seq ?_
      refine AW.sr ?_
      refine AO.c (Calm.load 0 rfl rfl rfl (At.cast At.here rfl) ag27 sz27) ?_
      obtain ⟨t10, et10, h⟩ := of_bind h
      refine AO.callS [(e27 p0)] (e32 t10) 50 rfl (by decide) ok45 rfl rfl rfl ⟨rfl, rfl, trivial⟩ (F45_spec et10) ?_
      refine AO.alloc rfl 8 rfl (by decide) rfl zr32 lay32 fun n11 => ?_
      refine AO.store (X' := (e32 t10)) 0 rfl rfl rfl rfl rfl rfl (Put.cast Put.here rfl) rfl rfl sz32 rfl ?_
      refine AO.nH [1, 2, 8] (H' := [(n2, (.mem (e27 p0))), (n3, (.mem (.st [(1, (eI64 (0 : Int))), (1, (eI64 (0 : Int))), (1, (eI64 (0 : Int)))]))), (n11, (.mem (e32 t10)))]) (Sub.cons 1 rfl (Sub.cons 1 rfl (Sub.cons 0 rfl (Sub.nil _)))) ?_
      refine AW.sr ?_
      refine AO.c (x := .ptr n11 0) (Calm.fldPtr rfl rfl Try.underlying32 rfl sz30 _ rfl) ?_
      refine AO.c (Calm.load 2 rfl rfl rfl (At.cast (At.fld0 At.here) rfl) ag30 sz30) ?_
      refine AO.c (x := eBool (decide (t10.f0 ≠ (0 : Int)))) (Calm.int rfl rfl rfl rfl) ?_
      refine AO.nK [1, 2, 8, 53] ?_
      rcases of_ite h with ⟨hc12, h⟩ | ⟨hc12, h⟩
      ·refine AW.condP _ rfl hc12 ?_
       refine AW.sr ?_
       refine AO.c (Calm.load 2 rfl rfl rfl (At.cast At.here rfl) ag32 sz32) ?_
       refine AO.store (X' := (e32 t10)) 1 rfl rfl rfl rfl rfl rfl (Put.cast Put.here rfl) rfl rfl sz32 rfl ?_
       refine AO.nH [2] (H' := [(n3, (.mem (e32 t10)))]) (Sub.cons 1 rfl (Sub.nil _)) ?_
       refine AW.rK [2] ?_
       have hr := Option.some.inj h
       subst hr
       exact ⟨[(e32 t10)], ⟨⟨_, 0, rfl, rfl, ag32, sz32⟩, trivial⟩, rfl⟩
      ·refine AW.condN _ rfl hc12 ?_
       refine AW.sH [1, 2] (H' := [(n2, (.mem (e27 p0))), (n3, (.mem (.st [(1, (eI64 (0 : Int))), (1, (eI64 (0 : Int))), (1, (eI64 (0 : Int)))])))]) (Sub.cons 0 rfl (Sub.cons 0 rfl (Sub.nil _))) ?_
       refine AW.seq ?_
       refine AW.seq ?_
       obtain ⟨b13, hq14, h⟩ := of_bind h
       refine AW.regM [(2, (.ptr n3 0)), (65, (eBool b13))] [(n3, (.mem (.st [(1, (eI64 (0 : Int))), (1, (eI64 (0 : Int))), (1, (eI64 (0 : Int)))])))] ?_ ?_
       ·refine AO.c (x := .ptr n2 4) (Calm.fldPtr rfl rfl Try.underlying27 rfl sz3 _ rfl) ?_
        refine AO.c (Calm.load 0 rfl rfl rfl (At.cast (At.fldS (At.fldS (At.fldS (At.fldS (At.fld0 At.here))))) rfl) ag3 sz3) ?_
        refine AO.c (x := eBool (decide (p0.f4 < (0 : Int)))) (Calm.int rfl rfl rfl rfl) ?_
        refine AO.mv rfl rfl ?_
        rcases of_ite hq14 with ⟨hc15, hq14⟩ | ⟨hc15, hq14⟩
        ·refine AO.sF rfl rfl (bD (decide_eq_true hc15)) ?_
         refine AO.sF rfl rfl (bD (decide_eq_true hc15)) ?_
         refine AO.sF rfl rfl (bD (decide_eq_true hc15)) ?_
         refine AO.sF rfl rfl (bD (decide_eq_true hc15)) ?_
         refine AO.sF rfl rfl (bD (decide_eq_true hc15)) ?_
         refine AO.sF rfl rfl (bD (decide_eq_true hc15)) ?_
         refine AO.c (Calm.pickT rfl (bD (decide_eq_true hc15)) rfl) ?_
         cases hq14
         refine AO.nilE ⟨rfl, rfl⟩ ?_ ?_
         · exact ⟨rfl, rfl, trivial⟩
         · exact (Sub.cons 1 rfl (Sub.nil _))
        ·refine AO.cG (x := .ptr n2 4) rfl rfl (bD (decide_eq_false hc15)) (Calm.fldPtr rfl rfl Try.underlying27 rfl sz3 _ rfl) ?_
         refine AO.cG rfl rfl (bD (decide_eq_false hc15)) (Calm.load 0 rfl rfl rfl (At.cast (At.fldS (At.fldS (At.fldS (At.fldS (At.fld0 At.here))))) rfl) ag3 sz3) ?_
         refine AO.cG (x := .ptr n2 1) rfl rfl (bD (decide_eq_false hc15)) (Calm.fldPtr rfl rfl Try.underlying27 rfl sz23 _ rfl) ?_
         refine AO.cG rfl rfl (bD (decide_eq_false hc15)) (Calm.load 0 rfl rfl rfl (At.cast (At.fldS (At.fld0 At.here)) rfl) ag23 sz23) ?_
         refine AO.cG rfl rfl (bD (decide_eq_false hc15)) (Calm.lenL rfl rfl Try.underlying23) ?_
         refine AO.cG (x := eBool (decide ((p0.f1.length : Int) ≤ p0.f4))) rfl rfl (bD (decide_eq_false hc15)) (Calm.int rfl rfl rfl rfl) ?_
         refine AO.c (Calm.pickF rfl (bD (decide_eq_false hc15)) rfl) ?_
         cases hq14
         refine AO.nilE ⟨rfl, rfl⟩ ?_ ?_
         · exact ⟨rfl, rfl, trivial⟩
         · exact (Sub.cons 1 rfl (Sub.nil _))
       ·rcases of_ite h with ⟨hc16, h⟩ | ⟨hc16, h⟩
        ·refine AW.condT' _ rfl hc16 ?_
         refine AW.sr ?_
         refine AO.c (x := .st [(1, (eI64 (11 : Int))), (1, (eI64 (5 : Int))), (1, (eI64 (0 : Int)))]) (Calm.build (qs := [(0, (eI64 (11 : Int))), (1, (eI64 (5 : Int)))]) rfl ⟨rfl, rfl, rfl, rfl, rfl, rfl, trivial⟩ Try.underlying32 rfl zr32 lay32 (.cons rfl rfl rfl rfl (Put.cast (Put.fld0 Put.here) rfl) (.cons rfl rfl rfl rfl (Put.cast (Put.fldS (Put.fld0 Put.here)) rfl) .nil)) rfl) ?_
         refine AO.store (X' := (e32 (S32.mk (11 : Int) (5 : Int) (0 : Int)))) 0 rfl rfl rfl rfl rfl rfl (Put.cast Put.here rfl) rfl rfl sz32 rfl ?_
         refine AO.nK [2] ?_
         refine AW.rK [2] ?_
         have hr := Option.some.inj h
         subst hr
         exact ⟨[(e32 (S32.mk (11 : Int) (5 : Int) (0 : Int)))], ⟨⟨_, 0, rfl, rfl, ag32, sz32⟩, trivial⟩, rfl⟩
        ·refine AW.condF' _ rfl hc16 ?_
         refine AW.sK [2] ?_
         refine AW.sr ?_
         refine AO.c (x := .st [(1, (eI64 (0 : Int))), (1, (eI64 (0 : Int))), (1, (eI64 (0 : Int)))]) (Calm.build (qs := []) rfl trivial Try.underlying32 rfl zr32 lay32 .nil rfl) ?_
         refine AO.store (X' := (e32 (S32.mk (0 : Int) (0 : Int) (0 : Int)))) 0 rfl rfl rfl rfl rfl rfl (Put.cast Put.here rfl) rfl rfl sz32 rfl ?_
         refine AO.nK [2] ?_
         refine AW.rK [2] ?_
         have hr := Option.some.inj h
         subst hr
         exact ⟨[(e32 (S32.mk (0 : Int) (0 : Int) (0 : Int)))], ⟨⟨_, 0, rfl, rfl, ag32, sz32⟩, trivial⟩, rfl⟩
end Go.Avl.T7
