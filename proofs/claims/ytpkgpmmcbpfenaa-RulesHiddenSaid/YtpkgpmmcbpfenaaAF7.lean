/- Parts: T7f67, T7f39, T7f75, T7f101, T7f102, T7f78, T7f103, T7f104. -/
import Derived.Test.YtpkgpmmcbpfenaaAF1
import Derived.Test.YtpkgpmmcbpfenaaAF6
/- bosket/rules.one; printed by avmain.py. -/
namespace Go.Avl.T7
open Go Go.RowKit Go.Proofs Go.Avl
set_option linter.unusedVariables false
set_option maxRecDepth 100000
set_option maxHeartbeats 4000000
attribute [local irreducible] AW AO AQ Spec SpecH Calm

def F67 (k : Nat) (p0 : S82) (p1 : (List (ByteArray × Int))) : Option Int :=
  (F69 k p0.f0).bind fun t4 =>
  if (!t4) = true then some ((8 : Int))
  else if (0 : Int) < ((mget p1 p0.f0).getD (0 : Int)) then some ((9 : Int))
  else Option.bind (α := Bool) (if p0.f1 < (0 : Int) then some (true)
  else some (decide ((2 : Int) < p0.f1))) fun b7 =>
  if b7 = true then some ((1 : Int))
  else (F62 k p0.f2).bind fun t11 =>
  if t11.2 ≠ (0 : Int) then some (t11.2)
  else (F89 k t11.1 (ByteArray.mk #[])).bind fun t14 =>
  if (0 : Int) ≤ t14 then some ((14 : Int))
  else some ((0 : Int))
theorem F67_spec {k : Nat} {p0 : S82} {p1 : (List (ByteArray × Int))} {r : Int} (h : F67 k p0 p1 = some r) {q1 : Nat} {T0 : Heap} : SpecH Try.prog 67 [(e82 p0), (.mp q1)] ((q1, (.map (encM Value.string eI64 p1))) :: T0) (fun x H' => x = eI64 r ∧ Sub ((q1, (.map (encM Value.string eI64 p1))) :: T0) H') := by
  rw [F67.eq_1] at h
  refine SpecH.intro (res := [.tmp 4]) Try.func67 rfl rfl rfl (Nat.le_of_ble_eq_true rfl) ?_
  refine AW.sr ?_
  refine AO.box rfl 2 rfl (by decide) rfl rfl rfl fun n3 => ?_
  refine AO.ag rfl rfl ?_
  refine AO.nH [1, 2] (H' := ((q1, (.map (encM Value.string eI64 p1))) :: (n3, (.mem (e82 p0))) :: T0)) (Sub.cons 1 rfl (Sub.cons 0 rfl (Sub.refl _))) ?_
  refine AW.seq ?_
  refine AW.block ?_
  refine AW.sr ?_
  refine AO.c (x := .ptr n3 0) (Calm.fldPtr rfl rfl Try.underlying82 rfl sz9 _ rfl) ?_
  refine AO.c (Calm.load 1 rfl rfl rfl (At.cast (At.fld0 At.here) rfl) ag9 sz9) ?_
  obtain ⟨t4, et4, h⟩ := of_bind h
  refine AO.callS [(eStr p0.f0)] (eBool t4) 10 rfl (by decide) ok69 rfl rfl rfl ⟨rfl, rfl, trivial⟩ (F69_spec et4) ?_
  refine AO.c (Calm.not rfl rfl) ?_
  refine AO.ag rfl rfl ?_
  refine AO.nK [1, 2, 7] ?_
  rcases of_ite h with ⟨hc5, h⟩ | ⟨hc5, h⟩
  ·refine AW.condT' _ rfl hc5 ?_
   refine AW.sr ?_
   refine AO.ag rfl rfl ?_
   refine AO.nH [4] (H' := ((q1, (.map (encM Value.string eI64 p1))) :: T0)) (Sub.cons 0 rfl (Sub.drop (Sub.refl _))) ?_
   refine AW.rK [4] ?_
   have hr := Option.some.inj h
   subst hr
   exact ⟨[(eI64 (8 : Int))], ⟨rfl, rfl, trivial⟩, rfl, (Sub.cons 0 rfl (Sub.refl _))⟩
  ·refine AW.condF' _ rfl hc5 ?_
   refine AW.sr ?_
   refine AO.mv rfl rfl ?_
   refine AO.c (x := .ptr n3 0) (Calm.fldPtr rfl rfl Try.underlying82 rfl sz9 _ rfl) ?_
   refine AO.c (Calm.load 1 rfl rfl rfl (At.cast (At.fld0 At.here) rfl) ag9 sz9) ?_
   refine AO.c (x := eI64 ((mget p1 p0.f0).getD (0 : Int))) (Calm.look1 (f := eI64) string_inj string_key (0 : Int) 0 rfl rfl rfl rfl Try.underlying109 Try.underlying9 mz3 rfl rfl) ?_
   refine AO.c (x := eBool (decide ((0 : Int) < ((mget p1 p0.f0).getD (0 : Int))))) (Calm.int rfl rfl rfl rfl) ?_
   refine AO.ag rfl rfl ?_
   refine AO.nK [2, 12] ?_
   rcases of_ite h with ⟨hc6, h⟩ | ⟨hc6, h⟩
   ·refine AW.condP _ rfl hc6 ?_
    refine AW.sr ?_
    refine AO.ag rfl rfl ?_
    refine AO.nH [4] (H' := ((q1, (.map (encM Value.string eI64 p1))) :: T0)) (Sub.cons 0 rfl (Sub.drop (Sub.refl _))) ?_
    refine AW.rK [4] ?_
    have hr := Option.some.inj h
    subst hr
    exact ⟨[(eI64 (9 : Int))], ⟨rfl, rfl, trivial⟩, rfl, (Sub.cons 0 rfl (Sub.refl _))⟩
   ·refine AW.condN _ rfl hc6 ?_
    refine AW.seq ?_
    obtain ⟨b7, hq8, h⟩ := of_bind h
    refine AW.regM [(2, (.ptr n3 0)), (18, (eBool b7))] ((q1, (.map (encM Value.string eI64 p1))) :: (n3, (.mem (e82 p0))) :: T0) ?_ ?_
    ·refine AO.c (x := .ptr n3 1) (Calm.fldPtr rfl rfl Try.underlying82 rfl sz3 _ rfl) ?_
     refine AO.c (Calm.load 1 rfl rfl rfl (At.cast (At.fldS (At.fld0 At.here)) rfl) ag3 sz3) ?_
     refine AO.c (x := eBool (decide (p0.f1 < (0 : Int)))) (Calm.int rfl rfl rfl rfl) ?_
     refine AO.mv rfl rfl ?_
     rcases of_ite hq8 with ⟨hc9, hq8⟩ | ⟨hc9, hq8⟩
     ·refine AO.sF rfl rfl (bD (decide_eq_true hc9)) ?_
      refine AO.sF rfl rfl (bD (decide_eq_true hc9)) ?_
      refine AO.sF rfl rfl (bD (decide_eq_true hc9)) ?_
      refine AO.c (Calm.pickT rfl (bD (decide_eq_true hc9)) rfl) ?_
      refine AO.ag rfl rfl ?_
      cases hq8
      refine AO.nilE ⟨rfl, rfl⟩ ?_ ?_
      · exact ⟨rfl, rfl, trivial⟩
      · exact (Sub.refl _)
     ·refine AO.cG (x := .ptr n3 1) rfl rfl (bD (decide_eq_false hc9)) (Calm.fldPtr rfl rfl Try.underlying82 rfl sz3 _ rfl) ?_
      refine AO.cG rfl rfl (bD (decide_eq_false hc9)) (Calm.load 1 rfl rfl rfl (At.cast (At.fldS (At.fld0 At.here)) rfl) ag3 sz3) ?_
      refine AO.cG (x := eBool (decide ((2 : Int) < p0.f1))) rfl rfl (bD (decide_eq_false hc9)) (Calm.int rfl rfl rfl rfl) ?_
      refine AO.c (Calm.pickF rfl (bD (decide_eq_false hc9)) rfl) ?_
      refine AO.ag rfl rfl ?_
      cases hq8
      refine AO.nilE ⟨rfl, rfl⟩ ?_ ?_
      · exact ⟨rfl, rfl, trivial⟩
      · exact (Sub.refl _)
    ·rcases of_ite h with ⟨hc10, h⟩ | ⟨hc10, h⟩
     ·refine AW.condT' _ rfl hc10 ?_
      refine AW.sr ?_
      refine AO.ag rfl rfl ?_
      refine AO.nH [4] (H' := ((q1, (.map (encM Value.string eI64 p1))) :: T0)) (Sub.cons 0 rfl (Sub.drop (Sub.refl _))) ?_
      refine AW.rK [4] ?_
      have hr := Option.some.inj h
      subst hr
      exact ⟨[(eI64 (1 : Int))], ⟨rfl, rfl, trivial⟩, rfl, (Sub.cons 0 rfl (Sub.refl _))⟩
     ·refine AW.condF' _ rfl hc10 ?_
      refine AW.sK [2] ?_
      refine AW.sr ?_
      refine AO.c (x := .ptr n3 2) (Calm.fldPtr rfl rfl Try.underlying82 rfl sz9 _ rfl) ?_
      refine AO.c (Calm.load 1 rfl rfl rfl (At.cast (At.fldS (At.fldS (At.fld0 At.here))) rfl) ag9 sz9) ?_
      obtain ⟨t11, et11, h⟩ := of_bind h
      refine AO.callS [(eStr p0.f2)] (.tup [(e55 t11.1), (eI64 t11.2)]) 30 rfl (by decide) ok62 rfl rfl rfl ⟨rfl, rfl, trivial⟩ (F62_spec et11) ?_
      refine AO.mv rfl rfl ?_
      refine AO.c (Calm.extract rfl rfl rfl) ?_
      refine AO.c (Calm.extract rfl rfl rfl) ?_
      refine AO.alloc rfl 5 rfl (by decide) rfl zr55 lay55 fun n12 => ?_
      refine AO.store (X' := (e55 t11.1)) 0 rfl rfl rfl rfl rfl rfl (Put.cast Put.here rfl) rfl rfl sz55 rfl ?_
      refine AO.ag rfl rfl ?_
      refine AO.nH [5, 6] (H' := ((q1, (.map (encM Value.string eI64 p1))) :: (n12, (.mem (e55 t11.1))) :: T0)) (Sub.cons 1 rfl (Sub.cons 0 rfl (Sub.drop (Sub.refl _)))) ?_
      refine AW.seq ?_
      refine AW.block ?_
      refine AW.sr ?_
      refine AO.mv rfl rfl ?_
      refine AO.c (x := eBool (decide (t11.2 ≠ (0 : Int)))) (Calm.int rfl rfl rfl rfl) ?_
      refine AO.ag rfl rfl ?_
      refine AO.nK [5, 6, 33] ?_
      rcases of_ite h with ⟨hc13, h⟩ | ⟨hc13, h⟩
      ·refine AW.condP _ rfl hc13 ?_
       refine AW.sr ?_
       refine AO.mv rfl rfl ?_
       refine AO.ag rfl rfl ?_
       refine AO.nH [4] (H' := ((q1, (.map (encM Value.string eI64 p1))) :: T0)) (Sub.cons 0 rfl (Sub.drop (Sub.refl _))) ?_
       refine AW.rK [4] ?_
       have hr := Option.some.inj h
       subst hr
       exact ⟨[(eI64 t11.2)], ⟨rfl, rfl, trivial⟩, rfl, (Sub.cons 0 rfl (Sub.refl _))⟩
      ·refine AW.condN _ rfl hc13 ?_
       refine AW.sr ?_
       refine AO.c (Calm.load 1 rfl rfl rfl (At.cast At.here rfl) ag55 sz55) ?_
       obtain ⟨t14, et14, h⟩ := of_bind h
       refine AO.callS [(e55 t11.1), (eStr (ByteArray.mk #[]))] (eI64 t14) 39 rfl (by decide) ok89 rfl rfl rfl ⟨rfl, rfl, rfl, rfl, trivial⟩ (F89_spec et14) ?_
       refine AO.c (x := eBool (decide ((0 : Int) ≤ t14))) (Calm.int rfl rfl rfl rfl) ?_
       refine AO.ag rfl rfl ?_
       refine AO.nH [37] (H' := ((q1, (.map (encM Value.string eI64 p1))) :: T0)) (Sub.cons 0 rfl (Sub.drop (Sub.refl _))) ?_
       rcases of_ite h with ⟨hc15, h⟩ | ⟨hc15, h⟩
       ·refine AW.condP _ rfl hc15 ?_
        refine AW.sr ?_
        refine AO.ag rfl rfl ?_
        refine AO.nK [4] ?_
        refine AW.rK [4] ?_
        have hr := Option.some.inj h
        subst hr
        exact ⟨[(eI64 (14 : Int))], ⟨rfl, rfl, trivial⟩, rfl, (Sub.cons 0 rfl (Sub.refl _))⟩
       ·refine AW.condN _ rfl hc15 ?_
        refine AW.sK [] ?_
        refine AW.sr ?_
        refine AO.ag rfl rfl ?_
        refine AO.nK [4] ?_
        refine AW.rK [4] ?_
        have hr := Option.some.inj h
        subst hr
        exact ⟨[(eI64 (0 : Int))], ⟨rfl, rfl, trivial⟩, rfl, (Sub.cons 0 rfl (Sub.refl _))⟩
end Go.Avl.T7
/- bosket/rules.Check; printed by avmain.py. -/
namespace Go.Avl.T7
open Go Go.RowKit Go.Proofs Go.Avl
set_option linter.unusedVariables false
set_option maxRecDepth 100000
set_option maxHeartbeats 4000000
attribute [local irreducible] AW AO AQ Spec SpecH Calm

def F39_c0 (k : Nat) (p0 : (List S82)) : Option (Int × Int) :=
  some ((p0.length : Int), (0 : Int))
def F39_l1 (k : Nat) (p0 : (List S82)) : Nat → (List (ByteArray × Int)) → Int → Option (Int × Int)
  | 0, _, _ => none
  | j + 1, x4, x5 =>
    if x5 < (p0.length : Int) then if 0 ≤ x5 ∧ x5 < (p0.length : Int) then (F67 k (lget p0 x5) x4).bind fun t11 =>
    if t11 ≠ (0 : Int) then some (x5, t11)
    else (F39_l1 k p0 j) (mput x4 ((lget p0 x5).f0) (w64 (((mget x4 ((lget p0 x5).f0)).getD (0 : Int)) + (1 : Int)))) (w64 (x5 + (1 : Int)))
    else none
    else F39_c0 k p0
def F39 (k : Nat) (p0 : (List S82)) : Option (Int × Int) :=
  if (60 : Int) < (p0.length : Int) then some ((p0.length : Int), (6 : Int))
  else F39_l1 k p0 k ([] : List (ByteArray × Int)) (0 : Int)
theorem F39_spec {k : Nat} {p0 : (List S82)} {r : (Int × Int)} (h : F39 k p0 = some r) : Spec Try.prog 39 [(.fz 3 (p0.map e82))] (.tup [(eI64 r.1), (eI64 r.2)]) := by
  rw [F39.eq_1] at h
  refine Spec.intro (res := [.tmp 2, .tmp 3]) Try.func39 rfl rfl rfl (Nat.le_of_ble_eq_true rfl) ?_
  refine AW.sr ?_
  refine AO.ag rfl rfl ?_
  refine AO.ag rfl rfl ?_
  refine AO.nK [0] ?_
  refine AW.seq ?_
  refine AW.sr ?_
  refine AO.mv rfl rfl ?_
  refine AO.c (Calm.lenL rfl rfl Try.underlying22) ?_
  refine AO.c (x := eBool (decide ((60 : Int) < (p0.length : Int)))) (Calm.int rfl rfl rfl rfl) ?_
  refine AO.nK [0, 10] ?_
  rcases of_ite h with ⟨hc2, h⟩ | ⟨hc2, h⟩
  ·refine AW.condP _ rfl hc2 ?_
   refine AW.sr ?_
   refine AO.mv rfl rfl ?_
   refine AO.c (Calm.lenL rfl rfl Try.underlying22) ?_
   refine AO.ag rfl rfl ?_
   refine AO.ag rfl rfl ?_
   refine AO.nK [2, 3] ?_
   refine AW.rK [2, 3] ?_
   have hr := Option.some.inj h
   subst hr
   exact ⟨[(eI64 (p0.length : Int)), (eI64 (6 : Int))], ⟨rfl, rfl, rfl, rfl, trivial⟩, rfl⟩
  ·refine AW.condN _ rfl hc2 ?_
   refine AW.sK [0] ?_
   refine AW.sr ?_
   refine AO.makeMap rfl 13 rfl (by decide) rfl fun n3 => ?_
   refine AO.ag rfl rfl ?_
   refine AO.nK [0, 4] ?_
   refine AW.seq_mid (fun ρ H => ρ = [(0, (.fz 3 (p0.map e82)))] ∧ H = [] ∧ F39_c0 k p0 = some r) ?_ ?_
   ·refine AW.sr ?_
    refine AO.mv rfl rfl ?_
    refine AO.c (Calm.lenL rfl rfl Try.underlying22) ?_
    refine AO.mv rfl rfl ?_
    refine AO.nK [0, 4, 14, 15, 16] ?_
    refine AW.block ?_
    refine AW.wK [0, 4, 14, 15, 16] ?_
    refine AW.loop (fun kq ρ H => ∃ (x4 : (List (ByteArray × Int))) (x5 : Int), ρ = [(0, (.fz 3 (p0.map e82))), (4, (.mp n3)), (14, (.fz 3 (p0.map e82))), (15, (eI64 (p0.length : Int))), (16, (eI64 x5))] ∧ H = [(n3, (.map (encM Value.string eI64 x4)))] ∧ F39_l1 k p0 kq x4 x5 = some r) k ⟨([] : List (ByteArray × Int)), (0 : Int), rfl, rfl, h⟩ ?_
    rintro kq7 _ _ ⟨x4, x5, rfl, rfl, h⟩
    cases kq7 with
    | zero => rw [F39_l1.eq_1] at h; cases h
    | succ kq7 =>
    rw [F39_l1.eq_2] at h
    generalize hrec6 : F39_l1 k p0 kq7 = rec6 at h
    refine AW.sr ?_
    refine AO.c (x := eBool (decide (x5 < (p0.length : Int)))) (Calm.int rfl rfl rfl rfl) ?_
    refine AO.nK [0, 4, 14, 15, 16, 17] ?_
    refine AW.seq ?_
    rcases of_ite h with ⟨hc8, h⟩ | ⟨hc8, h⟩
    ·refine AW.condP _ rfl hc8 ?_
     refine AW.sK [0, 4, 14, 15, 16] ?_
     refine AW.seq ?_
     refine AW.block ?_
     refine AW.sr ?_
     refine AO.mv rfl rfl ?_
     obtain ⟨hg9, h⟩ := of_guard h
     refine AO.c (Calm.idxL (f := e82) rfl rfl rfl hg9 Try.underlying22 sz82) ?_
     refine AO.c (Calm.loadRp rfl rfl ag82 sz82) ?_
     refine AO.alloc rfl 6 rfl (by decide) rfl zr82 lay82 fun n10 => ?_
     refine AO.ag rfl rfl ?_
     refine AO.store (X' := (e82 (lget p0 x5))) 0 rfl rfl rfl rfl rfl rfl (Put.cast Put.here rfl) rfl rfl sz82 rfl ?_
     refine AO.nH [0, 4, 5, 6, 14, 15, 16] (H' := [(n3, (.map (encM Value.string eI64 x4))), (n10, (.mem (e82 (lget p0 x5))))]) (Sub.cons 1 rfl (Sub.cons 0 rfl (Sub.nil _))) ?_
     refine AW.seq ?_
     refine AW.sr ?_
     refine AO.c (Calm.load 1 rfl rfl rfl (At.cast At.here rfl) ag82 sz82) ?_
     refine AO.mv rfl rfl ?_
     obtain ⟨t11, et11, h⟩ := of_bind h
     refine AO.callH [(e82 (lget p0 x5)), (.mp n3)] [(n3, (.map (encM Value.string eI64 x4))), (n10, (.mem (e82 (lget p0 x5))))] _ rfl rfl rfl 23 rfl (by decide) ok67 ⟨rfl, rfl, rfl, rfl, trivial⟩ (Sub.cons 0 rfl (Sub.refl _)) (F67_spec et11) ?_
     rintro _ _ ⟨rfl, hs12⟩
     refine AO.wH [0, 4, 5, 6, 14, 15, 16, 21, 22, 23] hs12 ?_
     refine AO.ag rfl rfl ?_
     refine AO.nK [0, 4, 5, 6, 7, 14, 15, 16] ?_
     refine AW.sr ?_
     refine AO.mv rfl rfl ?_
     refine AO.c (x := eBool (decide (t11 ≠ (0 : Int)))) (Calm.int rfl rfl rfl rfl) ?_
     refine AO.nK [0, 4, 5, 6, 7, 14, 15, 16, 25] ?_
     rcases of_ite h with ⟨hc13, h⟩ | ⟨hc13, h⟩
     ·refine AW.condP _ rfl hc13 ?_
      refine AW.sr ?_
      refine AO.mv rfl rfl ?_
      refine AO.mv rfl rfl ?_
      refine AO.ag rfl rfl ?_
      refine AO.ag rfl rfl ?_
      refine AO.nH [2, 3] (H' := []) (Sub.nil _) ?_
      refine AW.rK [2, 3] ?_
      have hr := Option.some.inj h
      subst hr
      exact ⟨[(eI64 x5), (eI64 t11)], ⟨rfl, rfl, rfl, rfl, trivial⟩, rfl⟩
     ·refine AW.condN _ rfl hc13 ?_
      refine AW.sK [0, 4, 6, 14, 15, 16] ?_
      refine AW.reg ?_
      refine AO.mv rfl rfl ?_
      refine AO.c (x := .ptr n10 0) (Calm.fldPtr rfl rfl Try.underlying82 rfl sz9 _ rfl) ?_
      refine AO.c (Calm.load 1 rfl rfl rfl (At.cast (At.fld0 At.here) rfl) ag9 sz9) ?_
      refine AO.c (x := eI64 ((mget x4 ((lget p0 x5).f0)).getD (0 : Int))) (Calm.look1 (f := eI64) string_inj string_key (0 : Int) 0 rfl rfl rfl rfl Try.underlying109 Try.underlying9 mz3 rfl rfl) ?_
      refine AO.c (x := eI64 (w64 (((mget x4 ((lget p0 x5).f0)).getD (0 : Int)) + (1 : Int)))) (Calm.int rfl rfl rfl rfl) ?_
      refine AO.mapPut (f := eI64) string_inj string_key 0 rfl rfl rfl rfl rfl rfl rfl rfl Try.underlying109 Try.underlying9 ?_
      refine AO.nH [0, 4, 14, 15, 16] (H' := [(n3, (.map (encM Value.string eI64 (mput x4 ((lget p0 x5).f0) (w64 (((mget x4 ((lget p0 x5).f0)).getD (0 : Int)) + (1 : Int)))))))]) (Sub.cons 0 rfl (Sub.nil _)) ?_
      refine AW.reg ?_
      refine AO.c (x := eI64 (w64 (x5 + (1 : Int)))) (Calm.int rfl rfl rfl rfl) ?_
      refine AO.mv rfl rfl ?_
      refine AO.nK [0, 4, 14, 15, 16] ?_
      exact ⟨kq7, Nat.lt_succ_self _, (mput x4 ((lget p0 x5).f0) (w64 (((mget x4 ((lget p0 x5).f0)).getD (0 : Int)) + (1 : Int)))), (w64 (x5 + (1 : Int))), rfl, rfl, by rw [hrec6]; exact h⟩
    ·refine AW.condN _ rfl hc8 ?_
     refine AW.eH [0] (H' := []) (Sub.nil _) ?_
     exact ⟨rfl, rfl, h⟩
   ·rintro _ _ ⟨rfl, rfl, h⟩
    rw [F39_c0.eq_1] at h
    refine AW.sr ?_
    refine AO.mv rfl rfl ?_
    refine AO.c (Calm.lenL rfl rfl Try.underlying22) ?_
    refine AO.ag rfl rfl ?_
    refine AO.ag rfl rfl ?_
    refine AO.nK [2, 3] ?_
    refine AW.rK [2, 3] ?_
    have hr := Option.some.inj h
    subst hr
    exact ⟨[(eI64 (p0.length : Int)), (eI64 (0 : Int))], ⟨rfl, rfl, rfl, rfl, trivial⟩, rfl⟩
end Go.Avl.T7
/- bosket/nfa.Union; printed by avmain.py. -/
namespace Go.Avl.T7
open Go Go.RowKit Go.Proofs Go.Avl
set_option linter.unusedVariables false
set_option maxRecDepth 100000
set_option maxHeartbeats 4000000
attribute [local irreducible] AW AO AQ Spec SpecH Calm

def F75_c0 (k : Nat) (x4 : Int) (x6 : (List S152)) (x8 : (List Int)) : Option (S121 × (List Int)) :=
  some ((S121.mk x4 x6 (0 : Int) (0 : Int)), x8)
def F75_c1 (k : Nat) (rec15 : (Int → (List S152) → (List Int) → Int → Option (S121 × (List Int)))) (p0 : (List S121)) (x9 : Int) (x13 : (List Int)) (x14 : Int) (x19 : (List S152)) : Option (S121 × (List Int)) :=
  rec15 (w64 (x9 + ((lget p0 x14).f0))) x19 (x13 ++ ([(w64 (((lget p0 x14).f3) + x9))] : List Int)) (w64 (x14 + (1 : Int)))
def F75_c2 (k : Nat) (rec15 : (Int → (List S152) → (List Int) → Int → Option (S121 × (List Int)))) (p0 : (List S121)) (x9 : Int) (x13 : (List Int)) (x14 : Int) (x27 : (List S152)) : Option (S121 × (List Int)) :=
  if (x13 ++ ([(w64 (((lget p0 x14).f3) + x9))] : List Int)).length * 8 ≤ 140737488355328 then F75_c1 k rec15 p0 x9 x13 x14 x27
  else none
def F75_l3 (k : Nat) (rec15 : (Int → (List S152) → (List Int) → Int → Option (S121 × (List Int)))) (p0 : (List S121)) (x9 : Int) (x13 : (List Int)) (x14 : Int) : Nat → (List S152) → Int → Option (S121 × (List Int))
  | 0, _, _ => none
  | j + 1, x32, x33 =>
    if x33 < (((lget p0 x14).f1).length : Int) then if 0 ≤ x33 ∧ x33 < (((lget p0 x14).f1).length : Int) then if (x32 ++ ([(S152.mk (w64 (((lget ((lget p0 x14).f1) x33).f0) + x9)) (w64 (((lget ((lget p0 x14).f1) x33).f1) + x9)) ((lget ((lget p0 x14).f1) x33).f2) ((lget ((lget p0 x14).f1) x33).f3))] : List S152)).length * 56 ≤ 140737488355328 then (F75_l3 k rec15 p0 x9 x13 x14 j) (x32 ++ ([(S152.mk (w64 (((lget ((lget p0 x14).f1) x33).f0) + x9)) (w64 (((lget ((lget p0 x14).f1) x33).f1) + x9)) ((lget ((lget p0 x14).f1) x33).f2) ((lget ((lget p0 x14).f1) x33).f3))] : List S152)) (w64 (x33 + (1 : Int)))
    else none
    else none
    else F75_c2 k rec15 p0 x9 x13 x14 x32
def F75_l4 (k : Nat) (p0 : (List S121)) : Nat → Int → (List S152) → (List Int) → Int → Option (S121 × (List Int))
  | 0, _, _, _, _ => none
  | j + 1, x9, x11, x13, x14 =>
    if x14 < (p0.length : Int) then if 0 ≤ x14 ∧ x14 < (p0.length : Int) then if (x11 ++ ([(S152.mk (0 : Int) (w64 (((lget p0 x14).f2) + x9)) (Vector.replicate 4 (0 : Int)) true)] : List S152)).length * 56 ≤ 140737488355328 then F75_l3 k (F75_l4 k p0 j) p0 x9 x13 x14 k (x11 ++ ([(S152.mk (0 : Int) (w64 (((lget p0 x14).f2) + x9)) (Vector.replicate 4 (0 : Int)) true)] : List S152)) (0 : Int)
    else none
    else none
    else F75_c0 k x9 x11 x13
def F75 (k : Nat) (p0 : (List S121)) : Option (S121 × (List Int)) :=
  F75_l4 k p0 k (1 : Int) ([] : List S152) ([] : List Int) (0 : Int)
theorem F75_spec {k : Nat} {p0 : (List S121)} {r : (S121 × (List Int))} (h : F75 k p0 = some r) : Spec Try.prog 75 [(.fz 4 (p0.map e121))] (.tup [(e121 r.1), (.fz 1 (r.2.map eI64))]) := by
  rw [F75.eq_1] at h
  refine Spec.intro (res := [.cell 2 121, .tmp 3]) Try.func75 rfl rfl rfl (Nat.le_of_ble_eq_true rfl) ?_
  refine AW.sr ?_
  refine AO.alloc rfl 2 rfl (by decide) rfl zr121 lay121 fun n2 => ?_
  refine AO.ag rfl rfl ?_
  refine AO.nK [0, 2] ?_
  refine AW.sr ?_
  refine AO.c (x := .st [(1, (eI64 (1 : Int))), (1, (.fl (.slice none 0 0))), (1, (eI64 (0 : Int))), (1, (eI64 (0 : Int)))]) (Calm.build (qs := [(0, (eI64 (1 : Int)))]) rfl ⟨rfl, rfl, rfl, trivial⟩ Try.underlying121 rfl zr121 lay121 (.cons rfl rfl rfl rfl (Put.cast (Put.fld0 Put.here) rfl) .nil) rfl) ?_
  refine AO.alloc rfl 4 rfl (by decide) rfl zr121 lay121 fun n3 => ?_
  refine AO.store (X' := (.st [(1, (eI64 (1 : Int))), (1, (.fl (.slice none 0 0))), (1, (eI64 (0 : Int))), (1, (eI64 (0 : Int)))])) 0 rfl rfl rfl rfl rfl rfl (Put.cast Put.here rfl) rfl rfl sz121 rfl ?_
  refine AO.nH [0, 2, 4] (H' := [(n2, (.mem (.st [(1, (eI64 (0 : Int))), (1, (.fl (.slice none 0 0))), (1, (eI64 (0 : Int))), (1, (eI64 (0 : Int)))]))), (n3, (.mem (.st [(1, (eI64 (1 : Int))), (1, (.fl (.slice none 0 0))), (1, (eI64 (0 : Int))), (1, (eI64 (0 : Int)))])))]) (Sub.cons 1 rfl (Sub.cons 0 rfl (Sub.nil _))) ?_
  refine AW.sr ?_
  refine AO.ag rfl rfl ?_
  refine AO.nK [0, 2, 4, 5] ?_
  refine AW.seq_mid (fun ρ H => ∃ (n5 : Nat) (n7 : Nat) (x4 : Int) (x6 : (List S152)) (x8 : (List Int)), ρ = [(2, (.ptr n2 0)), (4, (.ptr n3 0)), (5, (.own n7 0 x8.length))] ∧ H = [(n2, (.mem (.st [(1, (eI64 (0 : Int))), (1, (.fl (.slice none 0 0))), (1, (eI64 (0 : Int))), (1, (eI64 (0 : Int)))]))), (n3, (.mem (.st [(1, (eI64 x4)), (1, (.own n5 0 x6.length)), (1, (eI64 (0 : Int))), (1, (eI64 (0 : Int)))]))), (n5, (.mem (.ar 7 (x6.map e152)))), (n7, (.mem (.ar 1 (x8.map eI64))))] ∧ F75_c0 k x4 x6 x8 = some r) ?_ ?_
  ·refine AW.sr ?_
   refine AO.mv rfl rfl ?_
   refine AO.c (Calm.lenL rfl rfl Try.underlying116) ?_
   refine AO.mv rfl rfl ?_
   refine AO.nK [2, 4, 5, 12, 13, 14] ?_
   refine AW.block ?_
   refine AW.nilOwn 5 1 rfl fun n42 => ?_
   refine AW.nilOwnFld 2 7 (fun n43 => (.st [(1, (eI64 (1 : Int))), (1, (.own n43 0 0)), (1, (eI64 (0 : Int))), (1, (eI64 (0 : Int)))])) rfl (fun _ => (Put.cast (Put.fldS (Put.fld0 Put.here)) rfl)) (fun _ => rfl) (fun _ => rfl) fun n43 => ?_
   refine AW.wH [2, 4, 5, 12, 13, 14] (H' := [(n2, (.mem (.st [(1, (eI64 (0 : Int))), (1, (.fl (.slice none 0 0))), (1, (eI64 (0 : Int))), (1, (eI64 (0 : Int)))]))), (n3, (.mem (.st [(1, (eI64 (1 : Int))), (1, (.own n43 0 ([] : List S152).length)), (1, (eI64 (0 : Int))), (1, (eI64 (0 : Int)))]))), (n43, (.mem (.ar 7 (([] : List S152).map e152)))), (n42, (.mem (.ar 1 (([] : List Int).map eI64))))]) (Sub.cons 2 rfl (Sub.cons 2 rfl (Sub.cons 0 rfl (Sub.cons 0 rfl (Sub.nil _))))) ?_
   refine AW.loop (fun kq ρ H => ∃ (n10 : Nat) (n12 : Nat) (x9 : Int) (x11 : (List S152)) (x13 : (List Int)) (x14 : Int), ρ = [(2, (.ptr n2 0)), (4, (.ptr n3 0)), (5, (.own n12 0 x13.length)), (12, (.fz 4 (p0.map e121))), (13, (eI64 (p0.length : Int))), (14, (eI64 x14))] ∧ H = [(n2, (.mem (.st [(1, (eI64 (0 : Int))), (1, (.fl (.slice none 0 0))), (1, (eI64 (0 : Int))), (1, (eI64 (0 : Int)))]))), (n3, (.mem (.st [(1, (eI64 x9)), (1, (.own n10 0 x11.length)), (1, (eI64 (0 : Int))), (1, (eI64 (0 : Int)))]))), (n10, (.mem (.ar 7 (x11.map e152)))), (n12, (.mem (.ar 1 (x13.map eI64))))] ∧ F75_l4 k p0 kq x9 x11 x13 x14 = some r) k ⟨n43, n42, (1 : Int), ([] : List S152), ([] : List Int), (0 : Int), rfl, rfl, h⟩ ?_
   rintro kq16 _ _ ⟨n10, n12, x9, x11, x13, x14, rfl, rfl, h⟩
   cases kq16 with
   | zero => rw [F75_l4.eq_1] at h; cases h
   | succ kq16 =>
   rw [F75_l4.eq_2] at h
   generalize hrec15 : F75_l4 k p0 kq16 = rec15 at h
   refine AW.sr ?_
   refine AO.c (x := eBool (decide (x14 < (p0.length : Int)))) (Calm.int rfl rfl rfl rfl) ?_
   refine AO.nK [2, 4, 5, 12, 13, 14, 15] ?_
   refine AW.seq ?_
   rcases of_ite h with ⟨hc17, h⟩ | ⟨hc17, h⟩
   ·refine AW.condP _ rfl hc17 ?_
    refine AW.sK [2, 4, 5, 12, 13, 14] ?_
    refine AW.seq_mid (fun ρ H => ∃ (n18 : Nat) (n20 : Nat) (x19 : (List S152)), ρ = [(2, (.ptr n2 0)), (4, (.ptr n3 0)), (5, (.own n20 0 (x13 ++ ([(w64 (((lget p0 x14).f3) + x9))] : List Int)).length)), (12, (.fz 4 (p0.map e121))), (13, (eI64 (p0.length : Int))), (14, (eI64 x14))] ∧ H = [(n2, (.mem (.st [(1, (eI64 (0 : Int))), (1, (.fl (.slice none 0 0))), (1, (eI64 (0 : Int))), (1, (eI64 (0 : Int)))]))), (n3, (.mem (.st [(1, (eI64 (w64 (x9 + ((lget p0 x14).f0))))), (1, (.own n18 0 x19.length)), (1, (eI64 (0 : Int))), (1, (eI64 (0 : Int)))]))), (n18, (.mem (.ar 7 (x19.map e152)))), (n20, (.mem (.ar 1 ((x13 ++ ([(w64 (((lget p0 x14).f3) + x9))] : List Int)).map eI64))))] ∧ F75_c1 k rec15 p0 x9 x13 x14 x19 = some r) ?_ ?_
    ·refine AW.block ?_
     refine AW.sr ?_
     obtain ⟨hg21, h⟩ := of_guard h
     refine AO.c (Calm.idxL (f := e121) rfl rfl rfl hg21 Try.underlying116 sz121) ?_
     refine AO.c (Calm.loadRp rfl rfl ag121 sz121) ?_
     refine AO.alloc rfl 7 rfl (by decide) rfl zr121 lay121 fun n22 => ?_
     refine AO.store (X' := (e121 (lget p0 x14))) 0 rfl rfl rfl rfl rfl rfl (Put.cast Put.here rfl) rfl rfl sz121 rfl ?_
     refine AO.nH [2, 4, 5, 7, 12, 13, 14] (H' := [(n2, (.mem (.st [(1, (eI64 (0 : Int))), (1, (.fl (.slice none 0 0))), (1, (eI64 (0 : Int))), (1, (eI64 (0 : Int)))]))), (n3, (.mem (.st [(1, (eI64 x9)), (1, (.own n10 0 x11.length)), (1, (eI64 (0 : Int))), (1, (eI64 (0 : Int)))]))), (n10, (.mem (.ar 7 (x11.map e152)))), (n12, (.mem (.ar 1 (x13.map eI64)))), (n22, (.mem (e121 (lget p0 x14))))]) (Sub.cons 1 rfl (Sub.cons 1 rfl (Sub.cons 1 rfl (Sub.cons 1 rfl (Sub.cons 0 rfl (Sub.nil _)))))) ?_
     refine AW.sr ?_
     refine AO.c (x := .ptr n3 0) (Calm.fldPtr rfl rfl Try.underlying121 rfl sz3 _ rfl) ?_
     refine AO.c (Calm.load 1 rfl rfl rfl (At.cast (At.fld0 At.here) rfl) ag3 sz3) ?_
     refine AO.ag rfl rfl ?_
     refine AO.nK [2, 4, 5, 7, 8, 12, 13, 14] ?_
     refine AW.sr ?_
     refine AO.c (x := .ptr n3 0) (Calm.fldPtr rfl rfl Try.underlying121 rfl sz3 _ rfl) ?_
     refine AO.c (Calm.load 1 rfl rfl rfl (At.cast (At.fld0 At.here) rfl) ag3 sz3) ?_
     refine AO.c (x := .ptr n22 0) (Calm.fldPtr rfl rfl Try.underlying121 rfl sz3 _ rfl) ?_
     refine AO.c (Calm.load 4 rfl rfl rfl (At.cast (At.fld0 At.here) rfl) ag3 sz3) ?_
     refine AO.c (x := eI64 (w64 (x9 + ((lget p0 x14).f0)))) (Calm.int rfl rfl rfl rfl) ?_
     refine AO.c (x := .ptr n3 0) (Calm.fldPtr rfl rfl Try.underlying121 rfl sz3 _ rfl) ?_
     refine AO.store (X' := (.st [(1, (eI64 (w64 (x9 + ((lget p0 x14).f0))))), (1, (.own n10 0 x11.length)), (1, (eI64 (0 : Int))), (1, (eI64 (0 : Int)))])) 1 rfl rfl rfl rfl rfl rfl (Put.cast (Put.fld0 Put.here) rfl) rfl rfl sz3 rfl ?_
     refine AO.nK [2, 4, 5, 7, 8, 12, 13, 14] ?_
     refine AW.sr ?_
     refine AO.c (x := .ptr n3 1) (Calm.fldPtr rfl rfl Try.underlying121 rfl sz119 _ rfl) ?_
     refine AO.c (Calm.load 1 rfl rfl rfl (At.cast (At.fldS (At.fld0 At.here)) rfl) ag119 sz119) ?_
     refine AO.c (x := .ptr n22 2) (Calm.fldPtr rfl rfl Try.underlying121 rfl sz3 _ rfl) ?_
     refine AO.c (Calm.load 4 rfl rfl rfl (At.cast (At.fldS (At.fldS (At.fld0 At.here))) rfl) ag3 sz3) ?_
     refine AO.mv rfl rfl ?_
     refine AO.c (x := eI64 (w64 (((lget p0 x14).f2) + x9))) (Calm.int rfl rfl rfl rfl) ?_
     refine AO.c (x := .st [(1, (eI64 (0 : Int))), (1, (eI64 (w64 (((lget p0 x14).f2) + x9)))), (4, (.ar 1 ((Vector.replicate 4 (0 : Int)).toList.map eU64))), (1, (eBool true))]) (Calm.build (qs := [(1, (eI64 (w64 (((lget p0 x14).f2) + x9)))), (3, (eBool true))]) rfl ⟨rfl, rfl, rfl, rfl, rfl, rfl, trivial⟩ Try.underlying152 rfl zr152 lay152 (.cons rfl rfl rfl rfl (Put.cast (Put.fldS (Put.fld0 Put.here)) rfl) (.cons rfl rfl rfl rfl (Put.cast (Put.fldS (Put.fldS (Put.fldS (Put.fld0 Put.here)))) rfl) .nil)) rfl) ?_
     refine AO.lit (Z := (.st [(1, (eI64 (0 : Int))), (1, (eI64 (0 : Int))), (4, (.ar 1 ((Vector.replicate 4 (0 : Int)).toList.map eU64))), (1, (eBool false))])) (xs := (([(S152.mk (0 : Int) (w64 (((lget p0 x14).f2) + x9)) (Vector.replicate 4 (0 : Int)) true)] : List S152).map e152)) (qs := [(0, (e152 (S152.mk (0 : Int) (w64 (((lget p0 x14).f2) + x9)) (Vector.replicate 4 (0 : Int)) true)))]) rfl 33 rfl (by decide) rfl ⟨rfl, rfl, rfl, trivial⟩ Try.underlying119 sz152 zr152 lay152 rfl (by decide) (litOK (z := 7) [(e152 (S152.mk (0 : Int) (w64 (((lget p0 x14).f2) + x9)) (Vector.replicate 4 (0 : Int)) true))] rfl ⟨⟨rfl, rfl⟩, trivial⟩) rfl fun n23 => ?_
     obtain ⟨hg25, h⟩ := of_guard h
     refine AO.appendL (l := x11) (m := ([(S152.mk (0 : Int) (w64 (((lget p0 x14).f2) + x9)) (Vector.replicate 4 (0 : Int)) true)] : List S152)) 3 34 rfl (by decide) rfl rfl rfl rfl rfl (Src.ownL (f := e152) (l := ([(S152.mk (0 : Int) (w64 (((lget p0 x14).f2) + x9)) (Vector.replicate 4 (0 : Int)) true)] : List S152)) 0 rfl) Try.underlying119 Try.underlying119 sz152 by152 zr152 rfl hg25 (by decide) fun n24 => ?_
     refine AO.c (x := .ptr n3 1) (Calm.fldPtr rfl rfl Try.underlying121 rfl sz119 _ rfl) ?_
     refine AO.store (X' := (.st [(1, (eI64 (w64 (x9 + ((lget p0 x14).f0))))), (1, (.own n24 0 (x11 ++ ([(S152.mk (0 : Int) (w64 (((lget p0 x14).f2) + x9)) (Vector.replicate 4 (0 : Int)) true)] : List S152)).length)), (1, (eI64 (0 : Int))), (1, (eI64 (0 : Int)))])) 2 rfl rfl rfl rfl rfl rfl (Put.cast (Put.fldS (Put.fld0 Put.here)) rfl) rfl rfl sz119 rfl ?_
     refine AO.nH [2, 4, 5, 7, 8, 12, 13, 14] (H' := [(n2, (.mem (.st [(1, (eI64 (0 : Int))), (1, (.fl (.slice none 0 0))), (1, (eI64 (0 : Int))), (1, (eI64 (0 : Int)))]))), (n3, (.mem (.st [(1, (eI64 (w64 (x9 + ((lget p0 x14).f0))))), (1, (.own n24 0 (x11 ++ ([(S152.mk (0 : Int) (w64 (((lget p0 x14).f2) + x9)) (Vector.replicate 4 (0 : Int)) true)] : List S152)).length)), (1, (eI64 (0 : Int))), (1, (eI64 (0 : Int)))]))), (n24, (.mem (.ar 7 ((x11 ++ ([(S152.mk (0 : Int) (w64 (((lget p0 x14).f2) + x9)) (Vector.replicate 4 (0 : Int)) true)] : List S152)).map e152)))), (n12, (.mem (.ar 1 (x13.map eI64)))), (n22, (.mem (e121 (lget p0 x14))))]) (Sub.cons 1 rfl (Sub.cons 1 rfl (Sub.cons 1 rfl (Sub.cons 1 rfl (Sub.cons 1 rfl (Sub.nil _)))))) ?_
     refine AW.seq_mid (fun ρ H => ∃ (n26 : Nat) (x27 : (List S152)), ρ = [(2, (.ptr n2 0)), (4, (.ptr n3 0)), (5, (.own n12 0 x13.length)), (7, (.ptr n22 0)), (8, (eI64 x9)), (12, (.fz 4 (p0.map e121))), (13, (eI64 (p0.length : Int))), (14, (eI64 x14))] ∧ H = [(n2, (.mem (.st [(1, (eI64 (0 : Int))), (1, (.fl (.slice none 0 0))), (1, (eI64 (0 : Int))), (1, (eI64 (0 : Int)))]))), (n3, (.mem (.st [(1, (eI64 (w64 (x9 + ((lget p0 x14).f0))))), (1, (.own n26 0 x27.length)), (1, (eI64 (0 : Int))), (1, (eI64 (0 : Int)))]))), (n26, (.mem (.ar 7 (x27.map e152)))), (n12, (.mem (.ar 1 (x13.map eI64)))), (n22, (.mem (e121 (lget p0 x14))))] ∧ F75_c2 k rec15 p0 x9 x13 x14 x27 = some r) ?_ ?_
     ·refine AW.sr ?_
      refine AO.c (x := .ptr n22 1) (Calm.fldPtr rfl rfl Try.underlying121 rfl sz119 _ rfl) ?_
      refine AO.c (Calm.load 4 rfl rfl rfl (At.cast (At.fldS (At.fld0 At.here)) rfl) ag119 sz119) ?_
      refine AO.c (Calm.lenL rfl rfl Try.underlying119) ?_
      refine AO.mv rfl rfl ?_
      refine AO.nK [2, 4, 5, 7, 8, 12, 13, 14, 37, 38, 39] ?_
      refine AW.block ?_
      refine AW.wK [2, 4, 5, 7, 8, 12, 13, 14, 37, 38, 39] ?_
      refine AW.loop (fun kq ρ H => ∃ (n31 : Nat) (x32 : (List S152)) (x33 : Int), ρ = [(2, (.ptr n2 0)), (4, (.ptr n3 0)), (5, (.own n12 0 x13.length)), (7, (.ptr n22 0)), (8, (eI64 x9)), (12, (.fz 4 (p0.map e121))), (13, (eI64 (p0.length : Int))), (14, (eI64 x14)), (37, (.fz 7 (((lget p0 x14).f1).map e152))), (38, (eI64 (((lget p0 x14).f1).length : Int))), (39, (eI64 x33))] ∧ H = [(n2, (.mem (.st [(1, (eI64 (0 : Int))), (1, (.fl (.slice none 0 0))), (1, (eI64 (0 : Int))), (1, (eI64 (0 : Int)))]))), (n3, (.mem (.st [(1, (eI64 (w64 (x9 + ((lget p0 x14).f0))))), (1, (.own n31 0 x32.length)), (1, (eI64 (0 : Int))), (1, (eI64 (0 : Int)))]))), (n31, (.mem (.ar 7 (x32.map e152)))), (n12, (.mem (.ar 1 (x13.map eI64)))), (n22, (.mem (e121 (lget p0 x14))))] ∧ F75_l3 k rec15 p0 x9 x13 x14 kq x32 x33 = some r) k ⟨n24, (x11 ++ ([(S152.mk (0 : Int) (w64 (((lget p0 x14).f2) + x9)) (Vector.replicate 4 (0 : Int)) true)] : List S152)), (0 : Int), rfl, rfl, h⟩ ?_
      rintro kq35 _ _ ⟨n31, x32, x33, rfl, rfl, h⟩
      cases kq35 with
      | zero => rw [F75_l3.eq_1] at h; cases h
      | succ kq35 =>
      rw [F75_l3.eq_2] at h
      generalize hrec34 : F75_l3 k rec15 p0 x9 x13 x14 kq35 = rec34 at h
      refine AW.sr ?_
      refine AO.c (x := eBool (decide (x33 < (((lget p0 x14).f1).length : Int)))) (Calm.int rfl rfl rfl rfl) ?_
      refine AO.nK [2, 4, 5, 7, 8, 12, 13, 14, 37, 38, 39, 40] ?_
      refine AW.seq ?_
      rcases of_ite h with ⟨hc36, h⟩ | ⟨hc36, h⟩
      ·refine AW.condP _ rfl hc36 ?_
       refine AW.sK [2, 4, 5, 7, 8, 12, 13, 14, 37, 38, 39] ?_
       refine AW.seq ?_
       refine AW.block ?_
       refine AW.sr ?_
       obtain ⟨hg37, h⟩ := of_guard h
       refine AO.c (Calm.idxL (f := e152) rfl rfl rfl hg37 Try.underlying119 sz152) ?_
       refine AO.c (Calm.loadRp rfl rfl ag152 sz152) ?_
       refine AO.alloc rfl 10 rfl (by decide) rfl zr152 lay152 fun n38 => ?_
       refine AO.store (X' := (e152 (lget ((lget p0 x14).f1) x33))) 0 rfl rfl rfl rfl rfl rfl (Put.cast Put.here rfl) rfl rfl sz152 rfl ?_
       refine AO.nH [2, 4, 5, 7, 8, 10, 12, 13, 14, 37, 38, 39] (H' := [(n2, (.mem (.st [(1, (eI64 (0 : Int))), (1, (.fl (.slice none 0 0))), (1, (eI64 (0 : Int))), (1, (eI64 (0 : Int)))]))), (n3, (.mem (.st [(1, (eI64 (w64 (x9 + ((lget p0 x14).f0))))), (1, (.own n31 0 x32.length)), (1, (eI64 (0 : Int))), (1, (eI64 (0 : Int)))]))), (n31, (.mem (.ar 7 (x32.map e152)))), (n12, (.mem (.ar 1 (x13.map eI64)))), (n22, (.mem (e121 (lget p0 x14)))), (n38, (.mem (e152 (lget ((lget p0 x14).f1) x33))))]) (Sub.cons 1 rfl (Sub.cons 1 rfl (Sub.cons 1 rfl (Sub.cons 1 rfl (Sub.cons 1 rfl (Sub.cons 0 rfl (Sub.nil _))))))) ?_
       refine AW.sr ?_
       refine AO.c (x := .ptr n38 0) (Calm.fldPtr rfl rfl Try.underlying152 rfl sz3 _ rfl) ?_
       refine AO.c (Calm.load 5 rfl rfl rfl (At.cast (At.fld0 At.here) rfl) ag3 sz3) ?_
       refine AO.mv rfl rfl ?_
       refine AO.c (x := eI64 (w64 (((lget ((lget p0 x14).f1) x33).f0) + x9))) (Calm.int rfl rfl rfl rfl) ?_
       refine AO.c (x := .ptr n38 0) (Calm.fldPtr rfl rfl Try.underlying152 rfl sz3 _ rfl) ?_
       refine AO.store (X' := (.st [(1, (eI64 (w64 (((lget ((lget p0 x14).f1) x33).f0) + x9)))), (1, (eI64 ((lget ((lget p0 x14).f1) x33).f1))), (4, (.ar 1 (((lget ((lget p0 x14).f1) x33).f2).toList.map eU64))), (1, (eBool ((lget ((lget p0 x14).f1) x33).f3)))])) 5 rfl rfl rfl rfl rfl rfl (Put.cast (Put.fld0 Put.here) rfl) rfl rfl sz3 rfl ?_
       refine AO.nK [2, 4, 5, 7, 8, 10, 12, 13, 14, 37, 38, 39] ?_
       refine AW.sr ?_
       refine AO.c (x := .ptr n38 1) (Calm.fldPtr rfl rfl Try.underlying152 rfl sz3 _ rfl) ?_
       refine AO.c (Calm.load 5 rfl rfl rfl (At.cast (At.fldS (At.fld0 At.here)) rfl) ag3 sz3) ?_
       refine AO.mv rfl rfl ?_
       refine AO.c (x := eI64 (w64 (((lget ((lget p0 x14).f1) x33).f1) + x9))) (Calm.int rfl rfl rfl rfl) ?_
       refine AO.c (x := .ptr n38 1) (Calm.fldPtr rfl rfl Try.underlying152 rfl sz3 _ rfl) ?_
       refine AO.store (X' := (.st [(1, (eI64 (w64 (((lget ((lget p0 x14).f1) x33).f0) + x9)))), (1, (eI64 (w64 (((lget ((lget p0 x14).f1) x33).f1) + x9)))), (4, (.ar 1 (((lget ((lget p0 x14).f1) x33).f2).toList.map eU64))), (1, (eBool ((lget ((lget p0 x14).f1) x33).f3)))])) 5 rfl rfl rfl rfl rfl rfl (Put.cast (Put.fldS (Put.fld0 Put.here)) rfl) rfl rfl sz3 rfl ?_
       refine AO.nK [2, 4, 5, 7, 8, 10, 12, 13, 14, 37, 38, 39] ?_
       refine AW.reg ?_
       refine AO.c (x := .ptr n3 1) (Calm.fldPtr rfl rfl Try.underlying121 rfl sz119 _ rfl) ?_
       refine AO.c (Calm.load 1 rfl rfl rfl (At.cast (At.fldS (At.fld0 At.here)) rfl) ag119 sz119) ?_
       refine AO.c (Calm.load 5 rfl rfl rfl (At.cast At.here rfl) ag152 sz152) ?_
       refine AO.lit (Z := (.st [(1, (eI64 (0 : Int))), (1, (eI64 (0 : Int))), (4, (.ar 1 ((Vector.replicate 4 (0 : Int)).toList.map eU64))), (1, (eBool false))])) (xs := (([(S152.mk (w64 (((lget ((lget p0 x14).f1) x33).f0) + x9)) (w64 (((lget ((lget p0 x14).f1) x33).f1) + x9)) ((lget ((lget p0 x14).f1) x33).f2) ((lget ((lget p0 x14).f1) x33).f3))] : List S152).map e152)) (qs := [(0, (e152 (S152.mk (w64 (((lget ((lget p0 x14).f1) x33).f0) + x9)) (w64 (((lget ((lget p0 x14).f1) x33).f1) + x9)) ((lget ((lget p0 x14).f1) x33).f2) ((lget ((lget p0 x14).f1) x33).f3))))]) rfl 56 rfl (by decide) rfl ⟨rfl, rfl, rfl, trivial⟩ Try.underlying119 sz152 zr152 lay152 rfl (by decide) (litOK (z := 7) [(e152 (S152.mk (w64 (((lget ((lget p0 x14).f1) x33).f0) + x9)) (w64 (((lget ((lget p0 x14).f1) x33).f1) + x9)) ((lget ((lget p0 x14).f1) x33).f2) ((lget ((lget p0 x14).f1) x33).f3)))] rfl ⟨⟨rfl, rfl⟩, trivial⟩) rfl fun n39 => ?_
       obtain ⟨hg41, h⟩ := of_guard h
       refine AO.appendL (l := x32) (m := ([(S152.mk (w64 (((lget ((lget p0 x14).f1) x33).f0) + x9)) (w64 (((lget ((lget p0 x14).f1) x33).f1) + x9)) ((lget ((lget p0 x14).f1) x33).f2) ((lget ((lget p0 x14).f1) x33).f3))] : List S152)) 3 57 rfl (by decide) rfl rfl rfl rfl rfl (Src.ownL (f := e152) (l := ([(S152.mk (w64 (((lget ((lget p0 x14).f1) x33).f0) + x9)) (w64 (((lget ((lget p0 x14).f1) x33).f1) + x9)) ((lget ((lget p0 x14).f1) x33).f2) ((lget ((lget p0 x14).f1) x33).f3))] : List S152)) 0 rfl) Try.underlying119 Try.underlying119 sz152 by152 zr152 rfl hg41 (by decide) fun n40 => ?_
       refine AO.c (x := .ptr n3 1) (Calm.fldPtr rfl rfl Try.underlying121 rfl sz119 _ rfl) ?_
       refine AO.store (X' := (.st [(1, (eI64 (w64 (x9 + ((lget p0 x14).f0))))), (1, (.own n40 0 (x32 ++ ([(S152.mk (w64 (((lget ((lget p0 x14).f1) x33).f0) + x9)) (w64 (((lget ((lget p0 x14).f1) x33).f1) + x9)) ((lget ((lget p0 x14).f1) x33).f2) ((lget ((lget p0 x14).f1) x33).f3))] : List S152)).length)), (1, (eI64 (0 : Int))), (1, (eI64 (0 : Int)))])) 2 rfl rfl rfl rfl rfl rfl (Put.cast (Put.fldS (Put.fld0 Put.here)) rfl) rfl rfl sz119 rfl ?_
       refine AO.nH [2, 4, 5, 7, 8, 12, 13, 14, 37, 38, 39] (H' := [(n2, (.mem (.st [(1, (eI64 (0 : Int))), (1, (.fl (.slice none 0 0))), (1, (eI64 (0 : Int))), (1, (eI64 (0 : Int)))]))), (n3, (.mem (.st [(1, (eI64 (w64 (x9 + ((lget p0 x14).f0))))), (1, (.own n40 0 (x32 ++ ([(S152.mk (w64 (((lget ((lget p0 x14).f1) x33).f0) + x9)) (w64 (((lget ((lget p0 x14).f1) x33).f1) + x9)) ((lget ((lget p0 x14).f1) x33).f2) ((lget ((lget p0 x14).f1) x33).f3))] : List S152)).length)), (1, (eI64 (0 : Int))), (1, (eI64 (0 : Int)))]))), (n40, (.mem (.ar 7 ((x32 ++ ([(S152.mk (w64 (((lget ((lget p0 x14).f1) x33).f0) + x9)) (w64 (((lget ((lget p0 x14).f1) x33).f1) + x9)) ((lget ((lget p0 x14).f1) x33).f2) ((lget ((lget p0 x14).f1) x33).f3))] : List S152)).map e152)))), (n12, (.mem (.ar 1 (x13.map eI64)))), (n22, (.mem (e121 (lget p0 x14))))]) (Sub.cons 1 rfl (Sub.cons 1 rfl (Sub.cons 1 rfl (Sub.cons 1 rfl (Sub.cons 1 rfl (Sub.nil _)))))) ?_
       refine AW.reg ?_
       refine AO.c (x := eI64 (w64 (x33 + (1 : Int)))) (Calm.int rfl rfl rfl rfl) ?_
       refine AO.mv rfl rfl ?_
       refine AO.nK [2, 4, 5, 7, 8, 12, 13, 14, 37, 38, 39] ?_
       exact ⟨kq35, Nat.lt_succ_self _, n40, (x32 ++ ([(S152.mk (w64 (((lget ((lget p0 x14).f1) x33).f0) + x9)) (w64 (((lget ((lget p0 x14).f1) x33).f1) + x9)) ((lget ((lget p0 x14).f1) x33).f2) ((lget ((lget p0 x14).f1) x33).f3))] : List S152)), (w64 (x33 + (1 : Int))), rfl, rfl, by rw [hrec34]; exact h⟩
      ·refine AW.condN _ rfl hc36 ?_
       refine AW.eK [2, 4, 5, 7, 8, 12, 13, 14] ?_
       exact ⟨n31, x32, rfl, rfl, h⟩
     ·rintro _ _ ⟨n26, x27, rfl, rfl, h⟩
      rw [F75_c2.eq_1] at h
      refine AW.reg ?_
      refine AO.mv rfl rfl ?_
      refine AO.c (x := .ptr n22 3) (Calm.fldPtr rfl rfl Try.underlying121 rfl sz3 _ rfl) ?_
      refine AO.c (Calm.load 4 rfl rfl rfl (At.cast (At.fldS (At.fldS (At.fldS (At.fld0 At.here)))) rfl) ag3 sz3) ?_
      refine AO.mv rfl rfl ?_
      refine AO.c (x := eI64 (w64 (((lget p0 x14).f3) + x9))) (Calm.int rfl rfl rfl rfl) ?_
      refine AO.lit (Z := (eI64 (0 : Int))) (xs := (([(w64 (((lget p0 x14).f3) + x9))] : List Int).map eI64)) (qs := [(0, (eI64 (w64 (((lget p0 x14).f3) + x9))))]) rfl 65 rfl (by decide) rfl ⟨rfl, rfl, rfl, trivial⟩ Try.underlying35 sz3 zr3 lay3 rfl (by decide) (litOK (z := 1) [(eI64 (w64 (((lget p0 x14).f3) + x9)))] rfl ⟨⟨rfl, rfl⟩, trivial⟩) rfl fun n28 => ?_
      obtain ⟨hg30, h⟩ := of_guard h
      refine AO.appendL (l := x13) (m := ([(w64 (((lget p0 x14).f3) + x9))] : List Int)) 4 66 rfl (by decide) rfl rfl rfl rfl rfl (Src.ownL (f := eI64) (l := ([(w64 (((lget p0 x14).f3) + x9))] : List Int)) 0 rfl) Try.underlying35 Try.underlying35 sz3 by3 zr3 rfl hg30 (by decide) fun n29 => ?_
      refine AO.ag rfl rfl ?_
      refine AO.nH [2, 4, 5, 12, 13, 14] (H' := [(n2, (.mem (.st [(1, (eI64 (0 : Int))), (1, (.fl (.slice none 0 0))), (1, (eI64 (0 : Int))), (1, (eI64 (0 : Int)))]))), (n3, (.mem (.st [(1, (eI64 (w64 (x9 + ((lget p0 x14).f0))))), (1, (.own n26 0 x27.length)), (1, (eI64 (0 : Int))), (1, (eI64 (0 : Int)))]))), (n26, (.mem (.ar 7 (x27.map e152)))), (n29, (.mem (.ar 1 ((x13 ++ ([(w64 (((lget p0 x14).f3) + x9))] : List Int)).map eI64))))]) (Sub.cons 1 rfl (Sub.cons 1 rfl (Sub.cons 1 rfl (Sub.cons 1 rfl (Sub.nil _))))) ?_
      exact ⟨n26, n29, x27, rfl, rfl, h⟩
    ·rintro _ _ ⟨n18, n20, x19, rfl, rfl, h⟩
     rw [F75_c1.eq_1] at h
     refine AW.reg ?_
     refine AO.c (x := eI64 (w64 (x14 + (1 : Int)))) (Calm.int rfl rfl rfl rfl) ?_
     refine AO.mv rfl rfl ?_
     refine AO.nK [2, 4, 5, 12, 13, 14] ?_
     exact ⟨kq16, Nat.lt_succ_self _, n18, n20, (w64 (x9 + ((lget p0 x14).f0))), x19, (x13 ++ ([(w64 (((lget p0 x14).f3) + x9))] : List Int)), (w64 (x14 + (1 : Int))), rfl, rfl, by rw [hrec15]; exact h⟩
   ·refine AW.condN _ rfl hc17 ?_
    refine AW.eK [2, 4, 5] ?_
    exact ⟨n10, n12, x9, x11, x13, rfl, rfl, h⟩
  ·rintro _ _ ⟨n5, n7, x4, x6, x8, rfl, rfl, h⟩
   rw [F75_c0.eq_1] at h
   refine AW.sr ?_
   refine AO.freezeFld (X' := (.st [(1, (eI64 x4)), (1, (.fz 7 (x6.map e152))), (1, (eI64 (0 : Int))), (1, (eI64 (0 : Int)))])) (els' := (x6.map e152)) 2 1 rfl rfl (Put.cast (Put.fldS (Put.fld0 Put.here)) rfl) (by simp) (by rw [own_all]) rfl rfl (by decide) ?_
   refine AO.c (x := e121 (S121.mk x4 x6 (0 : Int) (0 : Int))) (Calm.load 1 rfl rfl rfl (At.cast At.here rfl) ag121 sz121) ?_
   refine AO.mv rfl rfl ?_
   refine AO.store (X' := (e121 (S121.mk x4 x6 (0 : Int) (0 : Int)))) 0 rfl rfl rfl rfl rfl rfl (Put.cast Put.here rfl) rfl rfl sz121 rfl ?_
   refine AO.ag rfl rfl ?_
   refine AO.nH [2, 3] (H' := [(n2, (.mem (e121 (S121.mk x4 x6 (0 : Int) (0 : Int))))), (n7, (.mem (.ar 1 (x8.map eI64))))]) (Sub.cons 0 rfl (Sub.cons 1 rfl (Sub.nil _))) ?_
   refine AW.freezeS 1 [(3, (.fz 1 (x8.map eI64)))] rfl ⟨fz_all rfl, trivial⟩ ?_
   refine AW.rK [2, 3] ?_
   have hr := Option.some.inj h
   subst hr
   exact ⟨[(e121 (S121.mk x4 x6 (0 : Int) (0 : Int))), (.fz 1 (x8.map eI64))], ⟨⟨_, 0, rfl, rfl, ag121, sz121⟩, rfl, rfl, trivial⟩, rfl⟩
end Go.Avl.T7
/- bosket/byteset.Count; printed by avmain.py. -/
namespace Go.Avl.T7
open Go Go.RowKit Go.Proofs Go.Avl
set_option linter.unusedVariables false
set_option maxRecDepth 100000
set_option maxHeartbeats 4000000
attribute [local irreducible] AW AO AQ Spec SpecH Calm

def F101_c0 (k : Nat) (x3 : Int) : Option Int :=
  some (x3)
def F101_l1 (k : Nat) (p0 : (Vector Int 256)) : Nat → Int → Int → Option Int
  | 0, _, _ => none
  | j + 1, x4, x5 =>
    if x5 < (256 : Int) then if 0 ≤ x5 ∧ x5 < (256 : Int) then (F101_l1 k p0 j) (max x4 (w64 ((w64 (vget p0 x5)) + (1 : Int)))) (w64 (x5 + (1 : Int)))
    else none
    else F101_c0 k x4
def F101 (k : Nat) (p0 : (Vector Int 256)) : Option Int :=
  F101_l1 k p0 k (0 : Int) (0 : Int)
theorem F101_spec {k : Nat} {p0 : (Vector Int 256)} {r : Int} (h : F101 k p0 = some r) : Spec Try.prog 101 [(.ar 1 (p0.toList.map eU8))] (eI64 r) := by
  rw [F101.eq_1] at h
  refine Spec.intro (res := [.tmp 2]) Try.func101 rfl rfl rfl (Nat.le_of_ble_eq_true rfl) ?_
  refine AW.sr ?_
  refine AO.box rfl 1 rfl (by decide) rfl rfl rfl fun n2 => ?_
  refine AO.ag rfl rfl ?_
  refine AO.nK [1] ?_
  refine AW.sr ?_
  refine AO.ag rfl rfl ?_
  refine AO.nK [1, 3] ?_
  refine AW.seq_mid (fun ρ H => ∃ (x3 : Int), ρ = [(3, (eI64 x3))] ∧ H = [] ∧ F101_c0 k x3 = some r) ?_ ?_
  ·refine AW.sr ?_
   refine AO.c (Calm.load 0 rfl rfl rfl (At.cast At.here rfl) ag52 (by rw [sz52]; simp [AV.size])) ?_
   refine AO.mv rfl rfl ?_
   refine AO.nH [3, 6, 7] (H' := []) (Sub.nil _) ?_
   refine AW.block ?_
   refine AW.wK [3, 6, 7] ?_
   refine AW.loop (fun kq ρ H => ∃ (x4 : Int) (x5 : Int), ρ = [(3, (eI64 x4)), (6, (.ar 1 (p0.toList.map eU8))), (7, (eI64 x5))] ∧ H = [] ∧ F101_l1 k p0 kq x4 x5 = some r) k ⟨(0 : Int), (0 : Int), rfl, rfl, h⟩ ?_
   rintro kq7 _ _ ⟨x4, x5, rfl, rfl, h⟩
   cases kq7 with
   | zero => rw [F101_l1.eq_1] at h; cases h
   | succ kq7 =>
   rw [F101_l1.eq_2] at h
   generalize hrec6 : F101_l1 k p0 kq7 = rec6 at h
   refine AW.sr ?_
   refine AO.c (x := eBool (decide (x5 < (256 : Int)))) (Calm.int rfl rfl rfl rfl) ?_
   refine AO.nK [3, 6, 7, 8] ?_
   refine AW.seq ?_
   rcases of_ite h with ⟨hc8, h⟩ | ⟨hc8, h⟩
   ·refine AW.condP _ rfl hc8 ?_
    refine AW.sK [3, 6, 7] ?_
    refine AW.seq ?_
    refine AW.block ?_
    refine AW.sr ?_
    obtain ⟨hg9, h⟩ := of_guard h
    refine AO.c (x := eU8 (vget p0 x5)) (Calm.idxVv (f := eU8) rfl rfl rfl hg9 Try.underlying52 sz5 ag5 rfl) ?_
    refine AO.ag rfl rfl ?_
    refine AO.nK [3, 5, 6, 7] ?_
    refine AW.reg ?_
    refine AO.mv rfl rfl ?_
    refine AO.mv rfl rfl ?_
    refine AO.c (x := eI64 (w64 (vget p0 x5))) (Calm.conv rfl rfl Try.underlying5 Try.underlying3) ?_
    refine AO.c (x := eI64 (w64 ((w64 (vget p0 x5)) + (1 : Int)))) (Calm.int rfl rfl rfl rfl) ?_
    refine AO.c (x := eI64 (max x4 (w64 ((w64 (vget p0 x5)) + (1 : Int))))) (Calm.max2 rfl rfl rfl) ?_
    refine AO.ag rfl rfl ?_
    refine AO.nK [3, 6, 7] ?_
    refine AW.reg ?_
    refine AO.c (x := eI64 (w64 (x5 + (1 : Int)))) (Calm.int rfl rfl rfl rfl) ?_
    refine AO.mv rfl rfl ?_
    refine AO.nK [3, 6, 7] ?_
    exact ⟨kq7, Nat.lt_succ_self _, (max x4 (w64 ((w64 (vget p0 x5)) + (1 : Int)))), (w64 (x5 + (1 : Int))), rfl, rfl, by rw [hrec6]; exact h⟩
   ·refine AW.condN _ rfl hc8 ?_
    refine AW.eK [3] ?_
    exact ⟨x4, rfl, rfl, h⟩
  ·rintro _ _ ⟨x3, rfl, rfl, h⟩
   rw [F101_c0.eq_1] at h
   refine AW.sr ?_
   refine AO.mv rfl rfl ?_
   refine AO.ag rfl rfl ?_
   refine AO.nK [2] ?_
   refine AW.rK [2] ?_
   have hr := Option.some.inj h
   subst hr
   exact ⟨[(eI64 x3)], ⟨rfl, rfl, trivial⟩, rfl⟩
end Go.Avl.T7
/- bosket/dfa.gapless; printed by avmain.py. -/
namespace Go.Avl.T7
open Go Go.RowKit Go.Proofs Go.Avl
set_option linter.unusedVariables false
set_option maxRecDepth 100000
set_option maxHeartbeats 4000000
attribute [local irreducible] AW AO AQ Spec SpecH Calm

def F102_c0 (k : Nat) : Option Bool :=
  some (true)
def F102_l1 (k : Nat) (x6 : (List Bool)) : Nat → Int → Option Bool
  | 0, _ => none
  | j + 1, x7 =>
    if x7 < (x6.length : Int) then if 0 ≤ x7 ∧ x7 < (x6.length : Int) then if (!(lget x6 x7)) = true then some (false)
    else (F102_l1 k x6 j) (w64 (x7 + (1 : Int)))
    else none
    else F102_c0 k
def F102_c2 (k : Nat) (x6 : (List Bool)) : Option Bool :=
  F102_l1 k x6 k (0 : Int)
def F102_l3 (k : Nat) (p0 : (Vector Int 256)) : Nat → (List Bool) → Int → Option Bool
  | 0, _, _ => none
  | j + 1, x13, x14 =>
    if x14 < (256 : Int) then if 0 ≤ x14 ∧ x14 < (256 : Int) then if 0 ≤ (vget p0 x14) ∧ (vget p0 x14) < (x13.length : Int) then (F102_l3 k p0 j) (lset x13 (vget p0 x14) true) (w64 (x14 + (1 : Int)))
    else none
    else none
    else F102_c2 k x13
def F102 (k : Nat) (p0 : (Vector Int 256)) (p1 : Int) : Option Bool :=
  if 0 ≤ p1 ∧ p1 * (1 : Int) ≤ 140737488355328 ∧ p1 ≤ 9223372036854775807 then F102_l3 k p0 k (List.replicate p1.toNat false) (0 : Int)
  else none
theorem F102_spec {k : Nat} {p0 : (Vector Int 256)} {p1 : Int} {r : Bool} (h : F102 k p0 p1 = some r) : Spec Try.prog 102 [(.ar 1 (p0.toList.map eU8)), (eI64 p1)] (eBool r) := by
  rw [F102.eq_1] at h
  refine Spec.intro (res := [.tmp 4]) Try.func102 rfl rfl rfl (Nat.le_of_ble_eq_true rfl) ?_
  refine AW.sr ?_
  refine AO.box rfl 2 rfl (by decide) rfl rfl rfl fun n3 => ?_
  refine AO.ag rfl rfl ?_
  refine AO.nK [1, 2] ?_
  refine AW.sr ?_
  refine AO.mv rfl rfl ?_
  obtain ⟨hg5, h⟩ := of_guard h
  refine AO.makeL (f := eBool) false rfl 11 rfl (by decide) rfl rfl rfl Try.underlying98 sz4 by4 zr4 lay4 rfl hg5 fun n4 => ?_
  refine AO.ag rfl rfl ?_
  refine AO.nH [2, 5] (H' := [(n3, (.mem (.ar 1 (p0.toList.map eU8)))), (n4, (.mem (.ar 1 ((List.replicate p1.toNat false).map eBool))))]) (Sub.cons 1 rfl (Sub.cons 0 rfl (Sub.nil _))) ?_
  refine AW.seq_mid (fun ρ H => ∃ (x6 : (List Bool)), ρ = [(5, (.own n4 0 x6.length))] ∧ H = [(n4, (.mem (.ar 1 (x6.map eBool))))] ∧ F102_c2 k x6 = some r) ?_ ?_
  ·refine AW.sr ?_
   refine AO.c (Calm.load 0 rfl rfl rfl (At.cast At.here rfl) ag52 (by rw [sz52]; simp [AV.size])) ?_
   refine AO.mv rfl rfl ?_
   refine AO.nH [5, 12, 13] (H' := [(n4, (.mem (.ar 1 ((List.replicate p1.toNat false).map eBool))))]) (Sub.cons 1 rfl (Sub.nil _)) ?_
   refine AW.block ?_
   refine AW.wK [5, 12, 13] ?_
   refine AW.loop (fun kq ρ H => ∃ (x13 : (List Bool)) (x14 : Int), ρ = [(5, (.own n4 0 x13.length)), (12, (.ar 1 (p0.toList.map eU8))), (13, (eI64 x14))] ∧ H = [(n4, (.mem (.ar 1 (x13.map eBool))))] ∧ F102_l3 k p0 kq x13 x14 = some r) k ⟨(List.replicate p1.toNat false), (0 : Int), rfl, rfl, h⟩ ?_
   rintro kq16 _ _ ⟨x13, x14, rfl, rfl, h⟩
   cases kq16 with
   | zero => rw [F102_l3.eq_1] at h; cases h
   | succ kq16 =>
   rw [F102_l3.eq_2] at h
   generalize hrec15 : F102_l3 k p0 kq16 = rec15 at h
   refine AW.sr ?_
   refine AO.c (x := eBool (decide (x14 < (256 : Int)))) (Calm.int rfl rfl rfl rfl) ?_
   refine AO.nK [5, 12, 13, 14] ?_
   refine AW.seq ?_
   rcases of_ite h with ⟨hc17, h⟩ | ⟨hc17, h⟩
   ·refine AW.condP _ rfl hc17 ?_
    refine AW.sK [5, 12, 13] ?_
    refine AW.seq ?_
    refine AW.block ?_
    refine AW.sr ?_
    obtain ⟨hg18, h⟩ := of_guard h
    refine AO.c (x := eU8 (vget p0 x14)) (Calm.idxVv (f := eU8) rfl rfl rfl hg18 Try.underlying52 sz5 ag5 rfl) ?_
    refine AO.ag rfl rfl ?_
    refine AO.nK [5, 7, 12, 13] ?_
    refine AW.reg ?_
    refine AO.mv rfl rfl ?_
    refine AO.mv rfl rfl ?_
    obtain ⟨hg19, h⟩ := of_guard h
    refine AO.c (Calm.idxO 0 rfl rfl rfl rfl hg19 Try.underlying98 sz4) ?_
    refine AO.store (X' := (.ar 1 ((lset x13 (vget p0 x14) true).map eBool))) 0 rfl rfl rfl rfl rfl rfl (Put.cast (Put.lidx (vget p0 x14) true hg19.1 hg19.2 Put.here) (by omega)) rfl rfl sz4 rfl ?_
    refine AO.coe 5 (y' := (.own n4 0 (lset x13 (vget p0 x14) true).length)) rfl (fun _ _ h => lset_own h) ?_
    refine AO.coe 16 (y' := (.own n4 0 (lset x13 (vget p0 x14) true).length)) rfl (fun _ _ h => lset_own h) ?_
    refine AO.nK [5, 12, 13] ?_
    refine AW.reg ?_
    refine AO.c (x := eI64 (w64 (x14 + (1 : Int)))) (Calm.int rfl rfl rfl rfl) ?_
    refine AO.mv rfl rfl ?_
    refine AO.nK [5, 12, 13] ?_
    exact ⟨kq16, Nat.lt_succ_self _, (lset x13 (vget p0 x14) true), (w64 (x14 + (1 : Int))), rfl, rfl, by rw [hrec15]; exact h⟩
   ·refine AW.condN _ rfl hc17 ?_
    refine AW.eK [5] ?_
    exact ⟨x13, rfl, rfl, h⟩
  ·rintro _ _ ⟨x6, rfl, rfl, h⟩
   rw [F102_c2.eq_1] at h
   refine AW.seq_mid (fun ρ H => ρ = [] ∧ H = [] ∧ F102_c0 k = some r) ?_ ?_
   ·refine AW.sr ?_
    refine AO.mv rfl rfl ?_
    refine AO.c (Calm.lenOwn rfl rfl Try.underlying98) ?_
    refine AO.mv rfl rfl ?_
    refine AO.nK [20, 21, 22] ?_
    refine AW.block ?_
    refine AW.wK [20, 21, 22] ?_
    refine AW.loop (fun kq ρ H => ∃ (x7 : Int), ρ = [(20, (.own n4 0 x6.length)), (21, (eI64 (x6.length : Int))), (22, (eI64 x7))] ∧ H = [(n4, (.mem (.ar 1 (x6.map eBool))))] ∧ F102_l1 k x6 kq x7 = some r) k ⟨(0 : Int), rfl, rfl, h⟩ ?_
    rintro kq9 _ _ ⟨x7, rfl, rfl, h⟩
    cases kq9 with
    | zero => rw [F102_l1.eq_1] at h; cases h
    | succ kq9 =>
    rw [F102_l1.eq_2] at h
    generalize hrec8 : F102_l1 k x6 kq9 = rec8 at h
    refine AW.sr ?_
    refine AO.c (x := eBool (decide (x7 < (x6.length : Int)))) (Calm.int rfl rfl rfl rfl) ?_
    refine AO.nK [20, 21, 22, 23] ?_
    refine AW.seq ?_
    rcases of_ite h with ⟨hc10, h⟩ | ⟨hc10, h⟩
    ·refine AW.condP _ rfl hc10 ?_
     refine AW.sK [20, 21, 22] ?_
     refine AW.seq ?_
     refine AW.block ?_
     refine AW.sr ?_
     obtain ⟨hg11, h⟩ := of_guard h
     refine AO.c (Calm.idxO 0 rfl rfl rfl rfl hg11 Try.underlying98 sz4) ?_
     refine AO.c (Calm.load 0 rfl rfl rfl (At.cast (At.lidx x7 hg11.1 hg11.2 At.here) (by omega)) ag4 sz4) ?_
     refine AO.ag rfl rfl ?_
     refine AO.nK [9, 20, 21, 22] ?_
     refine AW.sr ?_
     refine AO.mv rfl rfl ?_
     refine AO.c (Calm.not rfl rfl) ?_
     refine AO.nK [20, 21, 22, 27] ?_
     rcases of_ite h with ⟨hc12, h⟩ | ⟨hc12, h⟩
     ·refine AW.condT' _ rfl hc12 ?_
      refine AW.sr ?_
      refine AO.ag rfl rfl ?_
      refine AO.nH [4] (H' := []) (Sub.nil _) ?_
      refine AW.rK [4] ?_
      have hr := Option.some.inj h
      subst hr
      exact ⟨[(eBool false)], ⟨rfl, rfl, trivial⟩, rfl⟩
     ·refine AW.condF' _ rfl hc12 ?_
      refine AW.sK [20, 21, 22] ?_
      refine AW.reg ?_
      refine AO.c (x := eI64 (w64 (x7 + (1 : Int)))) (Calm.int rfl rfl rfl rfl) ?_
      refine AO.mv rfl rfl ?_
      refine AO.nK [20, 21, 22] ?_
      exact ⟨kq9, Nat.lt_succ_self _, (w64 (x7 + (1 : Int))), rfl, rfl, by rw [hrec8]; exact h⟩
    ·refine AW.condN _ rfl hc10 ?_
     refine AW.eH [] (H' := []) (Sub.nil _) ?_
     exact ⟨rfl, rfl, h⟩
   ·rintro _ _ ⟨rfl, rfl, h⟩
    rw [F102_c0.eq_1] at h
    refine AW.sr ?_
    refine AO.ag rfl rfl ?_
    refine AO.nK [4] ?_
    refine AW.rK [4] ?_
    have hr := Option.some.inj h
    subst hr
    exact ⟨[(eBool true)], ⟨rfl, rfl, trivial⟩, rfl⟩
end Go.Avl.T7
/- bosket/dfa.Right; printed by avmain.py. -/
namespace Go.Avl.T7
open Go Go.RowKit Go.Proofs Go.Avl
set_option linter.unusedVariables false
set_option maxRecDepth 100000
set_option maxHeartbeats 4000000
attribute [local irreducible] AW AO AQ Spec SpecH Calm

def F78_c0 (k : Nat) : Option Bool :=
  some (true)
def F78_c1 (k : Nat) (rec12 : (Int → Option Bool)) (x11 : Int) : Option Bool :=
  rec12 (w64 (x11 + (1 : Int)))
def F78_l2 (k : Nat) (rec12 : (Int → Option Bool)) (p0 : S55) (x11 : Int) : Nat → Int → Option Bool
  | 0, _ => none
  | j + 1, x23 =>
    if x23 < ((lget p0.f1 x11).length : Int) then if 0 ≤ x23 ∧ x23 < ((lget p0.f1 x11).length : Int) then Option.bind (α := Bool) (if (lget (lget p0.f1 x11) x23) < (-1 : Int) then some (true)
    else some (decide ((p0.f1.length : Int) ≤ (lget (lget p0.f1 x11) x23)))) fun b28 =>
    if b28 = true then some (false)
    else (F78_l2 k rec12 p0 x11 j) (w64 (x23 + (1 : Int)))
    else none
    else F78_c1 k rec12 x11
def F78_l3 (k : Nat) (p0 : S55) (t8 : Int) : Nat → Int → Option Bool
  | 0, _ => none
  | j + 1, x11 =>
    if x11 < (p0.f1.length : Int) then if 0 ≤ x11 ∧ x11 < (p0.f1.length : Int) then Option.bind (α := Bool) (if ((lget p0.f1 x11).length : Int) ≠ t8 then some (true)
    else if 0 ≤ x11 ∧ x11 < (p0.f2.length : Int) then if (lget p0.f2 x11) < (-1 : Int) then some (true)
    else if 0 ≤ x11 ∧ x11 < (p0.f2.length : Int) then some (decide ((32768 : Int) ≤ (lget p0.f2 x11)))
    else none
    else none) fun b16 =>
    if b16 = true then some (false)
    else F78_l2 k (F78_l3 k p0 t8 j) p0 x11 k (0 : Int)
    else none
    else F78_c0 k
def F78 (k : Nat) (p0 : S55) : Option Bool :=
  Option.bind (α := Bool) (if (p0.f1.length : Int) = (0 : Int) then some (true)
  else if (32768 : Int) < (p0.f1.length : Int) then some (true)
  else some (decide ((p0.f2.length : Int) ≠ (p0.f1.length : Int)))) fun b3 =>
  if b3 = true then some (false)
  else (F101 k p0.f0).bind fun t8 =>
  (F102 k p0.f0 t8).bind fun t9 =>
  if (!t9) = true then some (false)
  else F78_l3 k p0 t8 k (0 : Int)
theorem F78_spec {k : Nat} {p0 : S55} {r : Bool} (h : F78 k p0 = some r) : Spec Try.prog 78 [(e55 p0)] (eBool r) := by
  rw [F78.eq_1] at h
  refine Spec.intro (res := [.tmp 2]) Try.func78 rfl rfl rfl (Nat.le_of_ble_eq_true rfl) ?_
  refine AW.sr ?_
  refine AO.box rfl 1 rfl (by decide) rfl rfl rfl fun n2 => ?_
  refine AO.ag rfl rfl ?_
  refine AO.nK [1] ?_
  refine AW.sr ?_
  refine AO.c (x := .ptr n2 256) (Calm.fldPtr rfl rfl Try.underlying55 rfl sz53 _ rfl) ?_
  refine AO.c (Calm.load 0 rfl rfl rfl (At.cast (At.fldS (At.fld0 At.here)) rfl) ag53 sz53) ?_
  refine AO.c (Calm.lenL rfl rfl Try.underlying53) ?_
  refine AO.ag rfl rfl ?_
  refine AO.nK [1, 3] ?_
  refine AW.seq ?_
  refine AW.seq ?_
  obtain ⟨b3, hq4, h⟩ := of_bind h
  refine AW.regM [(1, (.ptr n2 0)), (3, (eI64 (p0.f1.length : Int))), (24, (eBool b3))] [(n2, (.mem (e55 p0)))] ?_ ?_
  ·refine AO.mv rfl rfl ?_
   refine AO.c (x := eBool (decide ((p0.f1.length : Int) = (0 : Int)))) (Calm.int rfl rfl rfl rfl) ?_
   refine AO.mv rfl rfl ?_
   rcases of_ite hq4 with ⟨hc5, hq4⟩ | ⟨hc5, hq4⟩
   ·refine AO.sF rfl rfl (bD (decide_eq_true hc5)) ?_
    refine AO.sF rfl rfl (bD (decide_eq_true hc5)) ?_
    refine AO.c (Calm.pickT rfl (bD (decide_eq_true hc5)) rfl) ?_
    refine AO.mv rfl rfl ?_
    refine AO.sF rfl rfl rfl ?_
    refine AO.sF rfl rfl rfl ?_
    refine AO.sF rfl rfl rfl ?_
    refine AO.sF rfl rfl rfl ?_
    refine AO.sF rfl rfl rfl ?_
    refine AO.c (Calm.pickT rfl rfl rfl) ?_
    cases hq4
    refine AO.nilE ⟨rfl, rfl⟩ ?_ ?_
    · exact ⟨rfl, rfl, rfl, trivial⟩
    · exact (Sub.refl _)
   ·refine AO.cG rfl rfl (bD (decide_eq_false hc5)) (Calm.move rfl rfl) ?_
    refine AO.cG (x := eBool (decide ((32768 : Int) < (p0.f1.length : Int)))) rfl rfl (bD (decide_eq_false hc5)) (Calm.int rfl rfl rfl rfl) ?_
    refine AO.c (Calm.pickF rfl (bD (decide_eq_false hc5)) rfl) ?_
    refine AO.mv rfl rfl ?_
    rcases of_ite hq4 with ⟨hc6, hq4⟩ | ⟨hc6, hq4⟩
    ·refine AO.sF rfl rfl (bD (decide_eq_true hc6)) ?_
     refine AO.sF rfl rfl (bD (decide_eq_true hc6)) ?_
     refine AO.sF rfl rfl (bD (decide_eq_true hc6)) ?_
     refine AO.sF rfl rfl (bD (decide_eq_true hc6)) ?_
     refine AO.sF rfl rfl (bD (decide_eq_true hc6)) ?_
     refine AO.c (Calm.pickT rfl (bD (decide_eq_true hc6)) rfl) ?_
     cases hq4
     refine AO.nilE ⟨rfl, rfl⟩ ?_ ?_
     · exact ⟨rfl, rfl, rfl, trivial⟩
     · exact (Sub.refl _)
    ·refine AO.cG (x := .ptr n2 257) rfl rfl (bD (decide_eq_false hc6)) (Calm.fldPtr rfl rfl Try.underlying55 rfl sz35 _ rfl) ?_
     refine AO.cG rfl rfl (bD (decide_eq_false hc6)) (Calm.load 0 rfl rfl rfl (At.cast (At.fldS (At.fldS (At.fld0 At.here))) rfl) ag35 sz35) ?_
     refine AO.cG rfl rfl (bD (decide_eq_false hc6)) (Calm.lenL rfl rfl Try.underlying35) ?_
     refine AO.cG rfl rfl (bD (decide_eq_false hc6)) (Calm.move rfl rfl) ?_
     refine AO.cG (x := eBool (decide ((p0.f2.length : Int) ≠ (p0.f1.length : Int)))) rfl rfl (bD (decide_eq_false hc6)) (Calm.int rfl rfl rfl rfl) ?_
     refine AO.c (Calm.pickF rfl (bD (decide_eq_false hc6)) rfl) ?_
     cases hq4
     refine AO.nilE ⟨rfl, rfl⟩ ?_ ?_
     · exact ⟨rfl, rfl, rfl, trivial⟩
     · exact (Sub.refl _)
  ·rcases of_ite h with ⟨hc7, h⟩ | ⟨hc7, h⟩
   ·refine AW.condT' _ rfl hc7 ?_
    refine AW.sr ?_
    refine AO.ag rfl rfl ?_
    refine AO.nH [2] (H' := []) (Sub.nil _) ?_
    refine AW.rK [2] ?_
    have hr := Option.some.inj h
    subst hr
    exact ⟨[(eBool false)], ⟨rfl, rfl, trivial⟩, rfl⟩
   ·refine AW.condF' _ rfl hc7 ?_
    refine AW.sK [1, 3] ?_
    refine AW.sr ?_
    refine AO.c (x := .ptr n2 0) (Calm.fldPtr rfl rfl Try.underlying55 rfl sz52 _ rfl) ?_
    refine AO.c (Calm.load 0 rfl rfl rfl (At.cast (At.fld0 At.here) rfl) ag52 (by rw [sz52]; simp [AV.size])) ?_
    obtain ⟨t8, et8, h⟩ := of_bind h
    refine AO.callS [(.ar 1 (p0.f0.toList.map eU8))] (eI64 t8) 27 rfl (by decide) ok101 rfl rfl rfl ⟨rfl, rfl, trivial⟩ (F101_spec et8) ?_
    refine AO.ag rfl rfl ?_
    refine AO.nK [1, 3, 4] ?_
    refine AW.seq ?_
    refine AW.sr ?_
    refine AO.c (x := .ptr n2 0) (Calm.fldPtr rfl rfl Try.underlying55 rfl sz52 _ rfl) ?_
    refine AO.c (Calm.load 0 rfl rfl rfl (At.cast (At.fld0 At.here) rfl) ag52 (by rw [sz52]; simp [AV.size])) ?_
    refine AO.mv rfl rfl ?_
    obtain ⟨t9, et9, h⟩ := of_bind h
    refine AO.callS [(.ar 1 (p0.f0.toList.map eU8)), (eI64 t8)] (eBool t9) 31 rfl (by decide) ok102 rfl rfl rfl ⟨rfl, rfl, rfl, rfl, trivial⟩ (F102_spec et9) ?_
    refine AO.c (Calm.not rfl rfl) ?_
    refine AO.nK [1, 3, 4, 32] ?_
    rcases of_ite h with ⟨hc10, h⟩ | ⟨hc10, h⟩
    ·refine AW.condT' _ rfl hc10 ?_
     refine AW.sr ?_
     refine AO.ag rfl rfl ?_
     refine AO.nH [2] (H' := []) (Sub.nil _) ?_
     refine AW.rK [2] ?_
     have hr := Option.some.inj h
     subst hr
     exact ⟨[(eBool false)], ⟨rfl, rfl, trivial⟩, rfl⟩
    ·refine AW.condF' _ rfl hc10 ?_
     refine AW.sK [1, 3, 4] ?_
     refine AW.seq_mid (fun ρ H => ρ = [] ∧ H = [] ∧ F78_c0 k = some r) ?_ ?_
     ·refine AW.sr ?_
      refine AO.c (x := .ptr n2 256) (Calm.fldPtr rfl rfl Try.underlying55 rfl sz53 _ rfl) ?_
      refine AO.c (Calm.load 0 rfl rfl rfl (At.cast (At.fldS (At.fld0 At.here)) rfl) ag53 sz53) ?_
      refine AO.c (Calm.lenL rfl rfl Try.underlying53) ?_
      refine AO.mv rfl rfl ?_
      refine AO.nK [1, 3, 4, 34, 35, 36] ?_
      refine AW.block ?_
      refine AW.wK [1, 3, 4, 34, 35, 36] ?_
      refine AW.loop (fun kq ρ H => ∃ (x11 : Int), ρ = [(1, (.ptr n2 0)), (3, (eI64 (p0.f1.length : Int))), (4, (eI64 t8)), (34, (.fz 1 (p0.f1.map e35))), (35, (eI64 (p0.f1.length : Int))), (36, (eI64 x11))] ∧ H = [(n2, (.mem (e55 p0)))] ∧ F78_l3 k p0 t8 kq x11 = some r) k ⟨(0 : Int), rfl, rfl, h⟩ ?_
      rintro kq13 _ _ ⟨x11, rfl, rfl, h⟩
      cases kq13 with
      | zero => rw [F78_l3.eq_1] at h; cases h
      | succ kq13 =>
      rw [F78_l3.eq_2] at h
      generalize hrec12 : F78_l3 k p0 t8 kq13 = rec12 at h
      refine AW.sr ?_
      refine AO.c (x := eBool (decide (x11 < (p0.f1.length : Int)))) (Calm.int rfl rfl rfl rfl) ?_
      refine AO.nK [1, 3, 4, 34, 35, 36, 37] ?_
      refine AW.seq ?_
      rcases of_ite h with ⟨hc14, h⟩ | ⟨hc14, h⟩
      ·refine AW.condP _ rfl hc14 ?_
       refine AW.sK [1, 3, 4, 34, 35, 36] ?_
       refine AW.seq_mid (fun ρ H => ρ = [(1, (.ptr n2 0)), (3, (eI64 (p0.f1.length : Int))), (4, (eI64 t8)), (34, (.fz 1 (p0.f1.map e35))), (35, (eI64 (p0.f1.length : Int))), (36, (eI64 x11))] ∧ H = [(n2, (.mem (e55 p0)))] ∧ F78_c1 k rec12 x11 = some r) ?_ ?_
       ·refine AW.block ?_
        refine AW.sr ?_
        refine AO.mv rfl rfl ?_
        obtain ⟨hg15, h⟩ := of_guard h
        refine AO.c (Calm.idxL (f := e35) rfl rfl rfl hg15 Try.underlying53 sz35) ?_
        refine AO.c (Calm.loadRp rfl rfl ag35 sz35) ?_
        refine AO.ag rfl rfl ?_
        refine AO.ag rfl rfl ?_
        refine AO.nK [1, 3, 4, 5, 6, 34, 35, 36] ?_
        refine AW.seq ?_
        refine AW.seq ?_
        obtain ⟨b16, hq17, h⟩ := of_bind h
        refine AW.regM [(1, (.ptr n2 0)), (3, (eI64 (p0.f1.length : Int))), (4, (eI64 t8)), (6, (.fz 1 ((lget p0.f1 x11).map eI64))), (34, (.fz 1 (p0.f1.map e35))), (35, (eI64 (p0.f1.length : Int))), (36, (eI64 x11)), (60, (eBool b16))] [(n2, (.mem (e55 p0)))] ?_ ?_
        ·refine AO.mv rfl rfl ?_
         refine AO.c (Calm.lenL rfl rfl Try.underlying35) ?_
         refine AO.mv rfl rfl ?_
         refine AO.c (x := eBool (decide (((lget p0.f1 x11).length : Int) ≠ t8))) (Calm.int rfl rfl rfl rfl) ?_
         refine AO.mv rfl rfl ?_
         rcases of_ite hq17 with ⟨hc18, hq17⟩ | ⟨hc18, hq17⟩
         ·refine AO.sF rfl rfl (bD (decide_eq_true hc18)) ?_
          refine AO.sF rfl rfl (bD (decide_eq_true hc18)) ?_
          refine AO.sF rfl rfl (bD (decide_eq_true hc18)) ?_
          refine AO.sF rfl rfl (bD (decide_eq_true hc18)) ?_
          refine AO.sF rfl rfl (bD (decide_eq_true hc18)) ?_
          refine AO.sF rfl rfl (bD (decide_eq_true hc18)) ?_
          refine AO.c (Calm.pickT rfl (bD (decide_eq_true hc18)) rfl) ?_
          refine AO.mv rfl rfl ?_
          refine AO.sF rfl rfl rfl ?_
          refine AO.sF rfl rfl rfl ?_
          refine AO.sF rfl rfl rfl ?_
          refine AO.sF rfl rfl rfl ?_
          refine AO.sF rfl rfl rfl ?_
          refine AO.sF rfl rfl rfl ?_
          refine AO.c (Calm.pickT rfl rfl rfl) ?_
          cases hq17
          refine AO.nilE ⟨rfl, rfl⟩ ?_ ?_
          · exact ⟨rfl, rfl, rfl, rfl, rfl, rfl, rfl, rfl, trivial⟩
          · exact (Sub.refl _)
         ·refine AO.cG (x := .ptr n2 257) rfl rfl (bD (decide_eq_false hc18)) (Calm.fldPtr rfl rfl Try.underlying55 rfl sz35 _ rfl) ?_
          refine AO.cG rfl rfl (bD (decide_eq_false hc18)) (Calm.load 0 rfl rfl rfl (At.cast (At.fldS (At.fldS (At.fld0 At.here))) rfl) ag35 sz35) ?_
          refine AO.cG rfl rfl (bD (decide_eq_false hc18)) (Calm.move rfl rfl) ?_
          obtain ⟨hg19, hq17⟩ := of_guard hq17
          refine AO.cG rfl rfl (bD (decide_eq_false hc18)) (Calm.idxL (f := eI64) rfl rfl rfl hg19 Try.underlying35 sz3) ?_
          refine AO.cG rfl rfl (bD (decide_eq_false hc18)) (Calm.loadRp rfl rfl ag3 sz3) ?_
          refine AO.cG (x := eBool (decide ((lget p0.f2 x11) < (-1 : Int)))) rfl rfl (bD (decide_eq_false hc18)) (Calm.int rfl rfl rfl rfl) ?_
          refine AO.c (Calm.pickF rfl (bD (decide_eq_false hc18)) rfl) ?_
          refine AO.mv rfl rfl ?_
          rcases of_ite hq17 with ⟨hc20, hq17⟩ | ⟨hc20, hq17⟩
          ·refine AO.sF rfl rfl (bD (decide_eq_true hc20)) ?_
           refine AO.sF rfl rfl (bD (decide_eq_true hc20)) ?_
           refine AO.sF rfl rfl (bD (decide_eq_true hc20)) ?_
           refine AO.sF rfl rfl (bD (decide_eq_true hc20)) ?_
           refine AO.sF rfl rfl (bD (decide_eq_true hc20)) ?_
           refine AO.sF rfl rfl (bD (decide_eq_true hc20)) ?_
           refine AO.c (Calm.pickT rfl (bD (decide_eq_true hc20)) rfl) ?_
           cases hq17
           refine AO.nilE ⟨rfl, rfl⟩ ?_ ?_
           · exact ⟨rfl, rfl, rfl, rfl, rfl, rfl, rfl, rfl, trivial⟩
           · exact (Sub.refl _)
          ·refine AO.cG (x := .ptr n2 257) rfl rfl (bD (decide_eq_false hc20)) (Calm.fldPtr rfl rfl Try.underlying55 rfl sz35 _ rfl) ?_
           refine AO.cG rfl rfl (bD (decide_eq_false hc20)) (Calm.load 0 rfl rfl rfl (At.cast (At.fldS (At.fldS (At.fld0 At.here))) rfl) ag35 sz35) ?_
           refine AO.cG rfl rfl (bD (decide_eq_false hc20)) (Calm.move rfl rfl) ?_
           obtain ⟨hg21, hq17⟩ := of_guard hq17
           refine AO.cG rfl rfl (bD (decide_eq_false hc20)) (Calm.idxL (f := eI64) rfl rfl rfl hg21 Try.underlying35 sz3) ?_
           refine AO.cG rfl rfl (bD (decide_eq_false hc20)) (Calm.loadRp rfl rfl ag3 sz3) ?_
           refine AO.cG (x := eBool (decide ((32768 : Int) ≤ (lget p0.f2 x11)))) rfl rfl (bD (decide_eq_false hc20)) (Calm.int rfl rfl rfl rfl) ?_
           refine AO.c (Calm.pickF rfl (bD (decide_eq_false hc20)) rfl) ?_
           cases hq17
           refine AO.nilE ⟨rfl, rfl⟩ ?_ ?_
           · exact ⟨rfl, rfl, rfl, rfl, rfl, rfl, rfl, rfl, trivial⟩
           · exact (Sub.refl _)
        ·rcases of_ite h with ⟨hc22, h⟩ | ⟨hc22, h⟩
         ·refine AW.condT' _ rfl hc22 ?_
          refine AW.sr ?_
          refine AO.ag rfl rfl ?_
          refine AO.nH [2] (H' := []) (Sub.nil _) ?_
          refine AW.rK [2] ?_
          have hr := Option.some.inj h
          subst hr
          exact ⟨[(eBool false)], ⟨rfl, rfl, trivial⟩, rfl⟩
         ·refine AW.condF' _ rfl hc22 ?_
          refine AW.sK [1, 3, 4, 6, 34, 35, 36] ?_
          refine AW.sr ?_
          refine AO.mv rfl rfl ?_
          refine AO.c (Calm.lenL rfl rfl Try.underlying35) ?_
          refine AO.mv rfl rfl ?_
          refine AO.nK [1, 3, 4, 34, 35, 36, 61, 62, 63] ?_
          refine AW.block ?_
          refine AW.wK [1, 3, 4, 34, 35, 36, 61, 62, 63] ?_
          refine AW.loop (fun kq ρ H => ∃ (x23 : Int), ρ = [(1, (.ptr n2 0)), (3, (eI64 (p0.f1.length : Int))), (4, (eI64 t8)), (34, (.fz 1 (p0.f1.map e35))), (35, (eI64 (p0.f1.length : Int))), (36, (eI64 x11)), (61, (.fz 1 ((lget p0.f1 x11).map eI64))), (62, (eI64 ((lget p0.f1 x11).length : Int))), (63, (eI64 x23))] ∧ H = [(n2, (.mem (e55 p0)))] ∧ F78_l2 k rec12 p0 x11 kq x23 = some r) k ⟨(0 : Int), rfl, rfl, h⟩ ?_
          rintro kq25 _ _ ⟨x23, rfl, rfl, h⟩
          cases kq25 with
          | zero => rw [F78_l2.eq_1] at h; cases h
          | succ kq25 =>
          rw [F78_l2.eq_2] at h
          generalize hrec24 : F78_l2 k rec12 p0 x11 kq25 = rec24 at h
          refine AW.sr ?_
          refine AO.c (x := eBool (decide (x23 < ((lget p0.f1 x11).length : Int)))) (Calm.int rfl rfl rfl rfl) ?_
          refine AO.nK [1, 3, 4, 34, 35, 36, 61, 62, 63, 64] ?_
          refine AW.seq ?_
          rcases of_ite h with ⟨hc26, h⟩ | ⟨hc26, h⟩
          ·refine AW.condP _ rfl hc26 ?_
           refine AW.sK [1, 3, 4, 34, 35, 36, 61, 62, 63] ?_
           refine AW.seq ?_
           refine AW.block ?_
           refine AW.sr ?_
           obtain ⟨hg27, h⟩ := of_guard h
           refine AO.c (Calm.idxL (f := eI64) rfl rfl rfl hg27 Try.underlying35 sz3) ?_
           refine AO.c (Calm.loadRp rfl rfl ag3 sz3) ?_
           refine AO.ag rfl rfl ?_
           refine AO.nK [1, 3, 4, 8, 34, 35, 36, 61, 62, 63] ?_
           refine AW.seq ?_
           obtain ⟨b28, hq29, h⟩ := of_bind h
           refine AW.regM [(1, (.ptr n2 0)), (3, (eI64 (p0.f1.length : Int))), (4, (eI64 t8)), (34, (.fz 1 (p0.f1.map e35))), (35, (eI64 (p0.f1.length : Int))), (36, (eI64 x11)), (61, (.fz 1 ((lget p0.f1 x11).map eI64))), (62, (eI64 ((lget p0.f1 x11).length : Int))), (63, (eI64 x23)), (73, (eBool b28))] [(n2, (.mem (e55 p0)))] ?_ ?_
           ·refine AO.mv rfl rfl ?_
            refine AO.c (x := eBool (decide ((lget (lget p0.f1 x11) x23) < (-1 : Int)))) (Calm.int rfl rfl rfl rfl) ?_
            refine AO.mv rfl rfl ?_
            rcases of_ite hq29 with ⟨hc30, hq29⟩ | ⟨hc30, hq29⟩
            ·refine AO.sF rfl rfl (bD (decide_eq_true hc30)) ?_
             refine AO.sF rfl rfl (bD (decide_eq_true hc30)) ?_
             refine AO.sF rfl rfl (bD (decide_eq_true hc30)) ?_
             refine AO.c (Calm.pickT rfl (bD (decide_eq_true hc30)) rfl) ?_
             cases hq29
             refine AO.nilE ⟨rfl, rfl⟩ ?_ ?_
             · exact ⟨rfl, rfl, rfl, rfl, rfl, rfl, rfl, rfl, rfl, rfl, trivial⟩
             · exact (Sub.refl _)
            ·refine AO.cG rfl rfl (bD (decide_eq_false hc30)) (Calm.move rfl rfl) ?_
             refine AO.cG rfl rfl (bD (decide_eq_false hc30)) (Calm.move rfl rfl) ?_
             refine AO.cG (x := eBool (decide ((p0.f1.length : Int) ≤ (lget (lget p0.f1 x11) x23)))) rfl rfl (bD (decide_eq_false hc30)) (Calm.int rfl rfl rfl rfl) ?_
             refine AO.c (Calm.pickF rfl (bD (decide_eq_false hc30)) rfl) ?_
             cases hq29
             refine AO.nilE ⟨rfl, rfl⟩ ?_ ?_
             · exact ⟨rfl, rfl, rfl, rfl, rfl, rfl, rfl, rfl, rfl, rfl, trivial⟩
             · exact (Sub.refl _)
           ·rcases of_ite h with ⟨hc31, h⟩ | ⟨hc31, h⟩
            ·refine AW.condT' _ rfl hc31 ?_
             refine AW.sr ?_
             refine AO.ag rfl rfl ?_
             refine AO.nH [2] (H' := []) (Sub.nil _) ?_
             refine AW.rK [2] ?_
             have hr := Option.some.inj h
             subst hr
             exact ⟨[(eBool false)], ⟨rfl, rfl, trivial⟩, rfl⟩
            ·refine AW.condF' _ rfl hc31 ?_
             refine AW.sK [1, 3, 4, 34, 35, 36, 61, 62, 63] ?_
             refine AW.reg ?_
             refine AO.c (x := eI64 (w64 (x23 + (1 : Int)))) (Calm.int rfl rfl rfl rfl) ?_
             refine AO.mv rfl rfl ?_
             refine AO.nK [1, 3, 4, 34, 35, 36, 61, 62, 63] ?_
             exact ⟨kq25, Nat.lt_succ_self _, (w64 (x23 + (1 : Int))), rfl, rfl, by rw [hrec24]; exact h⟩
          ·refine AW.condN _ rfl hc26 ?_
           refine AW.eK [1, 3, 4, 34, 35, 36] ?_
           exact ⟨rfl, rfl, h⟩
       ·rintro _ _ ⟨rfl, rfl, h⟩
        rw [F78_c1.eq_1] at h
        refine AW.reg ?_
        refine AO.c (x := eI64 (w64 (x11 + (1 : Int)))) (Calm.int rfl rfl rfl rfl) ?_
        refine AO.mv rfl rfl ?_
        refine AO.nK [1, 3, 4, 34, 35, 36] ?_
        exact ⟨kq13, Nat.lt_succ_self _, (w64 (x11 + (1 : Int))), rfl, rfl, by rw [hrec12]; exact h⟩
      ·refine AW.condN _ rfl hc14 ?_
       refine AW.eH [] (H' := []) (Sub.nil _) ?_
       exact ⟨rfl, rfl, h⟩
     ·rintro _ _ ⟨rfl, rfl, h⟩
      rw [F78_c0.eq_1] at h
      refine AW.sr ?_
      refine AO.ag rfl rfl ?_
      refine AO.nK [2] ?_
      refine AW.rK [2] ?_
      have hr := Option.some.inj h
      subst hr
      exact ⟨[(eBool true)], ⟨rfl, rfl, trivial⟩, rfl⟩
end Go.Avl.T7
/- bosket/dfa.Alive; printed by avmain.py. -/
namespace Go.Avl.T7
open Go Go.RowKit Go.Proofs Go.Avl
set_option linter.unusedVariables false
set_option maxRecDepth 100000
set_option maxHeartbeats 4000000
attribute [local irreducible] AW AO AQ Spec SpecH Calm

def F103_c0 (k : Nat) (x6 : (List Bool)) : Option (List Bool) :=
  some (x6)
def F103_c1 (k : Nat) (rec15 : ((List Bool) → Bool → Int → Option (List Bool))) (x14 : Int) (x18 : (List Bool)) (b19 : Bool) : Option (List Bool) :=
  rec15 x18 b19 (w64 (x14 + (1 : Int)))
def F103_l2 (k : Nat) (rec15 : ((List Bool) → Bool → Int → Option (List Bool))) (p0 : S55) (x12 : (List Bool)) (b13 : Bool) (x14 : Int) : Nat → Int → Option (List Bool)
  | 0, _ => none
  | j + 1, x23 =>
    if x23 < ((lget p0.f1 x14).length : Int) then if 0 ≤ x23 ∧ x23 < ((lget p0.f1 x14).length : Int) then Option.bind (α := Bool) (if (0 : Int) ≤ (lget (lget p0.f1 x14) x23) then if (lget (lget p0.f1 x14) x23) < (x12.length : Int) then if 0 ≤ (lget (lget p0.f1 x14) x23) ∧ (lget (lget p0.f1 x14) x23) < (x12.length : Int) then some ((lget x12 (lget (lget p0.f1 x14) x23)))
    else none
    else some (false)
    else some (false)) fun b28 =>
    if b28 = true then if 0 ≤ x14 ∧ x14 < (x12.length : Int) then F103_c1 k rec15 x14 (lset x12 x14 true) true
    else none
    else (F103_l2 k rec15 p0 x12 b13 x14 j) (w64 (x23 + (1 : Int)))
    else none
    else F103_c1 k rec15 x14 x12 b13
def F103_l3 (k : Nat) (rec9 : ((List Bool) → Bool → Option (List Bool))) (p0 : S55) : Nat → (List Bool) → Bool → Int → Option (List Bool)
  | 0, _, _, _ => none
  | j + 1, x12, b13, x14 =>
    if x14 < (p0.f1.length : Int) then if 0 ≤ x14 ∧ x14 < (p0.f1.length : Int) then if 0 ≤ x14 ∧ x14 < (x12.length : Int) then if (lget x12 x14) = true then F103_c1 k (F103_l3 k rec9 p0 j) x14 x12 b13
    else F103_l2 k (F103_l3 k rec9 p0 j) p0 x12 b13 x14 k (0 : Int)
    else none
    else none
    else rec9 x12 b13
def F103_l4 (k : Nat) (p0 : S55) : Nat → (List Bool) → Bool → Option (List Bool)
  | 0, _, _ => none
  | j + 1, x7, b8 =>
    if b8 = true then F103_l3 k (F103_l4 k p0 j) p0 k x7 false (0 : Int)
    else F103_c0 k x7
def F103_c5 (k : Nat) (p0 : S55) (x5 : (List Bool)) : Option (List Bool) :=
  F103_l4 k p0 k x5 true
def F103_l6 (k : Nat) (p0 : S55) : Nat → (List Bool) → Int → Option (List Bool)
  | 0, _, _ => none
  | j + 1, x35, x36 =>
    if x36 < ((List.replicate (p0.f1.length : Int).toNat false).length : Int) then (F112 k p0 x36).bind fun t40 =>
    if 0 ≤ x36 ∧ x36 < (x35.length : Int) then (F103_l6 k p0 j) (lset x35 x36 (decide ((0 : Int) ≤ t40))) (w64 (x36 + (1 : Int)))
    else none
    else F103_c5 k p0 x35
def F103 (k : Nat) (p0 : S55) : Option (List Bool) :=
  if 0 ≤ (p0.f1.length : Int) ∧ (p0.f1.length : Int) * (1 : Int) ≤ 140737488355328 ∧ (p0.f1.length : Int) ≤ 9223372036854775807 then F103_l6 k p0 k (List.replicate (p0.f1.length : Int).toNat false) (0 : Int)
  else none
theorem F103_spec {k : Nat} {p0 : S55} {r : (List Bool)} (h : F103 k p0 = some r) : Spec Try.prog 103 [(e55 p0)] (e98 r) := by
  rw [F103.eq_1] at h
  refine Spec.intro (res := [.tmp 2]) Try.func103 rfl rfl rfl (Nat.le_of_ble_eq_true rfl) ?_
  refine AW.sr ?_
  refine AO.box rfl 1 rfl (by decide) rfl rfl rfl fun n2 => ?_
  refine AO.ag rfl rfl ?_
  refine AO.nK [1] ?_
  refine AW.sr ?_
  refine AO.c (x := .ptr n2 256) (Calm.fldPtr rfl rfl Try.underlying55 rfl sz53 _ rfl) ?_
  refine AO.c (Calm.load 0 rfl rfl rfl (At.cast (At.fldS (At.fld0 At.here)) rfl) ag53 sz53) ?_
  refine AO.c (Calm.lenL rfl rfl Try.underlying53) ?_
  obtain ⟨hg4, h⟩ := of_guard h
  refine AO.makeL (f := eBool) false rfl 13 rfl (by decide) rfl rfl rfl Try.underlying98 sz4 by4 zr4 lay4 rfl hg4 fun n3 => ?_
  refine AO.ag rfl rfl ?_
  refine AO.nH [1, 3] (H' := [(n2, (.mem (e55 p0))), (n3, (.mem (.ar 1 ((List.replicate (p0.f1.length : Int).toNat false).map eBool))))]) (Sub.cons 1 rfl (Sub.cons 0 rfl (Sub.nil _))) ?_
  refine AW.seq_mid (fun ρ H => ∃ (x5 : (List Bool)), ρ = [(1, (.ptr n2 0)), (3, (.own n3 0 x5.length))] ∧ H = [(n2, (.mem (e55 p0))), (n3, (.mem (.ar 1 (x5.map eBool))))] ∧ F103_c5 k p0 x5 = some r) ?_ ?_
  ·refine AW.sr ?_
   refine AO.mv rfl rfl ?_
   refine AO.c (Calm.lenOwn rfl rfl Try.underlying98) ?_
   refine AO.mv rfl rfl ?_
   refine AO.nK [1, 3, 15, 16] ?_
   refine AW.block ?_
   refine AW.wK [1, 3, 15, 16] ?_
   refine AW.loop (fun kq ρ H => ∃ (x35 : (List Bool)) (x36 : Int), ρ = [(1, (.ptr n2 0)), (3, (.own n3 0 x35.length)), (15, (eI64 ((List.replicate (p0.f1.length : Int).toNat false).length : Int))), (16, (eI64 x36))] ∧ H = [(n2, (.mem (e55 p0))), (n3, (.mem (.ar 1 (x35.map eBool))))] ∧ F103_l6 k p0 kq x35 x36 = some r) k ⟨(List.replicate (p0.f1.length : Int).toNat false), (0 : Int), rfl, rfl, h⟩ ?_
   rintro kq38 _ _ ⟨x35, x36, rfl, rfl, h⟩
   cases kq38 with
   | zero => rw [F103_l6.eq_1] at h; cases h
   | succ kq38 =>
   rw [F103_l6.eq_2] at h
   generalize hrec37 : F103_l6 k p0 kq38 = rec37 at h
   refine AW.sr ?_
   refine AO.c (x := eBool (decide (x36 < ((List.replicate (p0.f1.length : Int).toNat false).length : Int)))) (Calm.int rfl rfl rfl rfl) ?_
   refine AO.nK [1, 3, 15, 16, 17] ?_
   refine AW.seq ?_
   rcases of_ite h with ⟨hc39, h⟩ | ⟨hc39, h⟩
   ·refine AW.condP _ rfl hc39 ?_
    refine AW.sK [1, 3, 15, 16] ?_
    refine AW.seq ?_
    refine AW.block ?_
    refine AW.sr ?_
    refine AO.mv rfl rfl ?_
    refine AO.ag rfl rfl ?_
    refine AO.nK [1, 3, 4, 15, 16] ?_
    refine AW.reg ?_
    refine AO.mv rfl rfl ?_
    refine AO.mv rfl rfl ?_
    refine AO.c (Calm.load 0 rfl rfl rfl (At.cast At.here rfl) ag55 sz55) ?_
    refine AO.mv rfl rfl ?_
    obtain ⟨t40, et40, h⟩ := of_bind h
    refine AO.callS [(e55 p0), (eI64 x36)] (eI64 t40) 23 rfl (by decide) ok112 rfl rfl rfl ⟨rfl, rfl, rfl, rfl, trivial⟩ (F112_spec et40) ?_
    refine AO.c (x := eBool (decide ((0 : Int) ≤ t40))) (Calm.int rfl rfl rfl rfl) ?_
    obtain ⟨hg41, h⟩ := of_guard h
    refine AO.c (Calm.idxO 1 rfl rfl rfl rfl hg41 Try.underlying98 sz4) ?_
    refine AO.store (X' := (.ar 1 ((lset x35 x36 (decide ((0 : Int) ≤ t40))).map eBool))) 1 rfl rfl rfl rfl rfl rfl (Put.cast (Put.lidx x36 (decide ((0 : Int) ≤ t40)) hg41.1 hg41.2 Put.here) (by omega)) rfl rfl sz4 rfl ?_
    refine AO.coe 3 (y' := (.own n3 0 (lset x35 x36 (decide ((0 : Int) ≤ t40))).length)) rfl (fun _ _ h => lset_own h) ?_
    refine AO.coe 19 (y' := (.own n3 0 (lset x35 x36 (decide ((0 : Int) ≤ t40))).length)) rfl (fun _ _ h => lset_own h) ?_
    refine AO.nK [1, 3, 15, 16] ?_
    refine AW.reg ?_
    refine AO.c (x := eI64 (w64 (x36 + (1 : Int)))) (Calm.int rfl rfl rfl rfl) ?_
    refine AO.mv rfl rfl ?_
    refine AO.nK [1, 3, 15, 16] ?_
    exact ⟨kq38, Nat.lt_succ_self _, (lset x35 x36 (decide ((0 : Int) ≤ t40))), (w64 (x36 + (1 : Int))), rfl, rfl, by rw [hrec37]; exact h⟩
   ·refine AW.condN _ rfl hc39 ?_
    refine AW.eK [1, 3] ?_
    exact ⟨x35, rfl, rfl, h⟩
  ·rintro _ _ ⟨x5, rfl, rfl, h⟩
   rw [F103_c5.eq_1] at h
   refine AW.seq_mid (fun ρ H => ∃ (x6 : (List Bool)), ρ = [(3, (.own n3 0 x6.length))] ∧ H = [(n3, (.mem (.ar 1 (x6.map eBool))))] ∧ F103_c0 k x6 = some r) ?_ ?_
   ·refine AW.sr ?_
    refine AO.ag rfl rfl ?_
    refine AO.nK [1, 3, 5] ?_
    refine AW.block ?_
    refine AW.wK [1, 3, 5] ?_
    refine AW.loop (fun kq ρ H => ∃ (x7 : (List Bool)) (b8 : Bool), ρ = [(1, (.ptr n2 0)), (3, (.own n3 0 x7.length)), (5, (eBool b8))] ∧ H = [(n2, (.mem (e55 p0))), (n3, (.mem (.ar 1 (x7.map eBool))))] ∧ F103_l4 k p0 kq x7 b8 = some r) k ⟨x5, true, rfl, rfl, h⟩ ?_
    rintro kq10 _ _ ⟨x7, b8, rfl, rfl, h⟩
    cases kq10 with
    | zero => rw [F103_l4.eq_1] at h; cases h
    | succ kq10 =>
    rw [F103_l4.eq_2] at h
    generalize hrec9 : F103_l4 k p0 kq10 = rec9 at h
    refine AW.seq ?_
    refine AW.sr ?_
    refine AO.mv rfl rfl ?_
    refine AO.nK [1, 3, 27] ?_
    rcases of_ite h with ⟨hc11, h⟩ | ⟨hc11, h⟩
    ·refine AW.condT' _ rfl hc11 ?_
     refine AW.sK [1, 3] ?_
     refine AW.block ?_
     refine AW.scope ?_
     refine AW.sr ?_
     refine AO.ag rfl rfl ?_
     refine AO.nK [1, 3, 5] ?_
     refine AW.seq ?_
     refine AW.lK [1, 3, 5] ?_
     refine AW.sr ?_
     refine AO.c (x := .ptr n2 256) (Calm.fldPtr rfl rfl Try.underlying55 rfl sz53 _ rfl) ?_
     refine AO.c (Calm.load 0 rfl rfl rfl (At.cast (At.fldS (At.fld0 At.here)) rfl) ag53 sz53) ?_
     refine AO.c (Calm.lenL rfl rfl Try.underlying53) ?_
     refine AO.mv rfl rfl ?_
     refine AO.nK [1, 3, 5, 29, 30, 31] ?_
     refine AW.block ?_
     refine AW.wK [1, 3, 5, 29, 30, 31] ?_
     refine AW.loop (fun kq ρ H => ∃ (x12 : (List Bool)) (b13 : Bool) (x14 : Int), ρ = [(1, (.ptr n2 0)), (3, (.own n3 0 x12.length)), (5, (eBool b13)), (29, (.fz 1 (p0.f1.map e35))), (30, (eI64 (p0.f1.length : Int))), (31, (eI64 x14))] ∧ H = [(n2, (.mem (e55 p0))), (n3, (.mem (.ar 1 (x12.map eBool))))] ∧ F103_l3 k rec9 p0 kq x12 b13 x14 = some r) k ⟨x7, false, (0 : Int), rfl, rfl, h⟩ ?_
     rintro kq16 _ _ ⟨x12, b13, x14, rfl, rfl, h⟩
     cases kq16 with
     | zero => rw [F103_l3.eq_1] at h; cases h
     | succ kq16 =>
     rw [F103_l3.eq_2] at h
     generalize hrec15 : F103_l3 k rec9 p0 kq16 = rec15 at h
     refine AW.sr ?_
     refine AO.c (x := eBool (decide (x14 < (p0.f1.length : Int)))) (Calm.int rfl rfl rfl rfl) ?_
     refine AO.nK [1, 3, 5, 29, 30, 31, 32] ?_
     refine AW.seq ?_
     rcases of_ite h with ⟨hc17, h⟩ | ⟨hc17, h⟩
     ·refine AW.condP _ rfl hc17 ?_
      refine AW.sK [1, 3, 5, 29, 30, 31] ?_
      refine AW.seq_mid (fun ρ H => ∃ (x18 : (List Bool)) (b19 : Bool), ρ = [(1, (.ptr n2 0)), (3, (.own n3 0 x18.length)), (5, (eBool b19)), (29, (.fz 1 (p0.f1.map e35))), (30, (eI64 (p0.f1.length : Int))), (31, (eI64 x14))] ∧ H = [(n2, (.mem (e55 p0))), (n3, (.mem (.ar 1 (x18.map eBool))))] ∧ F103_c1 k rec15 x14 x18 b19 = some r) ?_ ?_
      ·refine AW.block ?_
       refine AW.sr ?_
       refine AO.mv rfl rfl ?_
       obtain ⟨hg20, h⟩ := of_guard h
       refine AO.c (Calm.idxL (f := e35) rfl rfl rfl hg20 Try.underlying53 sz35) ?_
       refine AO.c (Calm.loadRp rfl rfl ag35 sz35) ?_
       refine AO.ag rfl rfl ?_
       refine AO.ag rfl rfl ?_
       refine AO.nK [1, 3, 5, 6, 7, 29, 30, 31] ?_
       refine AW.seq ?_
       refine AW.sr ?_
       refine AO.mv rfl rfl ?_
       refine AO.mv rfl rfl ?_
       obtain ⟨hg21, h⟩ := of_guard h
       refine AO.c (Calm.idxO 1 rfl rfl rfl rfl hg21 Try.underlying98 sz4) ?_
       refine AO.c (Calm.load 1 rfl rfl rfl (At.cast (At.lidx x14 hg21.1 hg21.2 At.here) (by omega)) ag4 sz4) ?_
       refine AO.nK [1, 3, 5, 6, 7, 29, 30, 31, 39] ?_
       rcases of_ite h with ⟨hc22, h⟩ | ⟨hc22, h⟩
       ·refine AW.condT' _ rfl hc22 ?_
        refine AW.eK [1, 3, 5, 29, 30, 31] ?_
        exact ⟨x12, b13, rfl, rfl, h⟩
       ·refine AW.condF' _ rfl hc22 ?_
        refine AW.sK [1, 3, 5, 6, 7, 29, 30, 31] ?_
        refine AW.sr ?_
        refine AO.mv rfl rfl ?_
        refine AO.c (Calm.lenL rfl rfl Try.underlying35) ?_
        refine AO.mv rfl rfl ?_
        refine AO.nK [1, 3, 5, 6, 29, 30, 31, 40, 41, 42] ?_
        refine AW.block ?_
        refine AW.wK [1, 3, 5, 6, 29, 30, 31, 40, 41, 42] ?_
        refine AW.loop (fun kq ρ H => ∃ (x23 : Int), ρ = [(1, (.ptr n2 0)), (3, (.own n3 0 x12.length)), (5, (eBool b13)), (6, (eI64 x14)), (29, (.fz 1 (p0.f1.map e35))), (30, (eI64 (p0.f1.length : Int))), (31, (eI64 x14)), (40, (.fz 1 ((lget p0.f1 x14).map eI64))), (41, (eI64 ((lget p0.f1 x14).length : Int))), (42, (eI64 x23))] ∧ H = [(n2, (.mem (e55 p0))), (n3, (.mem (.ar 1 (x12.map eBool))))] ∧ F103_l2 k rec15 p0 x12 b13 x14 kq x23 = some r) k ⟨(0 : Int), rfl, rfl, h⟩ ?_
        rintro kq25 _ _ ⟨x23, rfl, rfl, h⟩
        cases kq25 with
        | zero => rw [F103_l2.eq_1] at h; cases h
        | succ kq25 =>
        rw [F103_l2.eq_2] at h
        generalize hrec24 : F103_l2 k rec15 p0 x12 b13 x14 kq25 = rec24 at h
        refine AW.sr ?_
        refine AO.c (x := eBool (decide (x23 < ((lget p0.f1 x14).length : Int)))) (Calm.int rfl rfl rfl rfl) ?_
        refine AO.nK [1, 3, 5, 6, 29, 30, 31, 40, 41, 42, 43] ?_
        refine AW.seq ?_
        rcases of_ite h with ⟨hc26, h⟩ | ⟨hc26, h⟩
        ·refine AW.condP _ rfl hc26 ?_
         refine AW.sK [1, 3, 5, 6, 29, 30, 31, 40, 41, 42] ?_
         refine AW.seq ?_
         refine AW.block ?_
         refine AW.sr ?_
         obtain ⟨hg27, h⟩ := of_guard h
         refine AO.c (Calm.idxL (f := eI64) rfl rfl rfl hg27 Try.underlying35 sz3) ?_
         refine AO.c (Calm.loadRp rfl rfl ag3 sz3) ?_
         refine AO.ag rfl rfl ?_
         refine AO.nK [1, 3, 5, 6, 9, 29, 30, 31, 40, 41, 42] ?_
         refine AW.seq ?_
         obtain ⟨b28, hq29, h⟩ := of_bind h
         refine AW.regM [(1, (.ptr n2 0)), (3, (.own n3 0 x12.length)), (5, (eBool b13)), (6, (eI64 x14)), (29, (.fz 1 (p0.f1.map e35))), (30, (eI64 (p0.f1.length : Int))), (31, (eI64 x14)), (40, (.fz 1 ((lget p0.f1 x14).map eI64))), (41, (eI64 ((lget p0.f1 x14).length : Int))), (42, (eI64 x23)), (59, (eBool b28))] [(n2, (.mem (e55 p0))), (n3, (.mem (.ar 1 (x12.map eBool))))] ?_ ?_
         ·refine AO.mv rfl rfl ?_
          refine AO.c (x := eBool (decide ((0 : Int) ≤ (lget (lget p0.f1 x14) x23)))) (Calm.int rfl rfl rfl rfl) ?_
          refine AO.mv rfl rfl ?_
          rcases of_ite hq29 with ⟨hc30, hq29⟩ | ⟨hc30, hq29⟩
          ·refine AO.cG rfl rfl (bD (decide_eq_true hc30)) (Calm.move rfl rfl) ?_
           refine AO.cG rfl rfl (bD (decide_eq_true hc30)) (Calm.move rfl rfl) ?_
           refine AO.cG rfl rfl (bD (decide_eq_true hc30)) (Calm.lenOwn rfl rfl Try.underlying98) ?_
           refine AO.cG (x := eBool (decide ((lget (lget p0.f1 x14) x23) < (x12.length : Int)))) rfl rfl (bD (decide_eq_true hc30)) (Calm.int rfl rfl rfl rfl) ?_
           refine AO.c (Calm.pickT rfl (bD (decide_eq_true hc30)) rfl) ?_
           refine AO.mv rfl rfl ?_
           rcases of_ite hq29 with ⟨hc31, hq29⟩ | ⟨hc31, hq29⟩
           ·refine AO.cG rfl rfl (bD (decide_eq_true hc31)) (Calm.move rfl rfl) ?_
            refine AO.cG rfl rfl (bD (decide_eq_true hc31)) (Calm.move rfl rfl) ?_
            obtain ⟨hg32, hq29⟩ := of_guard hq29
            refine AO.cG rfl rfl (bD (decide_eq_true hc31)) (Calm.idxO 1 rfl rfl rfl rfl hg32 Try.underlying98 sz4) ?_
            refine AO.cG rfl rfl (bD (decide_eq_true hc31)) (Calm.load 1 rfl rfl rfl (At.cast (At.lidx (lget (lget p0.f1 x14) x23) hg32.1 hg32.2 At.here) (by omega)) ag4 sz4) ?_
            refine AO.c (Calm.pickT rfl (bD (decide_eq_true hc31)) rfl) ?_
            cases hq29
            refine AO.nilE ⟨rfl, rfl⟩ ?_ ?_
            · exact ⟨rfl, rfl, rfl, rfl, rfl, rfl, rfl, rfl, rfl, rfl, rfl, trivial⟩
            · exact (Sub.refl _)
           ·refine AO.sT rfl rfl (bD (decide_eq_false hc31)) ?_
            refine AO.sT rfl rfl (bD (decide_eq_false hc31)) ?_
            refine AO.sT rfl rfl (bD (decide_eq_false hc31)) ?_
            refine AO.sT rfl rfl (bD (decide_eq_false hc31)) ?_
            refine AO.c (Calm.pickF rfl (bD (decide_eq_false hc31)) rfl) ?_
            cases hq29
            refine AO.nilE ⟨rfl, rfl⟩ ?_ ?_
            · exact ⟨rfl, rfl, rfl, rfl, rfl, rfl, rfl, rfl, rfl, rfl, rfl, trivial⟩
            · exact (Sub.refl _)
          ·refine AO.sT rfl rfl (bD (decide_eq_false hc30)) ?_
           refine AO.sT rfl rfl (bD (decide_eq_false hc30)) ?_
           refine AO.sT rfl rfl (bD (decide_eq_false hc30)) ?_
           refine AO.sT rfl rfl (bD (decide_eq_false hc30)) ?_
           refine AO.c (Calm.pickF rfl (bD (decide_eq_false hc30)) rfl) ?_
           refine AO.mv rfl rfl ?_
           refine AO.sT rfl rfl rfl ?_
           refine AO.sT rfl rfl rfl ?_
           refine AO.sT rfl rfl rfl ?_
           refine AO.sT rfl rfl rfl ?_
           refine AO.c (Calm.pickF rfl rfl rfl) ?_
           cases hq29
           refine AO.nilE ⟨rfl, rfl⟩ ?_ ?_
           · exact ⟨rfl, rfl, rfl, rfl, rfl, rfl, rfl, rfl, rfl, rfl, rfl, trivial⟩
           · exact (Sub.refl _)
         ·rcases of_ite h with ⟨hc33, h⟩ | ⟨hc33, h⟩
          ·refine AW.condT' _ rfl hc33 ?_
           refine AW.sr ?_
           refine AO.mv rfl rfl ?_
           refine AO.mv rfl rfl ?_
           obtain ⟨hg34, h⟩ := of_guard h
           refine AO.c (Calm.idxO 1 rfl rfl rfl rfl hg34 Try.underlying98 sz4) ?_
           refine AO.store (X' := (.ar 1 ((lset x12 x14 true).map eBool))) 1 rfl rfl rfl rfl rfl rfl (Put.cast (Put.lidx x14 true hg34.1 hg34.2 Put.here) (by omega)) rfl rfl sz4 rfl ?_
           refine AO.coe 3 (y' := (.own n3 0 (lset x12 x14 true).length)) rfl (fun _ _ h => lset_own h) ?_
           refine AO.coe 60 (y' := (.own n3 0 (lset x12 x14 true).length)) rfl (fun _ _ h => lset_own h) ?_
           refine AO.ag rfl rfl ?_
           refine AO.nK [1, 3, 5, 29, 30, 31] ?_
           refine AW.eK [1, 3, 5, 29, 30, 31] ?_
           exact ⟨(lset x12 x14 true), true, rfl, rfl, h⟩
          ·refine AW.condF' _ rfl hc33 ?_
           refine AW.sK [1, 3, 5, 6, 29, 30, 31, 40, 41, 42] ?_
           refine AW.reg ?_
           refine AO.c (x := eI64 (w64 (x23 + (1 : Int)))) (Calm.int rfl rfl rfl rfl) ?_
           refine AO.mv rfl rfl ?_
           refine AO.nK [1, 3, 5, 6, 29, 30, 31, 40, 41, 42] ?_
           exact ⟨kq25, Nat.lt_succ_self _, (w64 (x23 + (1 : Int))), rfl, rfl, by rw [hrec24]; exact h⟩
        ·refine AW.condN _ rfl hc26 ?_
         refine AW.eK [1, 3, 5, 29, 30, 31] ?_
         exact ⟨x12, b13, rfl, rfl, h⟩
      ·rintro _ _ ⟨x18, b19, rfl, rfl, h⟩
       rw [F103_c1.eq_1] at h
       refine AW.reg ?_
       refine AO.c (x := eI64 (w64 (x14 + (1 : Int)))) (Calm.int rfl rfl rfl rfl) ?_
       refine AO.mv rfl rfl ?_
       refine AO.nK [1, 3, 5, 29, 30, 31] ?_
       exact ⟨kq16, Nat.lt_succ_self _, x18, b19, (w64 (x14 + (1 : Int))), rfl, rfl, by rw [hrec15]; exact h⟩
     ·refine AW.condN _ rfl hc17 ?_
      refine AW.eK [1, 3, 5] ?_
      exact ⟨kq10, Nat.lt_succ_self _, x12, b13, rfl, rfl, by rw [hrec9]; exact h⟩
    ·refine AW.condF' _ rfl hc11 ?_
     refine AW.eH [3] (H' := [(n3, (.mem (.ar 1 (x7.map eBool))))]) (Sub.cons 1 rfl (Sub.nil _)) ?_
     exact ⟨x7, rfl, rfl, h⟩
   ·rintro _ _ ⟨x6, rfl, rfl, h⟩
    rw [F103_c0.eq_1] at h
    refine AW.sr ?_
    refine AO.mv rfl rfl ?_
    refine AO.ag rfl rfl ?_
    refine AO.nK [2] ?_
    refine AW.freezeS 0 [(2, (.fz 1 (x6.map eBool)))] rfl ⟨fz_all rfl, trivial⟩ ?_
    refine AW.rK [2] ?_
    have hr := Option.some.inj h
    subst hr
    exact ⟨[(.fz 1 (x6.map eBool))], ⟨rfl, rfl, trivial⟩, rfl⟩
end Go.Avl.T7
/- slices.Clone[[]int,int]; printed by avmain.py. -/
namespace Go.Avl.T7
open Go Go.RowKit Go.Proofs Go.Avl
set_option linter.unusedVariables false
set_option maxRecDepth 100000
set_option maxHeartbeats 4000000
attribute [local irreducible] AW AO AQ Spec SpecH Calm

def F104a (k : Nat) (p0 : (List Int)) : Option (List Int) :=
  if (([] : List Int) ++ p0).length * 8 ≤ 140737488355328 then some ((([] : List Int) ++ p0))
  else none
def F104b (k : Nat) (p0 : (List Int)) : Option (List Int) :=
  if (([] : List Int) ++ p0).length * 8 ≤ 140737488355328 then some ((([] : List Int) ++ p0))
  else none
theorem F104a_spec {k : Nat} {p0 : (List Int)} {r : (List Int)} (h : F104a k p0 = some r) : Spec Try.prog 104 [(.fz 1 (p0.map eI64))] (e35 r) := by
  rw [F104a.eq_1] at h
  refine Spec.intro (res := [.tmp 2]) Try.func104 rfl rfl rfl (Nat.le_of_ble_eq_true rfl) ?_
  refine AW.sr ?_
  refine AO.ag rfl rfl ?_
  refine AO.nK [0] ?_
  refine AW.seq ?_
  refine AW.sr ?_
  refine AO.mv rfl rfl ?_
  refine AO.nilFz rfl 4 rfl (by decide) rfl rfl Try.underlying35 fun gb2 hgb2 => ?_
  refine AO.nK [0, 4] ?_
  cases gb2
  ·refine AW.condF rfl ?_
   refine AW.sK [0] ?_
   refine AW.sr ?_
   refine AO.lit (Z := (eI64 (0 : Int))) (xs := (([] : List Int).map eI64)) (qs := []) rfl 5 rfl (by decide) rfl trivial Try.underlying35 sz3 zr3 lay3 rfl (by decide) (litOK (z := 1) [] rfl trivial) rfl fun n3 => ?_
   refine AO.mv rfl rfl ?_
   obtain ⟨hg5, h⟩ := of_guard h
   refine AO.appendL (l := ([] : List Int)) (m := p0) 0 7 rfl (by decide) rfl rfl rfl rfl rfl Src.fz Try.underlying35 Try.underlying35 sz3 by3 zr3 rfl hg5 (by decide) fun n4 => ?_
   refine AO.ag rfl rfl ?_
   refine AO.nK [2] ?_
   refine AW.freezeS 0 [(2, (.fz 1 ((([] : List Int) ++ p0).map eI64)))] rfl ⟨fz_all rfl, trivial⟩ ?_
   refine AW.rK [2] ?_
   have hr := Option.some.inj h
   subst hr
   exact ⟨[(.fz 1 ((([] : List Int) ++ p0).map eI64))], ⟨rfl, rfl, trivial⟩, rfl⟩
  ·have hn6 : p0 = [] := List.map_eq_nil_iff.1 (hgb2 rfl)
   have h : (some ([])) = some r := by simpa [hn6] using h
   refine AW.condT rfl ?_
   refine AW.sr ?_
   refine AO.ag rfl rfl ?_
   refine AO.nK [2] ?_
   refine AW.coeC 2 (y' := (.fz 1 (([] : List Int).map eI64))) rfl Coe.nil ?_
   refine AW.rK [2] ?_
   have hr := Option.some.inj h
   subst hr
   exact ⟨[(.fz 1 (([] : List Int).map eI64))], ⟨rfl, rfl, trivial⟩, rfl⟩
theorem F104b_spec {k : Nat} {p0 : (List Int)} {r : (List Int)} (h : F104b k p0 = some r) {T0 : Heap} : SpecH Try.prog 104 [(.fz 1 (p0.map eI64))] (T0) (fun x H' => ∃ m, x = .own m 0 r.length ∧ Sub ((m, .mem (.ar 1 (r.map eI64))) :: T0) H') := by
  rw [F104b.eq_1] at h
  refine SpecH.intro (res := [.tmp 2]) Try.func104 rfl rfl rfl (Nat.le_of_ble_eq_true rfl) ?_
  refine AW.sr ?_
  refine AO.ag rfl rfl ?_
  refine AO.nK [0] ?_
  refine AW.seq ?_
  refine AW.sr ?_
  refine AO.mv rfl rfl ?_
  refine AO.nilFz rfl 4 rfl (by decide) rfl rfl Try.underlying35 fun gb2 hgb2 => ?_
  refine AO.nK [0, 4] ?_
  cases gb2
  ·refine AW.condF rfl ?_
   refine AW.sK [0] ?_
   refine AW.sr ?_
   refine AO.lit (Z := (eI64 (0 : Int))) (xs := (([] : List Int).map eI64)) (qs := []) rfl 5 rfl (by decide) rfl trivial Try.underlying35 sz3 zr3 lay3 rfl (by decide) (litOK (z := 1) [] rfl trivial) rfl fun n4 => ?_
   refine AO.mv rfl rfl ?_
   obtain ⟨hg6, h⟩ := of_guard h
   refine AO.appendL (l := ([] : List Int)) (m := p0) 0 7 rfl (by decide) rfl rfl rfl rfl rfl Src.fz Try.underlying35 Try.underlying35 sz3 by3 zr3 rfl hg6 (by decide) fun n5 => ?_
   refine AO.ag rfl rfl ?_
   refine AO.nK [2] ?_
   refine AW.rK [2] ?_
   have hr := Option.some.inj h
   subst hr
   exact ⟨[(.own n5 0 (([] : List Int) ++ p0).length)], ⟨rfl, rfl, trivial⟩, n5, rfl, (Sub.cons 0 rfl (Sub.refl _))⟩
  ·have hn7 : p0 = [] := List.map_eq_nil_iff.1 (hgb2 rfl)
   have h : (some ([])) = some r := by simpa [hn7] using h
   refine AW.condT rfl ?_
   refine AW.sr ?_
   refine AO.ag rfl rfl ?_
   refine AO.nK [2] ?_
   refine AW.nilOwn 2 1 rfl fun n3 => ?_
   refine AW.rK [2] ?_
   have hr := Option.some.inj h
   subst hr
   exact ⟨[(.own n3 0 ([] : List Int).length)], ⟨rfl, rfl, trivial⟩, n3, rfl, (Sub.cons 0 rfl (Sub.refl _))⟩
end Go.Avl.T7
