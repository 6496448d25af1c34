/- Parts: T7f9, T7f38, T7f10, T7f3, T7f75, T7f101, T7f102, T7f78, T7f103, T7f104, T7f80, T7f79, T7f106, T7f127, T7f126, T7f105, T7f81, T7f107, T7f82, T7f63, T7f55, T7f60, T7f35, T7f34, T7f58, T7f29, T7f26, T7f85, T7f27. -/
import Derived.Test.YtpkgpmmcbpfenaaAF1
import Derived.Test.YtpkgpmmcbpfenaaAF7
import Derived.Test.YtpkgpmmcbpfenaaAF6
import Derived.Test.YtpkgpmmcbpfenaaAF3
import Derived.Test.YtpkgpmmcbpfenaaAF4
/- bosket/bosketlaw17.awake; printed by avmain.py. -/
namespace Go.Avl.T7
open Go Go.RowKit Go.Proofs Go.Avl
set_option linter.unusedVariables false
set_option maxRecDepth 100000
set_option maxHeartbeats 4000000
attribute [local irreducible] AW AO AQ Spec SpecH Calm

def F9 (k : Nat) : Option Bool :=
  Option.bind (α := Bool) ((F21 k (S27.mk [(S82.mk (ByteArray.mk #[80, 76, 85, 83]) (0 : Int) (ByteArray.mk #[92, 43]))] ([(ByteArray.mk #[69])] : List ByteArray) ([(S37.mk (0 : Int) (ByteArray.mk #[65, 100, 100]) [(S41.mk true (0 : Int)), (S41.mk false (0 : Int)), (S41.mk true (0 : Int))] false (-1 : Int) [(0 : Int), (0 : Int)])] : List S37) ([] : List S86) (0 : Int)) (0 : Int)).bind fun t9 =>
  if t9 = (ByteArray.mk #[69, 46, 65, 100, 100, 32, 61, 32, 69, 32, 80, 76, 85, 83, 32, 69]) then (F11 k (S27.mk [(S82.mk (ByteArray.mk #[80, 76, 85, 83]) (0 : Int) (ByteArray.mk #[92, 43]))] ([(ByteArray.mk #[69])] : List ByteArray) ([(S37.mk (0 : Int) (ByteArray.mk #[65, 100, 100]) [(S41.mk true (0 : Int)), (S41.mk false (0 : Int)), (S41.mk true (0 : Int))] false (-1 : Int) [(0 : Int), (0 : Int)])] : List S37) ([] : List S86) (0 : Int))).bind fun t11 =>
  some (decide (t11 = (S32.mk (0 : Int) (0 : Int) (0 : Int))))
  else some (false)) fun b7 =>
  some (b7)
theorem F9_spec {k : Nat}  {r : Bool} (h : F9 k = some r) : Spec Try.prog 9 [] (eBool r) := by
  rw [F9.eq_1] at h
  refine Spec.intro (res := [.tmp 0]) Try.func9 rfl rfl rfl (Nat.le_of_ble_eq_true rfl) ?_
  refine AW.sr ?_
  refine AO.ag rfl rfl ?_
  refine AO.nK [] ?_
  refine AW.sr ?_
  refine AO.c (x := .st [(1, (eStr (ByteArray.mk #[80, 76, 85, 83]))), (1, (eI64 (0 : Int))), (1, (eStr (ByteArray.mk #[92, 43])))]) (Calm.build (qs := [(0, (eStr (ByteArray.mk #[80, 76, 85, 83]))), (2, (eStr (ByteArray.mk #[92, 43])))]) rfl ⟨rfl, rfl, rfl, rfl, rfl, rfl, trivial⟩ Try.underlying82 rfl zr82 lay82 (.cons rfl rfl rfl rfl (Put.cast (Put.fld0 Put.here) rfl) (.cons rfl rfl rfl rfl (Put.cast (Put.fldS (Put.fldS (Put.fld0 Put.here))) rfl) .nil)) rfl) ?_
  refine AO.lit (Z := (.st [(1, (eStr ByteArray.empty)), (1, (eI64 (0 : Int))), (1, (eStr ByteArray.empty))])) (xs := (([(S82.mk (ByteArray.mk #[80, 76, 85, 83]) (0 : Int) (ByteArray.mk #[92, 43]))] : List S82).map e82)) (qs := [(0, (e82 (S82.mk (ByteArray.mk #[80, 76, 85, 83]) (0 : Int) (ByteArray.mk #[92, 43]))))]) rfl 3 rfl (by decide) rfl ⟨rfl, rfl, rfl, trivial⟩ Try.underlying22 sz82 zr82 lay82 rfl (by decide) (litOK (z := 3) [(e82 (S82.mk (ByteArray.mk #[80, 76, 85, 83]) (0 : Int) (ByteArray.mk #[92, 43])))] rfl ⟨⟨rfl, rfl⟩, trivial⟩) rfl fun n1 => ?_
  refine AO.lit (Z := (eStr ByteArray.empty)) (xs := (([(ByteArray.mk #[69])] : List ByteArray).map eStr)) (qs := [(0, (eStr (ByteArray.mk #[69])))]) rfl 4 rfl (by decide) rfl ⟨rfl, rfl, rfl, trivial⟩ Try.underlying23 sz9 zr9 lay9 rfl (by decide) (litOK (z := 1) [(eStr (ByteArray.mk #[69]))] rfl ⟨⟨rfl, rfl⟩, trivial⟩) rfl fun n2 => ?_
  refine AO.c (x := .st [(1, (eBool true)), (1, (eI64 (0 : Int)))]) (Calm.build (qs := [(0, (eBool true))]) rfl ⟨rfl, rfl, rfl, trivial⟩ Try.underlying41 rfl zr41 lay41 (.cons rfl rfl rfl rfl (Put.cast (Put.fld0 Put.here) rfl) .nil) rfl) ?_
  refine AO.c (x := .st [(1, (eBool false)), (1, (eI64 (0 : Int)))]) (Calm.build (qs := []) rfl trivial Try.underlying41 rfl zr41 lay41 .nil rfl) ?_
  refine AO.c (x := .st [(1, (eBool true)), (1, (eI64 (0 : Int)))]) (Calm.build (qs := [(0, (eBool true))]) rfl ⟨rfl, rfl, rfl, trivial⟩ Try.underlying41 rfl zr41 lay41 (.cons rfl rfl rfl rfl (Put.cast (Put.fld0 Put.here) rfl) .nil) rfl) ?_
  refine AO.lit (Z := (.st [(1, (eBool false)), (1, (eI64 (0 : Int)))])) (xs := (([(S41.mk true (0 : Int)), (S41.mk false (0 : Int)), (S41.mk true (0 : Int))] : List S41).map e41)) (qs := [(0, (e41 (S41.mk true (0 : Int)))), (1, (e41 (S41.mk false (0 : Int)))), (2, (e41 (S41.mk true (0 : Int))))]) rfl 8 rfl (by decide) rfl ⟨rfl, rfl, rfl, rfl, rfl, rfl, rfl, rfl, rfl, trivial⟩ Try.underlying34 sz41 zr41 lay41 rfl (by decide) (litOK (z := 2) [(e41 (S41.mk true (0 : Int))), (e41 (S41.mk false (0 : Int))), (e41 (S41.mk true (0 : Int)))] rfl ⟨⟨rfl, rfl⟩, ⟨rfl, rfl⟩, ⟨rfl, rfl⟩, trivial⟩) rfl fun n3 => ?_
  refine AO.lit (Z := (eI64 (0 : Int))) (xs := (([(0 : Int), (0 : Int)] : List Int).map eI64)) (qs := [(0, (eI64 (0 : Int))), (1, (eI64 (0 : Int)))]) rfl 9 rfl (by decide) rfl ⟨rfl, rfl, rfl, rfl, rfl, rfl, trivial⟩ Try.underlying35 sz3 zr3 lay3 rfl (by decide) (litOK (z := 1) [(eI64 (0 : Int)), (eI64 (0 : Int))] rfl ⟨⟨rfl, rfl⟩, ⟨rfl, rfl⟩, trivial⟩) rfl fun n4 => ?_
  refine AO.freezeS 1 [(8, (.fz 2 (([(S41.mk true (0 : Int)), (S41.mk false (0 : Int)), (S41.mk true (0 : Int))] : List S41).map e41)))] rfl ⟨fz_all rfl, trivial⟩ ?_
  refine AO.freezeS 0 [(9, (.fz 1 (([(0 : Int), (0 : Int)] : List Int).map eI64)))] rfl ⟨fz_all rfl, trivial⟩ ?_
  refine AO.c (x := .st [(1, (eI64 (0 : Int))), (1, (eStr (ByteArray.mk #[65, 100, 100]))), (1, (.fz 2 (([(S41.mk true (0 : Int)), (S41.mk false (0 : Int)), (S41.mk true (0 : Int))] : List S41).map e41))), (1, (eBool false)), (1, (eI64 (-1 : Int))), (1, (.fz 1 (([(0 : Int), (0 : Int)] : List Int).map eI64)))]) (Calm.build (qs := [(1, (eStr (ByteArray.mk #[65, 100, 100]))), (4, (eI64 (-1 : Int))), (2, (.fz 2 (([(S41.mk true (0 : Int)), (S41.mk false (0 : Int)), (S41.mk true (0 : Int))] : List S41).map e41))), (5, (.fz 1 (([(0 : Int), (0 : Int)] : List Int).map eI64)))]) rfl ⟨rfl, rfl, rfl, rfl, rfl, rfl, rfl, rfl, rfl, rfl, rfl, rfl, trivial⟩ Try.underlying37 rfl zr37 lay37 (.cons rfl rfl rfl rfl (Put.cast (Put.fldS (Put.fld0 Put.here)) rfl) (.cons rfl rfl rfl rfl (Put.cast (Put.fldS (Put.fldS (Put.fldS (Put.fldS (Put.fld0 Put.here))))) rfl) (.cons rfl rfl rfl rfl (Put.cast (Put.fldS (Put.fldS (Put.fld0 Put.here))) rfl) (.cons rfl rfl rfl rfl (Put.cast (Put.fldS (Put.fldS (Put.fldS (Put.fldS (Put.fldS (Put.fld0 Put.here)))))) rfl) .nil)))) rfl) ?_
  refine AO.lit (Z := (.st [(1, (eI64 (0 : Int))), (1, (eStr ByteArray.empty)), (1, (.fl (.slice none 0 0))), (1, (eBool false)), (1, (eI64 (0 : Int))), (1, (.fl (.slice none 0 0)))])) (xs := (([(S37.mk (0 : Int) (ByteArray.mk #[65, 100, 100]) [(S41.mk true (0 : Int)), (S41.mk false (0 : Int)), (S41.mk true (0 : Int))] false (-1 : Int) [(0 : Int), (0 : Int)])] : List S37).map e37)) (qs := [(0, (e37 (S37.mk (0 : Int) (ByteArray.mk #[65, 100, 100]) [(S41.mk true (0 : Int)), (S41.mk false (0 : Int)), (S41.mk true (0 : Int))] false (-1 : Int) [(0 : Int), (0 : Int)])))]) rfl 11 rfl (by decide) rfl ⟨rfl, rfl, rfl, trivial⟩ Try.underlying24 sz37 zr37 lay37 rfl (by decide) (litOK (z := 6) [(e37 (S37.mk (0 : Int) (ByteArray.mk #[65, 100, 100]) [(S41.mk true (0 : Int)), (S41.mk false (0 : Int)), (S41.mk true (0 : Int))] false (-1 : Int) [(0 : Int), (0 : Int)]))] rfl ⟨⟨rfl, rfl⟩, trivial⟩) rfl fun n5 => ?_
  refine AO.freezeS 2 [(3, (.fz 3 (([(S82.mk (ByteArray.mk #[80, 76, 85, 83]) (0 : Int) (ByteArray.mk #[92, 43]))] : List S82).map e82)))] rfl ⟨fz_all rfl, trivial⟩ ?_
  refine AO.c (x := .st [(1, (.fz 3 (([(S82.mk (ByteArray.mk #[80, 76, 85, 83]) (0 : Int) (ByteArray.mk #[92, 43]))] : List S82).map e82))), (1, (.own n2 0 ([(ByteArray.mk #[69])] : List ByteArray).length)), (1, (.own n5 0 ([(S37.mk (0 : Int) (ByteArray.mk #[65, 100, 100]) [(S41.mk true (0 : Int)), (S41.mk false (0 : Int)), (S41.mk true (0 : Int))] false (-1 : Int) [(0 : Int), (0 : Int)])] : List S37).length)), (1, (.fl (.slice none 0 0))), (1, (eI64 (0 : Int)))]) (Calm.build (qs := [(0, (.fz 3 (([(S82.mk (ByteArray.mk #[80, 76, 85, 83]) (0 : Int) (ByteArray.mk #[92, 43]))] : List S82).map e82))), (1, (.own n2 0 ([(ByteArray.mk #[69])] : List ByteArray).length)), (2, (.own n5 0 ([(S37.mk (0 : Int) (ByteArray.mk #[65, 100, 100]) [(S41.mk true (0 : Int)), (S41.mk false (0 : Int)), (S41.mk true (0 : Int))] false (-1 : Int) [(0 : Int), (0 : Int)])] : List S37).length))]) rfl ⟨rfl, rfl, rfl, rfl, rfl, rfl, rfl, rfl, rfl, trivial⟩ Try.underlying27 rfl zr27 lay27 (.cons rfl rfl rfl rfl (Put.cast (Put.fld0 Put.here) rfl) (.cons rfl rfl rfl rfl (Put.cast (Put.fldS (Put.fld0 Put.here)) rfl) (.cons rfl rfl rfl rfl (Put.cast (Put.fldS (Put.fldS (Put.fld0 Put.here))) rfl) .nil))) rfl) ?_
  refine AO.alloc rfl 1 rfl (by decide) rfl zr27 lay27 fun n6 => ?_
  refine AO.store (X' := (.st [(1, (.fz 3 (([(S82.mk (ByteArray.mk #[80, 76, 85, 83]) (0 : Int) (ByteArray.mk #[92, 43]))] : List S82).map e82))), (1, (.own n2 0 ([(ByteArray.mk #[69])] : List ByteArray).length)), (1, (.own n5 0 ([(S37.mk (0 : Int) (ByteArray.mk #[65, 100, 100]) [(S41.mk true (0 : Int)), (S41.mk false (0 : Int)), (S41.mk true (0 : Int))] false (-1 : Int) [(0 : Int), (0 : Int)])] : List S37).length)), (1, (.fl (.slice none 0 0))), (1, (eI64 (0 : Int)))])) 0 rfl rfl rfl rfl rfl rfl (Put.cast Put.here rfl) rfl rfl sz27 rfl ?_
  refine AO.nH [1] (H' := [(n6, (.mem (.st [(1, (.fz 3 (([(S82.mk (ByteArray.mk #[80, 76, 85, 83]) (0 : Int) (ByteArray.mk #[92, 43]))] : List S82).map e82))), (1, (.own n2 0 ([(ByteArray.mk #[69])] : List ByteArray).length)), (1, (.own n5 0 ([(S37.mk (0 : Int) (ByteArray.mk #[65, 100, 100]) [(S41.mk true (0 : Int)), (S41.mk false (0 : Int)), (S41.mk true (0 : Int))] false (-1 : Int) [(0 : Int), (0 : Int)])] : List S37).length)), (1, (.fl (.slice none 0 0))), (1, (eI64 (0 : Int)))]))), (n2, (.mem (.ar 1 (([(ByteArray.mk #[69])] : List ByteArray).map eStr)))), (n5, (.mem (.ar 6 (([(S37.mk (0 : Int) (ByteArray.mk #[65, 100, 100]) [(S41.mk true (0 : Int)), (S41.mk false (0 : Int)), (S41.mk true (0 : Int))] false (-1 : Int) [(0 : Int), (0 : Int)])] : List S37).map e37))))]) (Sub.cons 0 rfl (Sub.cons 1 rfl (Sub.cons 0 rfl (Sub.nil _)))) ?_
  refine AW.seq ?_
  obtain ⟨b7, hq8, h⟩ := of_bind h
  refine AW.regM [(0, (eBool b7))] [] ?_ ?_
  ·refine AO.freezeFld (X' := (.st [(1, (.fz 3 (([(S82.mk (ByteArray.mk #[80, 76, 85, 83]) (0 : Int) (ByteArray.mk #[92, 43]))] : List S82).map e82))), (1, (.fz 1 (([(ByteArray.mk #[69])] : List ByteArray).map eStr))), (1, (.own n5 0 ([(S37.mk (0 : Int) (ByteArray.mk #[65, 100, 100]) [(S41.mk true (0 : Int)), (S41.mk false (0 : Int)), (S41.mk true (0 : Int))] false (-1 : Int) [(0 : Int), (0 : Int)])] : List S37).length)), (1, (.fl (.slice none 0 0))), (1, (eI64 (0 : Int)))])) (els' := (([(ByteArray.mk #[69])] : List ByteArray).map eStr)) 1 0 rfl rfl (Put.cast (Put.fldS (Put.fld0 Put.here)) rfl) (by simp) (by rw [own_all]) rfl rfl (by decide) ?_
   refine AO.freezeFld (X' := (.st [(1, (.fz 3 (([(S82.mk (ByteArray.mk #[80, 76, 85, 83]) (0 : Int) (ByteArray.mk #[92, 43]))] : List S82).map e82))), (1, (.fz 1 (([(ByteArray.mk #[69])] : List ByteArray).map eStr))), (1, (.fz 6 (([(S37.mk (0 : Int) (ByteArray.mk #[65, 100, 100]) [(S41.mk true (0 : Int)), (S41.mk false (0 : Int)), (S41.mk true (0 : Int))] false (-1 : Int) [(0 : Int), (0 : Int)])] : List S37).map e37))), (1, (.fl (.slice none 0 0))), (1, (eI64 (0 : Int)))])) (els' := (([(S37.mk (0 : Int) (ByteArray.mk #[65, 100, 100]) [(S41.mk true (0 : Int)), (S41.mk false (0 : Int)), (S41.mk true (0 : Int))] false (-1 : Int) [(0 : Int), (0 : Int)])] : List S37).map e37)) 1 0 rfl rfl (Put.cast (Put.fldS (Put.fldS (Put.fld0 Put.here))) rfl) (by simp) (by rw [own_all]) rfl rfl (by decide) ?_
   refine AO.coeFld (X' := (.st [(1, (.fz 3 (([(S82.mk (ByteArray.mk #[80, 76, 85, 83]) (0 : Int) (ByteArray.mk #[92, 43]))] : List S82).map e82))), (1, (.fz 1 (([(ByteArray.mk #[69])] : List ByteArray).map eStr))), (1, (.fz 6 (([(S37.mk (0 : Int) (ByteArray.mk #[65, 100, 100]) [(S41.mk true (0 : Int)), (S41.mk false (0 : Int)), (S41.mk true (0 : Int))] false (-1 : Int) [(0 : Int), (0 : Int)])] : List S37).map e37))), (1, (.fz 2 (([] : List S86).map e86))), (1, (eI64 (0 : Int)))])) 0 rfl (Put.cast (Put.fldS (Put.fldS (Put.fldS (Put.fld0 Put.here)))) rfl) rfl (nil_fz 2) rfl rfl ?_
   refine AO.c (x := e27 (S27.mk [(S82.mk (ByteArray.mk #[80, 76, 85, 83]) (0 : Int) (ByteArray.mk #[92, 43]))] ([(ByteArray.mk #[69])] : List ByteArray) ([(S37.mk (0 : Int) (ByteArray.mk #[65, 100, 100]) [(S41.mk true (0 : Int)), (S41.mk false (0 : Int)), (S41.mk true (0 : Int))] false (-1 : Int) [(0 : Int), (0 : Int)])] : List S37) ([] : List S86) (0 : Int))) (Calm.load 0 rfl rfl rfl (At.cast At.here rfl) ag27 sz27) ?_
   obtain ⟨t9, et9, hq8⟩ := of_bind hq8
   refine AO.callS [(e27 (S27.mk [(S82.mk (ByteArray.mk #[80, 76, 85, 83]) (0 : Int) (ByteArray.mk #[92, 43]))] ([(ByteArray.mk #[69])] : List ByteArray) ([(S37.mk (0 : Int) (ByteArray.mk #[65, 100, 100]) [(S41.mk true (0 : Int)), (S41.mk false (0 : Int)), (S41.mk true (0 : Int))] false (-1 : Int) [(0 : Int), (0 : Int)])] : List S37) ([] : List S86) (0 : Int))), (eI64 (0 : Int))] (eStr t9) 14 rfl (by decide) ok21 rfl rfl rfl ⟨rfl, rfl, rfl, rfl, trivial⟩ (F21_spec et9) ?_
   refine AO.c (x := eBool (decide (t9 = (ByteArray.mk #[69, 46, 65, 100, 100, 32, 61, 32, 69, 32, 80, 76, 85, 83, 32, 69])))) (Calm.str rfl rfl rfl rfl) ?_
   refine AO.mv rfl rfl ?_
   rcases of_ite hq8 with ⟨hc10, hq8⟩ | ⟨hc10, hq8⟩
   ·refine AO.cG rfl rfl (bD (decide_eq_true hc10)) (Calm.load 0 rfl rfl rfl (At.cast At.here rfl) ag27 sz27) ?_
    obtain ⟨t11, et11, hq8⟩ := of_bind hq8
    refine AO.callG 3 true 16 [(e27 (S27.mk [(S82.mk (ByteArray.mk #[80, 76, 85, 83]) (0 : Int) (ByteArray.mk #[92, 43]))] ([(ByteArray.mk #[69])] : List ByteArray) ([(S37.mk (0 : Int) (ByteArray.mk #[65, 100, 100]) [(S41.mk true (0 : Int)), (S41.mk false (0 : Int)), (S41.mk true (0 : Int))] false (-1 : Int) [(0 : Int), (0 : Int)])] : List S37) ([] : List S86) (0 : Int)))] (e32 t11) 18 rfl (by decide) ok11 rfl rfl (bD (decide_eq_true hc10)) rfl rfl ⟨rfl, rfl, trivial⟩ (F11_spec et11) ?_
    refine AO.cG (x := .st [(1, (eI64 (0 : Int))), (1, (eI64 (0 : Int))), (1, (eI64 (0 : Int)))]) rfl rfl (bD (decide_eq_true hc10)) (Calm.build (qs := []) rfl trivial Try.underlying32 rfl zr32 lay32 .nil rfl) ?_
    refine AO.cG (x := eBool (decide (t11 = (S32.mk (0 : Int) (0 : Int) (0 : Int))))) rfl rfl (bD (decide_eq_true hc10)) (Calm.eqS rfl rfl rfl eg32 (eqk32 t11 (S32.mk (0 : Int) (0 : Int) (0 : Int))) (by decide)) ?_
    refine AO.c (Calm.pickT rfl (bD (decide_eq_true hc10)) rfl) ?_
    refine AO.ag rfl rfl ?_
    cases hq8
    refine AO.nilE ⟨rfl, rfl⟩ ?_ ?_
    · exact ⟨rfl, trivial⟩
    · exact (Sub.nil _)
   ·refine AO.sT rfl rfl (bD (decide_eq_false hc10)) ?_
    refine AO.sT rfl rfl (bD (decide_eq_false hc10)) ?_
    refine AO.sT rfl rfl (bD (decide_eq_false hc10)) ?_
    refine AO.sT rfl rfl (bD (decide_eq_false hc10)) ?_
    refine AO.c (Calm.pickF rfl (bD (decide_eq_false hc10)) rfl) ?_
    refine AO.ag rfl rfl ?_
    cases hq8
    refine AO.nilE ⟨rfl, rfl⟩ ?_ ?_
    · exact ⟨rfl, trivial⟩
    · exact (Sub.nil _)
  ·refine AW.rK [0] ?_
   have hr := Option.some.inj h
   subst hr
   exact ⟨[(eBool b7)], ⟨rfl, rfl, trivial⟩, rfl⟩
end Go.Avl.T7
/- bosket/bosketlaw11.Few; printed by avmain.py. -/
namespace Go.Avl.T7
open Go Go.RowKit Go.Proofs Go.Avl
set_option linter.unusedVariables false
set_option maxRecDepth 100000
set_option maxHeartbeats 4000000
attribute [local irreducible] AW AO AQ Spec SpecH Calm

def F38_c0 (k : Nat) : Option Bool :=
  some (true)
def F38_l1 (k : Nat) (p0 : (List S82)) : Nat → Int → Option Bool
  | 0, _ => none
  | j + 1, x3 =>
    if x3 < (p0.length : Int) then Option.bind (α := Bool) (if 0 ≤ x3 ∧ x3 < (p0.length : Int) then if (40 : Int) < (((lget p0 x3).f2).size : Int) then some (true)
    else if 0 ≤ x3 ∧ x3 < (p0.length : Int) then some (decide ((100 : Int) < (((lget p0 x3).f0).size : Int)))
    else none
    else none) fun b7 =>
    if b7 = true then some (false)
    else (F38_l1 k p0 j) (w64 (x3 + (1 : Int)))
    else F38_c0 k
def F38 (k : Nat) (p0 : (List S82)) : Option Bool :=
  if (20 : Int) < (p0.length : Int) then some (false)
  else F38_l1 k p0 k (0 : Int)
theorem F38_spec {k : Nat} {p0 : (List S82)} {r : Bool} (h : F38 k p0 = some r) : Spec Try.prog 38 [(.fz 3 (p0.map e82))] (eBool r) := by
  rw [F38.eq_1] at h
  refine Spec.intro (res := [.tmp 2]) Try.func38 rfl rfl rfl (Nat.le_of_ble_eq_true rfl) ?_
  refine AW.sr ?_
  refine AO.ag rfl rfl ?_
  refine AO.nK [0] ?_
  refine AW.seq ?_
  refine AW.sr ?_
  refine AO.mv rfl rfl ?_
  refine AO.c (Calm.lenL rfl rfl Try.underlying22) ?_
  refine AO.c (x := eBool (decide ((20 : Int) < (p0.length : Int)))) (Calm.int rfl rfl rfl rfl) ?_
  refine AO.nK [0, 6] ?_
  rcases of_ite h with ⟨hc2, h⟩ | ⟨hc2, h⟩
  ·refine AW.condP _ rfl hc2 ?_
   refine AW.sr ?_
   refine AO.ag rfl rfl ?_
   refine AO.nK [2] ?_
   refine AW.rK [2] ?_
   have hr := Option.some.inj h
   subst hr
   exact ⟨[(eBool false)], ⟨rfl, rfl, trivial⟩, rfl⟩
  ·refine AW.condN _ rfl hc2 ?_
   refine AW.sK [0] ?_
   refine AW.seq_mid (fun ρ H => ρ = [] ∧ H = [] ∧ F38_c0 k = some r) ?_ ?_
   ·refine AW.sr ?_
    refine AO.ag rfl rfl ?_
    refine AO.nK [0, 3] ?_
    refine AW.block ?_
    refine AW.wK [0, 3] ?_
    refine AW.loop (fun kq ρ H => ∃ (x3 : Int), ρ = [(0, (.fz 3 (p0.map e82))), (3, (eI64 x3))] ∧ H = [] ∧ F38_l1 k p0 kq x3 = some r) k ⟨(0 : Int), rfl, rfl, h⟩ ?_
    rintro kq5 _ _ ⟨x3, rfl, rfl, h⟩
    cases kq5 with
    | zero => rw [F38_l1.eq_1] at h; cases h
    | succ kq5 =>
    rw [F38_l1.eq_2] at h
    generalize hrec4 : F38_l1 k p0 kq5 = rec4 at h
    refine AW.seq ?_
    refine AW.sr ?_
    refine AO.mv rfl rfl ?_
    refine AO.mv rfl rfl ?_
    refine AO.c (Calm.lenL rfl rfl Try.underlying22) ?_
    refine AO.c (x := eBool (decide (x3 < (p0.length : Int)))) (Calm.int rfl rfl rfl rfl) ?_
    refine AO.nK [0, 3, 10] ?_
    rcases of_ite h with ⟨hc6, h⟩ | ⟨hc6, h⟩
    ·refine AW.condP _ rfl hc6 ?_
     refine AW.sK [0, 3] ?_
     refine AW.seq ?_
     refine AW.block ?_
     refine AW.seq ?_
     obtain ⟨b7, hq8, h⟩ := of_bind h
     refine AW.regM [(0, (.fz 3 (p0.map e82))), (3, (eI64 x3)), (28, (eBool b7))] [] ?_ ?_
     ·refine AO.mv rfl rfl ?_
      refine AO.mv rfl rfl ?_
      obtain ⟨hg9, hq8⟩ := of_guard hq8
      refine AO.c (Calm.idxL (f := e82) rfl rfl rfl hg9 Try.underlying22 sz82) ?_
      refine AO.c (Calm.fldRp rfl rfl Try.underlying82 rfl sz9 (At.cast (At.fldS (At.fldS (At.fld0 At.here))) rfl)) ?_
      refine AO.c (Calm.loadRp rfl rfl ag9 sz9) ?_
      refine AO.c (Calm.lenStr rfl rfl Try.underlying9) ?_
      refine AO.c (x := eBool (decide ((40 : Int) < (((lget p0 x3).f2).size : Int)))) (Calm.int rfl rfl rfl rfl) ?_
      refine AO.mv rfl rfl ?_
      rcases of_ite hq8 with ⟨hc10, hq8⟩ | ⟨hc10, hq8⟩
      ·refine AO.sF rfl rfl (bD (decide_eq_true hc10)) ?_
       refine AO.sF rfl rfl (bD (decide_eq_true hc10)) ?_
       refine AO.sF rfl rfl (bD (decide_eq_true hc10)) ?_
       refine AO.sF rfl rfl (bD (decide_eq_true hc10)) ?_
       refine AO.sF rfl rfl (bD (decide_eq_true hc10)) ?_
       refine AO.sF rfl rfl (bD (decide_eq_true hc10)) ?_
       refine AO.sF rfl rfl (bD (decide_eq_true hc10)) ?_
       refine AO.c (Calm.pickT rfl (bD (decide_eq_true hc10)) rfl) ?_
       cases hq8
       refine AO.nilE ⟨rfl, rfl⟩ ?_ ?_
       · exact ⟨rfl, rfl, rfl, trivial⟩
       · exact (Sub.refl _)
      ·refine AO.cG rfl rfl (bD (decide_eq_false hc10)) (Calm.move rfl rfl) ?_
       refine AO.cG rfl rfl (bD (decide_eq_false hc10)) (Calm.move rfl rfl) ?_
       obtain ⟨hg11, hq8⟩ := of_guard hq8
       refine AO.cG rfl rfl (bD (decide_eq_false hc10)) (Calm.idxL (f := e82) rfl rfl rfl hg11 Try.underlying22 sz82) ?_
       refine AO.cG rfl rfl (bD (decide_eq_false hc10)) (Calm.fldRp rfl rfl Try.underlying82 rfl sz9 (At.cast (At.fld0 At.here) rfl)) ?_
       refine AO.cG rfl rfl (bD (decide_eq_false hc10)) (Calm.loadRp rfl rfl ag9 sz9) ?_
       refine AO.cG rfl rfl (bD (decide_eq_false hc10)) (Calm.lenStr rfl rfl Try.underlying9) ?_
       refine AO.cG (x := eBool (decide ((100 : Int) < (((lget p0 x3).f0).size : Int)))) rfl rfl (bD (decide_eq_false hc10)) (Calm.int rfl rfl rfl rfl) ?_
       refine AO.c (Calm.pickF rfl (bD (decide_eq_false hc10)) rfl) ?_
       cases hq8
       refine AO.nilE ⟨rfl, rfl⟩ ?_ ?_
       · exact ⟨rfl, rfl, rfl, trivial⟩
       · exact (Sub.refl _)
     ·rcases of_ite h with ⟨hc12, h⟩ | ⟨hc12, h⟩
      ·refine AW.condT' _ rfl hc12 ?_
       refine AW.sr ?_
       refine AO.ag rfl rfl ?_
       refine AO.nK [2] ?_
       refine AW.rK [2] ?_
       have hr := Option.some.inj h
       subst hr
       exact ⟨[(eBool false)], ⟨rfl, rfl, trivial⟩, rfl⟩
      ·refine AW.condF' _ rfl hc12 ?_
       refine AW.sK [0, 3] ?_
       refine AW.reg ?_
       refine AO.mv rfl rfl ?_
       refine AO.c (x := eI64 (w64 (x3 + (1 : Int)))) (Calm.int rfl rfl rfl rfl) ?_
       refine AO.ag rfl rfl ?_
       refine AO.nK [0, 3] ?_
       exact ⟨kq5, Nat.lt_succ_self _, (w64 (x3 + (1 : Int))), rfl, rfl, by rw [hrec4]; exact h⟩
    ·refine AW.condN _ rfl hc6 ?_
     refine AW.eK [] ?_
     exact ⟨rfl, rfl, h⟩
   ·rintro _ _ ⟨rfl, rfl, h⟩
    rw [F38_c0.eq_1] at h
    refine AW.sr ?_
    refine AO.ag rfl rfl ?_
    refine AO.nK [2] ?_
    refine AW.rK [2] ?_
    have hr := Option.some.inj h
    subst hr
    exact ⟨[(eBool true)], ⟨rfl, rfl, trivial⟩, rfl⟩
end Go.Avl.T7
/- bosket/bosketlaw17.Few; printed by avmain.py. -/
namespace Go.Avl.T7
open Go Go.RowKit Go.Proofs Go.Avl
set_option linter.unusedVariables false
set_option maxRecDepth 100000
set_option maxHeartbeats 4000000
attribute [local irreducible] AW AO AQ Spec SpecH Calm

def F10_c0 (k : Nat) : Option Bool :=
  some (true)
def F10_l1 (k : Nat) (p0 : S27) : Nat → Int → Option Bool
  | 0, _ => none
  | j + 1, x10 =>
    if x10 < (p0.f3.length : Int) then if 0 ≤ x10 ∧ x10 < (p0.f3.length : Int) then if (20 : Int) < (((lget p0.f3 x10).f1).length : Int) then some (false)
    else (F10_l1 k p0 j) (w64 (x10 + (1 : Int)))
    else none
    else F10_c0 k
def F10_c2 (k : Nat) (p0 : S27) : Option Bool :=
  F10_l1 k p0 k (0 : Int)
def F10_l3 (k : Nat) (p0 : S27) : Nat → Int → Option Bool
  | 0, _ => none
  | j + 1, x16 =>
    if x16 < (p0.f2.length : Int) then Option.bind (α := Bool) (if 0 ≤ x16 ∧ x16 < (p0.f2.length : Int) then if (20 : Int) < (((lget p0.f2 x16).f2).length : Int) then some (true)
    else if 0 ≤ x16 ∧ x16 < (p0.f2.length : Int) then if (20 : Int) < (((lget p0.f2 x16).f5).length : Int) then some (true)
    else if 0 ≤ x16 ∧ x16 < (p0.f2.length : Int) then some (decide ((100 : Int) < (((lget p0.f2 x16).f1).size : Int)))
    else none
    else none
    else none) fun b20 =>
    if b20 = true then some (false)
    else (F10_l3 k p0 j) (w64 (x16 + (1 : Int)))
    else F10_c2 k p0
def F10_c4 (k : Nat) (p0 : S27) : Option Bool :=
  F10_l3 k p0 k (0 : Int)
def F10_l5 (k : Nat) (p0 : S27) : Nat → Int → Option Bool
  | 0, _ => none
  | j + 1, x28 =>
    if x28 < (p0.f1.length : Int) then if 0 ≤ x28 ∧ x28 < (p0.f1.length : Int) then if (100 : Int) < ((lget p0.f1 x28).size : Int) then some (false)
    else (F10_l5 k p0 j) (w64 (x28 + (1 : Int)))
    else none
    else F10_c4 k p0
def F10 (k : Nat) (p0 : S27) : Option Bool :=
  Option.bind (α := Bool) ((F38 k p0.f0).bind fun t5 =>
  if (!t5) = true then some (true)
  else if (20 : Int) < (p0.f1.length : Int) then some (true)
  else if (40 : Int) < (p0.f2.length : Int) then some (true)
  else some (decide ((20 : Int) < (p0.f3.length : Int)))) fun b3 =>
  if b3 = true then some (false)
  else F10_l5 k p0 k (0 : Int)
theorem F10_spec {k : Nat} {p0 : S27} {r : Bool} (h : F10 k p0 = some r) : Spec Try.prog 10 [(e27 p0)] (eBool r) := by
  rw [F10.eq_1] at h
  refine Spec.intro (res := [.tmp 2]) Try.func10 rfl rfl rfl (Nat.le_of_ble_eq_true rfl) ?_
  refine AW.sr ?_
  refine AO.box rfl 1 rfl (by decide) rfl rfl rfl fun n2 => ?_
  refine AO.ag rfl rfl ?_
  refine AO.nK [1] ?_
  refine AW.seq ?_
  refine AW.seq ?_
  obtain ⟨b3, hq4, h⟩ := of_bind h
  refine AW.regM [(1, (.ptr n2 0)), (27, (eBool b3))] [(n2, (.mem (e27 p0)))] ?_ ?_
  ·refine AO.c (x := .ptr n2 0) (Calm.fldPtr rfl rfl Try.underlying27 rfl sz22 _ rfl) ?_
   refine AO.c (Calm.load 0 rfl rfl rfl (At.cast (At.fld0 At.here) rfl) ag22 sz22) ?_
   obtain ⟨t5, et5, hq4⟩ := of_bind hq4
   refine AO.callS [(.fz 3 (p0.f0.map e82))] (eBool t5) 8 rfl (by decide) ok38 rfl rfl rfl ⟨rfl, rfl, trivial⟩ (F38_spec et5) ?_
   refine AO.c (Calm.not rfl rfl) ?_
   refine AO.mv rfl rfl ?_
   rcases of_ite hq4 with ⟨hc6, hq4⟩ | ⟨hc6, hq4⟩
   ·refine AO.sF rfl rfl (bD hc6) ?_
    refine AO.sF rfl rfl (bD hc6) ?_
    refine AO.sF rfl rfl (bD hc6) ?_
    refine AO.sF rfl rfl (bD hc6) ?_
    refine AO.c (Calm.pickT rfl (bD hc6) rfl) ?_
    refine AO.mv rfl rfl ?_
    refine AO.sF rfl rfl rfl ?_
    refine AO.sF rfl rfl rfl ?_
    refine AO.sF rfl rfl rfl ?_
    refine AO.sF rfl rfl rfl ?_
    refine AO.c (Calm.pickT rfl rfl rfl) ?_
    refine AO.mv rfl rfl ?_
    refine AO.sF rfl rfl rfl ?_
    refine AO.sF rfl rfl rfl ?_
    refine AO.sF rfl rfl rfl ?_
    refine AO.sF rfl rfl rfl ?_
    refine AO.c (Calm.pickT rfl rfl rfl) ?_
    cases hq4
    refine AO.nilE ⟨rfl, rfl⟩ ?_ ?_
    · exact ⟨rfl, rfl, trivial⟩
    · exact (Sub.refl _)
   ·refine AO.cG (x := .ptr n2 1) rfl rfl (bD (eq_false_of_ne_true hc6)) (Calm.fldPtr rfl rfl Try.underlying27 rfl sz23 _ rfl) ?_
    refine AO.cG rfl rfl (bD (eq_false_of_ne_true hc6)) (Calm.load 0 rfl rfl rfl (At.cast (At.fldS (At.fld0 At.here)) rfl) ag23 sz23) ?_
    refine AO.cG rfl rfl (bD (eq_false_of_ne_true hc6)) (Calm.lenL rfl rfl Try.underlying23) ?_
    refine AO.cG (x := eBool (decide ((20 : Int) < (p0.f1.length : Int)))) rfl rfl (bD (eq_false_of_ne_true hc6)) (Calm.int rfl rfl rfl rfl) ?_
    refine AO.c (Calm.pickF rfl (bD (eq_false_of_ne_true hc6)) rfl) ?_
    refine AO.mv rfl rfl ?_
    rcases of_ite hq4 with ⟨hc7, hq4⟩ | ⟨hc7, hq4⟩
    ·refine AO.sF rfl rfl (bD (decide_eq_true hc7)) ?_
     refine AO.sF rfl rfl (bD (decide_eq_true hc7)) ?_
     refine AO.sF rfl rfl (bD (decide_eq_true hc7)) ?_
     refine AO.sF rfl rfl (bD (decide_eq_true hc7)) ?_
     refine AO.c (Calm.pickT rfl (bD (decide_eq_true hc7)) rfl) ?_
     refine AO.mv rfl rfl ?_
     refine AO.sF rfl rfl rfl ?_
     refine AO.sF rfl rfl rfl ?_
     refine AO.sF rfl rfl rfl ?_
     refine AO.sF rfl rfl rfl ?_
     refine AO.c (Calm.pickT rfl rfl rfl) ?_
     cases hq4
     refine AO.nilE ⟨rfl, rfl⟩ ?_ ?_
     · exact ⟨rfl, rfl, trivial⟩
     · exact (Sub.refl _)
    ·refine AO.cG (x := .ptr n2 2) rfl rfl (bD (decide_eq_false hc7)) (Calm.fldPtr rfl rfl Try.underlying27 rfl sz24 _ rfl) ?_
     refine AO.cG rfl rfl (bD (decide_eq_false hc7)) (Calm.load 0 rfl rfl rfl (At.cast (At.fldS (At.fldS (At.fld0 At.here))) rfl) ag24 sz24) ?_
     refine AO.cG rfl rfl (bD (decide_eq_false hc7)) (Calm.lenL rfl rfl Try.underlying24) ?_
     refine AO.cG (x := eBool (decide ((40 : Int) < (p0.f2.length : Int)))) rfl rfl (bD (decide_eq_false hc7)) (Calm.int rfl rfl rfl rfl) ?_
     refine AO.c (Calm.pickF rfl (bD (decide_eq_false hc7)) rfl) ?_
     refine AO.mv rfl rfl ?_
     rcases of_ite hq4 with ⟨hc8, hq4⟩ | ⟨hc8, hq4⟩
     ·refine AO.sF rfl rfl (bD (decide_eq_true hc8)) ?_
      refine AO.sF rfl rfl (bD (decide_eq_true hc8)) ?_
      refine AO.sF rfl rfl (bD (decide_eq_true hc8)) ?_
      refine AO.sF rfl rfl (bD (decide_eq_true hc8)) ?_
      refine AO.c (Calm.pickT rfl (bD (decide_eq_true hc8)) rfl) ?_
      cases hq4
      refine AO.nilE ⟨rfl, rfl⟩ ?_ ?_
      · exact ⟨rfl, rfl, trivial⟩
      · exact (Sub.refl _)
     ·refine AO.cG (x := .ptr n2 3) rfl rfl (bD (decide_eq_false hc8)) (Calm.fldPtr rfl rfl Try.underlying27 rfl sz25 _ rfl) ?_
      refine AO.cG rfl rfl (bD (decide_eq_false hc8)) (Calm.load 0 rfl rfl rfl (At.cast (At.fldS (At.fldS (At.fldS (At.fld0 At.here)))) rfl) ag25 sz25) ?_
      refine AO.cG rfl rfl (bD (decide_eq_false hc8)) (Calm.lenL rfl rfl Try.underlying25) ?_
      refine AO.cG (x := eBool (decide ((20 : Int) < (p0.f3.length : Int)))) rfl rfl (bD (decide_eq_false hc8)) (Calm.int rfl rfl rfl rfl) ?_
      refine AO.c (Calm.pickF rfl (bD (decide_eq_false hc8)) rfl) ?_
      cases hq4
      refine AO.nilE ⟨rfl, rfl⟩ ?_ ?_
      · exact ⟨rfl, rfl, trivial⟩
      · exact (Sub.refl _)
  ·rcases of_ite h with ⟨hc9, h⟩ | ⟨hc9, h⟩
   ·refine AW.condT' _ rfl hc9 ?_
    refine AW.sr ?_
    refine AO.ag rfl rfl ?_
    refine AO.nH [2] (H' := []) (Sub.nil _) ?_
    refine AW.rK [2] ?_
    have hr := Option.some.inj h
    subst hr
    exact ⟨[(eBool false)], ⟨rfl, rfl, trivial⟩, rfl⟩
   ·refine AW.condF' _ rfl hc9 ?_
    refine AW.sK [1] ?_
    refine AW.seq_mid (fun ρ H => ρ = [(1, (.ptr n2 0))] ∧ H = [(n2, (.mem (e27 p0)))] ∧ F10_c4 k p0 = some r) ?_ ?_
    ·refine AW.sr ?_
     refine AO.ag rfl rfl ?_
     refine AO.nK [1, 3] ?_
     refine AW.block ?_
     refine AW.wK [1, 3] ?_
     refine AW.loop (fun kq ρ H => ∃ (x28 : Int), ρ = [(1, (.ptr n2 0)), (3, (eI64 x28))] ∧ H = [(n2, (.mem (e27 p0)))] ∧ F10_l5 k p0 kq x28 = some r) k ⟨(0 : Int), rfl, rfl, h⟩ ?_
     rintro kq30 _ _ ⟨x28, rfl, rfl, h⟩
     cases kq30 with
     | zero => rw [F10_l5.eq_1] at h; cases h
     | succ kq30 =>
     rw [F10_l5.eq_2] at h
     generalize hrec29 : F10_l5 k p0 kq30 = rec29 at h
     refine AW.seq ?_
     refine AW.sr ?_
     refine AO.mv rfl rfl ?_
     refine AO.c (x := .ptr n2 1) (Calm.fldPtr rfl rfl Try.underlying27 rfl sz23 _ rfl) ?_
     refine AO.c (Calm.load 0 rfl rfl rfl (At.cast (At.fldS (At.fld0 At.here)) rfl) ag23 sz23) ?_
     refine AO.c (Calm.lenL rfl rfl Try.underlying23) ?_
     refine AO.c (x := eBool (decide (x28 < (p0.f1.length : Int)))) (Calm.int rfl rfl rfl rfl) ?_
     refine AO.nK [1, 3, 32] ?_
     rcases of_ite h with ⟨hc31, h⟩ | ⟨hc31, h⟩
     ·refine AW.condP _ rfl hc31 ?_
      refine AW.sK [1, 3] ?_
      refine AW.seq ?_
      refine AW.block ?_
      refine AW.sr ?_
      refine AO.c (x := .ptr n2 1) (Calm.fldPtr rfl rfl Try.underlying27 rfl sz23 _ rfl) ?_
      refine AO.c (Calm.load 0 rfl rfl rfl (At.cast (At.fldS (At.fld0 At.here)) rfl) ag23 sz23) ?_
      refine AO.mv rfl rfl ?_
      obtain ⟨hg32, h⟩ := of_guard h
      refine AO.c (Calm.idxL (f := eStr) rfl rfl rfl hg32 Try.underlying23 sz9) ?_
      refine AO.c (Calm.loadRp rfl rfl ag9 sz9) ?_
      refine AO.c (Calm.lenStr rfl rfl Try.underlying9) ?_
      refine AO.c (x := eBool (decide ((100 : Int) < ((lget p0.f1 x28).size : Int)))) (Calm.int rfl rfl rfl rfl) ?_
      refine AO.nK [1, 3, 41] ?_
      rcases of_ite h with ⟨hc33, h⟩ | ⟨hc33, h⟩
      ·refine AW.condP _ rfl hc33 ?_
       refine AW.sr ?_
       refine AO.ag rfl rfl ?_
       refine AO.nH [2] (H' := []) (Sub.nil _) ?_
       refine AW.rK [2] ?_
       have hr := Option.some.inj h
       subst hr
       exact ⟨[(eBool false)], ⟨rfl, rfl, trivial⟩, rfl⟩
      ·refine AW.condN _ rfl hc33 ?_
       refine AW.sK [1, 3] ?_
       refine AW.reg ?_
       refine AO.mv rfl rfl ?_
       refine AO.c (x := eI64 (w64 (x28 + (1 : Int)))) (Calm.int rfl rfl rfl rfl) ?_
       refine AO.ag rfl rfl ?_
       refine AO.nK [1, 3] ?_
       exact ⟨kq30, Nat.lt_succ_self _, (w64 (x28 + (1 : Int))), rfl, rfl, by rw [hrec29]; exact h⟩
     ·refine AW.condN _ rfl hc31 ?_
      refine AW.eK [1] ?_
      exact ⟨rfl, rfl, h⟩
    ·rintro _ _ ⟨rfl, rfl, h⟩
     rw [F10_c4.eq_1] at h
     refine AW.seq_mid (fun ρ H => ρ = [(1, (.ptr n2 0))] ∧ H = [(n2, (.mem (e27 p0)))] ∧ F10_c2 k p0 = some r) ?_ ?_
     ·refine AW.sr ?_
      refine AO.ag rfl rfl ?_
      refine AO.nK [1, 4] ?_
      refine AW.block ?_
      refine AW.wK [1, 4] ?_
      refine AW.loop (fun kq ρ H => ∃ (x16 : Int), ρ = [(1, (.ptr n2 0)), (4, (eI64 x16))] ∧ H = [(n2, (.mem (e27 p0)))] ∧ F10_l3 k p0 kq x16 = some r) k ⟨(0 : Int), rfl, rfl, h⟩ ?_
      rintro kq18 _ _ ⟨x16, rfl, rfl, h⟩
      cases kq18 with
      | zero => rw [F10_l3.eq_1] at h; cases h
      | succ kq18 =>
      rw [F10_l3.eq_2] at h
      generalize hrec17 : F10_l3 k p0 kq18 = rec17 at h
      refine AW.seq ?_
      refine AW.sr ?_
      refine AO.mv rfl rfl ?_
      refine AO.c (x := .ptr n2 2) (Calm.fldPtr rfl rfl Try.underlying27 rfl sz24 _ rfl) ?_
      refine AO.c (Calm.load 0 rfl rfl rfl (At.cast (At.fldS (At.fldS (At.fld0 At.here))) rfl) ag24 sz24) ?_
      refine AO.c (Calm.lenL rfl rfl Try.underlying24) ?_
      refine AO.c (x := eBool (decide (x16 < (p0.f2.length : Int)))) (Calm.int rfl rfl rfl rfl) ?_
      refine AO.nK [1, 4, 46] ?_
      rcases of_ite h with ⟨hc19, h⟩ | ⟨hc19, h⟩
      ·refine AW.condP _ rfl hc19 ?_
       refine AW.sK [1, 4] ?_
       refine AW.seq ?_
       refine AW.block ?_
       refine AW.seq ?_
       obtain ⟨b20, hq21, h⟩ := of_bind h
       refine AW.regM [(1, (.ptr n2 0)), (4, (eI64 x16)), (76, (eBool b20))] [(n2, (.mem (e27 p0)))] ?_ ?_
       ·refine AO.c (x := .ptr n2 2) (Calm.fldPtr rfl rfl Try.underlying27 rfl sz24 _ rfl) ?_
        refine AO.c (Calm.load 0 rfl rfl rfl (At.cast (At.fldS (At.fldS (At.fld0 At.here))) rfl) ag24 sz24) ?_
        refine AO.mv rfl rfl ?_
        obtain ⟨hg22, hq21⟩ := of_guard hq21
        refine AO.c (Calm.idxL (f := e37) rfl rfl rfl hg22 Try.underlying24 sz37) ?_
        refine AO.c (Calm.fldRp rfl rfl Try.underlying37 rfl sz34 (At.cast (At.fldS (At.fldS (At.fld0 At.here))) rfl)) ?_
        refine AO.c (Calm.loadRp rfl rfl ag34 sz34) ?_
        refine AO.c (Calm.lenL rfl rfl Try.underlying34) ?_
        refine AO.c (x := eBool (decide ((20 : Int) < (((lget p0.f2 x16).f2).length : Int)))) (Calm.int rfl rfl rfl rfl) ?_
        refine AO.mv rfl rfl ?_
        rcases of_ite hq21 with ⟨hc23, hq21⟩ | ⟨hc23, hq21⟩
        ·refine AO.sF rfl rfl (bD (decide_eq_true hc23)) ?_
         refine AO.sF rfl rfl (bD (decide_eq_true hc23)) ?_
         refine AO.sF rfl rfl (bD (decide_eq_true hc23)) ?_
         refine AO.sF rfl rfl (bD (decide_eq_true hc23)) ?_
         refine AO.sF rfl rfl (bD (decide_eq_true hc23)) ?_
         refine AO.sF rfl rfl (bD (decide_eq_true hc23)) ?_
         refine AO.sF rfl rfl (bD (decide_eq_true hc23)) ?_
         refine AO.sF rfl rfl (bD (decide_eq_true hc23)) ?_
         refine AO.c (Calm.pickT rfl (bD (decide_eq_true hc23)) rfl) ?_
         refine AO.mv rfl rfl ?_
         refine AO.sF rfl rfl rfl ?_
         refine AO.sF rfl rfl rfl ?_
         refine AO.sF rfl rfl rfl ?_
         refine AO.sF rfl rfl rfl ?_
         refine AO.sF rfl rfl rfl ?_
         refine AO.sF rfl rfl rfl ?_
         refine AO.sF rfl rfl rfl ?_
         refine AO.sF rfl rfl rfl ?_
         refine AO.c (Calm.pickT rfl rfl rfl) ?_
         cases hq21
         refine AO.nilE ⟨rfl, rfl⟩ ?_ ?_
         · exact ⟨rfl, rfl, rfl, trivial⟩
         · exact (Sub.refl _)
        ·refine AO.cG (x := .ptr n2 2) rfl rfl (bD (decide_eq_false hc23)) (Calm.fldPtr rfl rfl Try.underlying27 rfl sz24 _ rfl) ?_
         refine AO.cG rfl rfl (bD (decide_eq_false hc23)) (Calm.load 0 rfl rfl rfl (At.cast (At.fldS (At.fldS (At.fld0 At.here))) rfl) ag24 sz24) ?_
         refine AO.cG rfl rfl (bD (decide_eq_false hc23)) (Calm.move rfl rfl) ?_
         obtain ⟨hg24, hq21⟩ := of_guard hq21
         refine AO.cG rfl rfl (bD (decide_eq_false hc23)) (Calm.idxL (f := e37) rfl rfl rfl hg24 Try.underlying24 sz37) ?_
         refine AO.cG rfl rfl (bD (decide_eq_false hc23)) (Calm.fldRp rfl rfl Try.underlying37 rfl sz35 (At.cast (At.fldS (At.fldS (At.fldS (At.fldS (At.fldS (At.fld0 At.here)))))) rfl)) ?_
         refine AO.cG rfl rfl (bD (decide_eq_false hc23)) (Calm.loadRp rfl rfl ag35 sz35) ?_
         refine AO.cG rfl rfl (bD (decide_eq_false hc23)) (Calm.lenL rfl rfl Try.underlying35) ?_
         refine AO.cG (x := eBool (decide ((20 : Int) < (((lget p0.f2 x16).f5).length : Int)))) rfl rfl (bD (decide_eq_false hc23)) (Calm.int rfl rfl rfl rfl) ?_
         refine AO.c (Calm.pickF rfl (bD (decide_eq_false hc23)) rfl) ?_
         refine AO.mv rfl rfl ?_
         rcases of_ite hq21 with ⟨hc25, hq21⟩ | ⟨hc25, hq21⟩
         ·refine AO.sF rfl rfl (bD (decide_eq_true hc25)) ?_
          refine AO.sF rfl rfl (bD (decide_eq_true hc25)) ?_
          refine AO.sF rfl rfl (bD (decide_eq_true hc25)) ?_
          refine AO.sF rfl rfl (bD (decide_eq_true hc25)) ?_
          refine AO.sF rfl rfl (bD (decide_eq_true hc25)) ?_
          refine AO.sF rfl rfl (bD (decide_eq_true hc25)) ?_
          refine AO.sF rfl rfl (bD (decide_eq_true hc25)) ?_
          refine AO.sF rfl rfl (bD (decide_eq_true hc25)) ?_
          refine AO.c (Calm.pickT rfl (bD (decide_eq_true hc25)) rfl) ?_
          cases hq21
          refine AO.nilE ⟨rfl, rfl⟩ ?_ ?_
          · exact ⟨rfl, rfl, rfl, trivial⟩
          · exact (Sub.refl _)
         ·refine AO.cG (x := .ptr n2 2) rfl rfl (bD (decide_eq_false hc25)) (Calm.fldPtr rfl rfl Try.underlying27 rfl sz24 _ rfl) ?_
          refine AO.cG rfl rfl (bD (decide_eq_false hc25)) (Calm.load 0 rfl rfl rfl (At.cast (At.fldS (At.fldS (At.fld0 At.here))) rfl) ag24 sz24) ?_
          refine AO.cG rfl rfl (bD (decide_eq_false hc25)) (Calm.move rfl rfl) ?_
          obtain ⟨hg26, hq21⟩ := of_guard hq21
          refine AO.cG rfl rfl (bD (decide_eq_false hc25)) (Calm.idxL (f := e37) rfl rfl rfl hg26 Try.underlying24 sz37) ?_
          refine AO.cG rfl rfl (bD (decide_eq_false hc25)) (Calm.fldRp rfl rfl Try.underlying37 rfl sz9 (At.cast (At.fldS (At.fld0 At.here)) rfl)) ?_
          refine AO.cG rfl rfl (bD (decide_eq_false hc25)) (Calm.loadRp rfl rfl ag9 sz9) ?_
          refine AO.cG rfl rfl (bD (decide_eq_false hc25)) (Calm.lenStr rfl rfl Try.underlying9) ?_
          refine AO.cG (x := eBool (decide ((100 : Int) < (((lget p0.f2 x16).f1).size : Int)))) rfl rfl (bD (decide_eq_false hc25)) (Calm.int rfl rfl rfl rfl) ?_
          refine AO.c (Calm.pickF rfl (bD (decide_eq_false hc25)) rfl) ?_
          cases hq21
          refine AO.nilE ⟨rfl, rfl⟩ ?_ ?_
          · exact ⟨rfl, rfl, rfl, trivial⟩
          · exact (Sub.refl _)
       ·rcases of_ite h with ⟨hc27, h⟩ | ⟨hc27, h⟩
        ·refine AW.condT' _ rfl hc27 ?_
         refine AW.sr ?_
         refine AO.ag rfl rfl ?_
         refine AO.nH [2] (H' := []) (Sub.nil _) ?_
         refine AW.rK [2] ?_
         have hr := Option.some.inj h
         subst hr
         exact ⟨[(eBool false)], ⟨rfl, rfl, trivial⟩, rfl⟩
        ·refine AW.condF' _ rfl hc27 ?_
         refine AW.sK [1, 4] ?_
         refine AW.reg ?_
         refine AO.mv rfl rfl ?_
         refine AO.c (x := eI64 (w64 (x16 + (1 : Int)))) (Calm.int rfl rfl rfl rfl) ?_
         refine AO.ag rfl rfl ?_
         refine AO.nK [1, 4] ?_
         exact ⟨kq18, Nat.lt_succ_self _, (w64 (x16 + (1 : Int))), rfl, rfl, by rw [hrec17]; exact h⟩
      ·refine AW.condN _ rfl hc19 ?_
       refine AW.eK [1] ?_
       exact ⟨rfl, rfl, h⟩
     ·rintro _ _ ⟨rfl, rfl, h⟩
      rw [F10_c2.eq_1] at h
      refine AW.seq_mid (fun ρ H => ρ = [] ∧ H = [] ∧ F10_c0 k = some r) ?_ ?_
      ·refine AW.sr ?_
       refine AO.ag rfl rfl ?_
       refine AO.nK [1, 5] ?_
       refine AW.block ?_
       refine AW.wK [1, 5] ?_
       refine AW.loop (fun kq ρ H => ∃ (x10 : Int), ρ = [(1, (.ptr n2 0)), (5, (eI64 x10))] ∧ H = [(n2, (.mem (e27 p0)))] ∧ F10_l1 k p0 kq x10 = some r) k ⟨(0 : Int), rfl, rfl, h⟩ ?_
       rintro kq12 _ _ ⟨x10, rfl, rfl, h⟩
       cases kq12 with
       | zero => rw [F10_l1.eq_1] at h; cases h
       | succ kq12 =>
       rw [F10_l1.eq_2] at h
       generalize hrec11 : F10_l1 k p0 kq12 = rec11 at h
       refine AW.seq ?_
       refine AW.sr ?_
       refine AO.mv rfl rfl ?_
       refine AO.c (x := .ptr n2 3) (Calm.fldPtr rfl rfl Try.underlying27 rfl sz25 _ rfl) ?_
       refine AO.c (Calm.load 0 rfl rfl rfl (At.cast (At.fldS (At.fldS (At.fldS (At.fld0 At.here)))) rfl) ag25 sz25) ?_
       refine AO.c (Calm.lenL rfl rfl Try.underlying25) ?_
       refine AO.c (x := eBool (decide (x10 < (p0.f3.length : Int)))) (Calm.int rfl rfl rfl rfl) ?_
       refine AO.nK [1, 5, 81] ?_
       rcases of_ite h with ⟨hc13, h⟩ | ⟨hc13, h⟩
       ·refine AW.condP _ rfl hc13 ?_
        refine AW.sK [1, 5] ?_
        refine AW.seq ?_
        refine AW.block ?_
        refine AW.sr ?_
        refine AO.c (x := .ptr n2 3) (Calm.fldPtr rfl rfl Try.underlying27 rfl sz25 _ rfl) ?_
        refine AO.c (Calm.load 0 rfl rfl rfl (At.cast (At.fldS (At.fldS (At.fldS (At.fld0 At.here)))) rfl) ag25 sz25) ?_
        refine AO.mv rfl rfl ?_
        obtain ⟨hg14, h⟩ := of_guard h
        refine AO.c (Calm.idxL (f := e86) rfl rfl rfl hg14 Try.underlying25 sz86) ?_
        refine AO.c (Calm.fldRp rfl rfl Try.underlying86 rfl sz35 (At.cast (At.fldS (At.fld0 At.here)) rfl)) ?_
        refine AO.c (Calm.loadRp rfl rfl ag35 sz35) ?_
        refine AO.c (Calm.lenL rfl rfl Try.underlying35) ?_
        refine AO.c (x := eBool (decide ((20 : Int) < (((lget p0.f3 x10).f1).length : Int)))) (Calm.int rfl rfl rfl rfl) ?_
        refine AO.nK [1, 5, 91] ?_
        rcases of_ite h with ⟨hc15, h⟩ | ⟨hc15, h⟩
        ·refine AW.condP _ rfl hc15 ?_
         refine AW.sr ?_
         refine AO.ag rfl rfl ?_
         refine AO.nH [2] (H' := []) (Sub.nil _) ?_
         refine AW.rK [2] ?_
         have hr := Option.some.inj h
         subst hr
         exact ⟨[(eBool false)], ⟨rfl, rfl, trivial⟩, rfl⟩
        ·refine AW.condN _ rfl hc15 ?_
         refine AW.sK [1, 5] ?_
         refine AW.reg ?_
         refine AO.mv rfl rfl ?_
         refine AO.c (x := eI64 (w64 (x10 + (1 : Int)))) (Calm.int rfl rfl rfl rfl) ?_
         refine AO.ag rfl rfl ?_
         refine AO.nK [1, 5] ?_
         exact ⟨kq12, Nat.lt_succ_self _, (w64 (x10 + (1 : Int))), rfl, rfl, by rw [hrec11]; exact h⟩
       ·refine AW.condN _ rfl hc13 ?_
        refine AW.eH [] (H' := []) (Sub.nil _) ?_
        exact ⟨rfl, rfl, h⟩
      ·rintro _ _ ⟨rfl, rfl, h⟩
       rw [F10_c0.eq_1] at h
       refine AW.sr ?_
       refine AO.ag rfl rfl ?_
       refine AO.nK [2] ?_
       refine AW.rK [2] ?_
       have hr := Option.some.inj h
       subst hr
       exact ⟨[(eBool true)], ⟨rfl, rfl, trivial⟩, rfl⟩
end Go.Avl.T7
/- bosket/bosketlaw17.GramLess; printed by avmain.py. -/
namespace Go.Avl.T7
open Go Go.RowKit Go.Proofs Go.Avl
set_option linter.unusedVariables false
set_option maxRecDepth 100000
set_option maxHeartbeats 4000000
set_option linter.unusedSimpArgs false
attribute [local irreducible] AW AO AQ Spec SpecH Calm

def F3 (k : Nat) (p0 : S27) (p1 : Int) : Option Bool :=
  (F9 k).bind fun t4 =>
  if (!t4) = true then some (false)
  else Option.bind (α := Bool) ((F10 k p0).bind fun t8 =>
  if (!t8) = true then some (true)
  else (F11 k p0).bind fun t10 =>
  some (decide (t10.f0 ≠ (0 : Int)))) fun b6 =>
  if b6 = true then some (true)
  else if (([] : List ByteArray) ++ p0.f1).length * 16 ≤ 140737488355328 then if ((([] : List ByteArray) ++ p0.f1) ++ ([(ByteArray.mk #[115, 111, 114, 116, 95, 109, 111, 114, 101])] : List ByteArray)).length * 16 ≤ 140737488355328 then (F11 k (S27.mk p0.f0 ((([] : List ByteArray) ++ p0.f1) ++ ([(ByteArray.mk #[115, 111, 114, 116, 95, 109, 111, 114, 101])] : List ByteArray)) p0.f2 p0.f3 p0.f4)).bind fun t21 =>
  Option.bind (α := Bool) ((F11 k (S27.mk p0.f0 p0.f1 p0.f2 [] p0.f4)).bind fun t25 =>
  if (!(decide (t25 = (S32.mk (0 : Int) (0 : Int) (0 : Int))))) = true then some (true)
  else if t21.f0 ≠ (0 : Int) then if t21.f0 ≠ (9 : Int) then some (true)
  else if t21.f1 ≠ (2 : Int) then some (true)
  else some (decide (t21.f2 ≠ (p0.f1.length : Int)))
  else some (false)) fun b23 =>
  if b23 = true then some (false)
  else if (p0.f2.length : Int) = (0 : Int) then some (true)
  else if (([] : List S37) ++ p0.f2).length * 88 ≤ 140737488355328 then if (p0.f2.length : Int) ≠ 0 then if 0 ≤ ((w64 p1).tmod (p0.f2.length : Int)) ∧ ((w64 p1).tmod (p0.f2.length : Int)) < (p0.f2.length : Int) then if ((([] : List S37) ++ p0.f2) ++ ([(lget p0.f2 ((w64 p1).tmod (p0.f2.length : Int)))] : List S37)).length * 88 ≤ 140737488355328 then (F11 k (S27.mk p0.f0 p0.f1 ((([] : List S37) ++ p0.f2) ++ ([(lget p0.f2 ((w64 p1).tmod (p0.f2.length : Int)))] : List S37)) p0.f3 p0.f4)).bind fun t40 =>
  some (decide (t40 = (S32.mk (9 : Int) (3 : Int) (p0.f2.length : Int))))
  else none
  else none
  else none
  else none
  else none
  else none
theorem F3_spec {k : Nat} {p0 : S27} {p1 : Int} {r : Bool} (h : F3 k p0 p1 = some r) : Spec Try.prog 3 [(e27 p0), (eU8 p1)] (eBool r) := by
  rw [F3.eq_1] at h
  refine Spec.intro (res := [.tmp 4]) Try.func3 rfl rfl rfl (Nat.le_of_ble_eq_true rfl) ?_
  refine AW.sr ?_
  refine AO.box rfl 2 rfl (by decide) rfl rfl rfl fun n3 => ?_
  refine AO.ag rfl rfl ?_
  refine AO.nK [1, 2] ?_
  refine AW.seq ?_
  refine AW.sr ?_
  obtain ⟨t4, et4, h⟩ := of_bind h
  refine AO.callS [] (eBool t4) 9 rfl (by decide) ok9 rfl rfl rfl trivial (F9_spec et4) ?_
  refine AO.c (Calm.not rfl rfl) ?_
  refine AO.nK [1, 2, 10] ?_
  rcases of_ite h with ⟨hc5, h⟩ | ⟨hc5, h⟩
  ·refine AW.condT' _ rfl hc5 ?_
   refine AW.sr ?_
   refine AO.ag rfl rfl ?_
   refine AO.nH [4] (H' := []) (Sub.nil _) ?_
   refine AW.rK [4] ?_
   have hr := Option.some.inj h
   subst hr
   exact ⟨[(eBool false)], ⟨rfl, rfl, trivial⟩, rfl⟩
  ·refine AW.condF' _ rfl hc5 ?_
   refine AW.sK [1, 2] ?_
   refine AW.seq ?_
   refine AW.seq ?_
   obtain ⟨b6, hq7, h⟩ := of_bind h
   refine AW.regM [(1, (eU8 p1)), (2, (.ptr n3 0)), (19, (eBool b6))] [(n3, (.mem (e27 p0)))] ?_ ?_
   ·refine AO.c (Calm.load 0 rfl rfl rfl (At.cast At.here rfl) ag27 sz27) ?_
    obtain ⟨t8, et8, hq7⟩ := of_bind hq7
    refine AO.callS [(e27 p0)] (eBool t8) 12 rfl (by decide) ok10 rfl rfl rfl ⟨rfl, rfl, trivial⟩ (F10_spec et8) ?_
    refine AO.c (Calm.not rfl rfl) ?_
    refine AO.mv rfl rfl ?_
    rcases of_ite hq7 with ⟨hc9, hq7⟩ | ⟨hc9, hq7⟩
    ·refine AO.sF rfl rfl (bD hc9) ?_
     refine AO.sF rfl rfl (bD hc9) ?_
     refine AO.sF rfl rfl (bD hc9) ?_
     refine AO.sF rfl rfl (bD hc9) ?_
     refine AO.c (Calm.pickT rfl (bD hc9) rfl) ?_
     cases hq7
     refine AO.nilE ⟨rfl, rfl⟩ ?_ ?_
     · exact ⟨rfl, rfl, rfl, trivial⟩
     · exact (Sub.refl _)
    ·refine AO.cG rfl rfl (bD (eq_false_of_ne_true hc9)) (Calm.load 0 rfl rfl rfl (At.cast At.here rfl) ag27 sz27) ?_
     obtain ⟨t10, et10, hq7⟩ := of_bind hq7
     refine AO.callG 3 false 14 [(e27 p0)] (e32 t10) 16 rfl (by decide) ok11 rfl rfl (bD (eq_false_of_ne_true hc9)) rfl rfl ⟨rfl, rfl, trivial⟩ (F11_spec et10) ?_
     refine AO.cG rfl rfl (bD (eq_false_of_ne_true hc9)) (Calm.field rfl rfl Try.underlying32 rfl (At.cast (At.fld0 At.here) rfl) ag30 sz30) ?_
     refine AO.cG (x := eBool (decide (t10.f0 ≠ (0 : Int)))) rfl rfl (bD (eq_false_of_ne_true hc9)) (Calm.int rfl rfl rfl rfl) ?_
     refine AO.c (Calm.pickF rfl (bD (eq_false_of_ne_true hc9)) rfl) ?_
     cases hq7
     refine AO.nilE ⟨rfl, rfl⟩ ?_ ?_
     · exact ⟨rfl, rfl, rfl, trivial⟩
     · exact (Sub.refl _)
   ·rcases of_ite h with ⟨hc11, h⟩ | ⟨hc11, h⟩
    ·refine AW.condT' _ rfl hc11 ?_
     refine AW.sr ?_
     refine AO.ag rfl rfl ?_
     refine AO.nH [4] (H' := []) (Sub.nil _) ?_
     refine AW.rK [4] ?_
     have hr := Option.some.inj h
     subst hr
     exact ⟨[(eBool true)], ⟨rfl, rfl, trivial⟩, rfl⟩
    ·refine AW.condF' _ rfl hc11 ?_
     refine AW.sK [1, 2] ?_
     refine AW.seq ?_
     refine AW.regEff (by rfl) (by decide +kernel) (fun (σ : Nat → Nat) => ([(e27 p0), (e27 p0), (e27 p0), (.ptr (σ 3) 0), (.ptr (σ 4) 0), (.ptr (σ 5) 0), (.fl undef), (.fl undef), (.fl undef)] : List AV)) (fun (L : Nat → Bool) (σ : Nat → Nat) => ((n3, (.mem (e27 p0))) :: (bif L 3 then (bif L 4 then (bif L 5 then (bif L 6 then (bif L 7 then (bif L 8 then (((σ 5), (.mem (e27 p0))) :: ((σ 4), (.mem (e27 p0))) :: ((σ 3), (.mem (e27 p0))) :: []) else (((σ 5), (.mem (.st [(1, (.fl (.slice none 0 0))), (1, (.fl (.slice none 0 0))), (1, (.fl (.slice none 0 0))), (1, (.fl (.slice none 0 0))), (1, (eI64 (0 : Int)))]))) :: ((σ 4), (.mem (e27 p0))) :: ((σ 3), (.mem (e27 p0))) :: [])) else (((σ 5), (.mem (.st [(1, (.fl (.slice none 0 0))), (1, (.fl (.slice none 0 0))), (1, (.fl (.slice none 0 0))), (1, (.fl (.slice none 0 0))), (1, (eI64 (0 : Int)))]))) :: ((σ 4), (.mem (.st [(1, (.fl (.slice none 0 0))), (1, (.fl (.slice none 0 0))), (1, (.fl (.slice none 0 0))), (1, (.fl (.slice none 0 0))), (1, (eI64 (0 : Int)))]))) :: ((σ 3), (.mem (e27 p0))) :: [])) else (((σ 5), (.mem (.st [(1, (.fl (.slice none 0 0))), (1, (.fl (.slice none 0 0))), (1, (.fl (.slice none 0 0))), (1, (.fl (.slice none 0 0))), (1, (eI64 (0 : Int)))]))) :: ((σ 4), (.mem (.st [(1, (.fl (.slice none 0 0))), (1, (.fl (.slice none 0 0))), (1, (.fl (.slice none 0 0))), (1, (.fl (.slice none 0 0))), (1, (eI64 (0 : Int)))]))) :: ((σ 3), (.mem (.st [(1, (.fl (.slice none 0 0))), (1, (.fl (.slice none 0 0))), (1, (.fl (.slice none 0 0))), (1, (.fl (.slice none 0 0))), (1, (eI64 (0 : Int)))]))) :: [])) else (((σ 4), (.mem (.st [(1, (.fl (.slice none 0 0))), (1, (.fl (.slice none 0 0))), (1, (.fl (.slice none 0 0))), (1, (.fl (.slice none 0 0))), (1, (eI64 (0 : Int)))]))) :: ((σ 3), (.mem (.st [(1, (.fl (.slice none 0 0))), (1, (.fl (.slice none 0 0))), (1, (.fl (.slice none 0 0))), (1, (.fl (.slice none 0 0))), (1, (eI64 (0 : Int)))]))) :: [])) else (bif L 5 then (((σ 5), (.mem (.st [(1, (.fl (.slice none 0 0))), (1, (.fl (.slice none 0 0))), (1, (.fl (.slice none 0 0))), (1, (.fl (.slice none 0 0))), (1, (eI64 (0 : Int)))]))) :: ((σ 3), (.mem (.st [(1, (.fl (.slice none 0 0))), (1, (.fl (.slice none 0 0))), (1, (.fl (.slice none 0 0))), (1, (.fl (.slice none 0 0))), (1, (eI64 (0 : Int)))]))) :: []) else (((σ 3), (.mem (.st [(1, (.fl (.slice none 0 0))), (1, (.fl (.slice none 0 0))), (1, (.fl (.slice none 0 0))), (1, (.fl (.slice none 0 0))), (1, (eI64 (0 : Int)))]))) :: []))) else (bif L 4 then (bif L 5 then (((σ 5), (.mem (.st [(1, (.fl (.slice none 0 0))), (1, (.fl (.slice none 0 0))), (1, (.fl (.slice none 0 0))), (1, (.fl (.slice none 0 0))), (1, (eI64 (0 : Int)))]))) :: ((σ 4), (.mem (.st [(1, (.fl (.slice none 0 0))), (1, (.fl (.slice none 0 0))), (1, (.fl (.slice none 0 0))), (1, (.fl (.slice none 0 0))), (1, (eI64 (0 : Int)))]))) :: []) else (((σ 4), (.mem (.st [(1, (.fl (.slice none 0 0))), (1, (.fl (.slice none 0 0))), (1, (.fl (.slice none 0 0))), (1, (.fl (.slice none 0 0))), (1, (eI64 (0 : Int)))]))) :: [])) else (bif L 5 then (((σ 5), (.mem (.st [(1, (.fl (.slice none 0 0))), (1, (.fl (.slice none 0 0))), (1, (.fl (.slice none 0 0))), (1, (.fl (.slice none 0 0))), (1, (eI64 (0 : Int)))]))) :: []) else ([])))) : Heap)) [(1, (eU8 p1)), (2, (.ptr n3 0))] ⟨rfl, rfl, trivial⟩ (fun _ => rfl) (fun σ => (Sub.refl _)) ⟨?_, ?_, ?_, ?_, ?_, ?_, ?_, ?_, ?_, trivial⟩ (fun σ => [(1, (eU8 p1)), (2, (.ptr n3 0)), (5, (.ptr (σ 3) 0)), (6, (.ptr (σ 4) 0)), (7, (.ptr (σ 5) 0))]) (fun σ => ((n3, (.mem (e27 p0))) :: ((σ 5), (.mem (e27 p0))) :: ((σ 4), (.mem (e27 p0))) :: ((σ 3), (.mem (e27 p0))) :: [])) (fun σ => ⟨rfl, rfl, rfl, rfl, rfl, trivial⟩) (fun σ => Sub.refl _) (fun σ => ?_)
     ·refine StepE.calm (fun _ _ => rfl) fun L σ hc hi hd => ?_
      refine AO.wK [2] ?_
      refine AO.c (Calm.load 0 rfl rfl rfl (At.cast At.here rfl) ag27 sz27) ?_
      exact AO.nE (d := 20) rfl ⟨⟨20, _, rfl, rfl, rfl⟩, Sub.refl _⟩
     ·refine StepE.calm (fun _ _ => rfl) fun L σ hc hi hd => ?_
      refine AO.wK [2] ?_
      refine AO.c (Calm.load 0 rfl rfl rfl (At.cast At.here rfl) ag27 sz27) ?_
      exact AO.nE (d := 21) rfl ⟨⟨21, _, rfl, rfl, rfl⟩, Sub.refl _⟩
     ·refine StepE.calm (fun _ _ => rfl) fun L σ hc hi hd => ?_
      refine AO.wK [2] ?_
      refine AO.c (Calm.load 0 rfl rfl rfl (At.cast At.here rfl) ag27 sz27) ?_
      exact AO.nE (d := 22) rfl ⟨⟨22, _, rfl, rfl, rfl⟩, Sub.refl _⟩
     ·intro L σ hc hi hd
      have m6 : L 6 = false := hc.neg (i := 3) (j := 6) rfl (by rfl) hi
      have m7 : L 7 = false := hc.neg (i := 3) (j := 7) rfl (by rfl) hi
      have m8 : L 8 = false := hc.neg (i := 3) (j := 8) rfl (by rfl) hi
      cases b4 : L 4 with
      | true =>
        cases b5 : L 5 with
        | true =>
          refine AO.heq (H' := ((n3, (.mem (e27 p0))) :: ((σ 5), (.mem (.st [(1, (.fl (.slice none 0 0))), (1, (.fl (.slice none 0 0))), (1, (.fl (.slice none 0 0))), (1, (.fl (.slice none 0 0))), (1, (eI64 (0 : Int)))]))) :: ((σ 4), (.mem (.st [(1, (.fl (.slice none 0 0))), (1, (.fl (.slice none 0 0))), (1, (.fl (.slice none 0 0))), (1, (.fl (.slice none 0 0))), (1, (eI64 (0 : Int)))]))) :: [])) (by first | rfl | simp only [hi, b4, b5, m6, m7, m8, cond_true, cond_false]) ?_
          refine AO.wK [] ?_
          refine AO.alloc rfl 5 rfl (by decide) rfl zr27 lay27 fun n12 => ?_
          have a3 : addL L 3 3 = true := rfl
          have a4 : addL L 3 4 = true := b4
          have a5 : addL L 3 5 = true := b5
          have a6 : addL L 3 6 = false := m6
          have a7 : addL L 3 7 = false := m7
          have a8 : addL L 3 8 = false := m8
          have u3 : upd σ 3 n12 3 = n12 := rfl
          have u4 : upd σ 3 n12 4 = σ 4 := rfl
          have u5 : upd σ 3 n12 5 = σ 5 := rfl
          exact AO.nE (d := 5) rfl ⟨(upd σ 3 n12), (fun j hj => match j, hj with | 0, _ => rfl | 1, _ => rfl | 2, _ => rfl | 3, hj => Bool.noConfusion (hj.symm.trans hi) | 4, _ => rfl | 5, _ => rfl | 6, _ => rfl | 7, _ => rfl | 8, _ => rfl | _ + 9, _ => rfl), (fun d' hd' => ⟨_, rfl, by cases hd'; rfl⟩), Sub.of_eq (B := ((n3, (.mem (e27 p0))) :: ((σ 5), (.mem (.st [(1, (.fl (.slice none 0 0))), (1, (.fl (.slice none 0 0))), (1, (.fl (.slice none 0 0))), (1, (.fl (.slice none 0 0))), (1, (eI64 (0 : Int)))]))) :: ((σ 4), (.mem (.st [(1, (.fl (.slice none 0 0))), (1, (.fl (.slice none 0 0))), (1, (.fl (.slice none 0 0))), (1, (.fl (.slice none 0 0))), (1, (eI64 (0 : Int)))]))) :: (n12, (.mem (.st [(1, (.fl (.slice none 0 0))), (1, (.fl (.slice none 0 0))), (1, (.fl (.slice none 0 0))), (1, (.fl (.slice none 0 0))), (1, (eI64 (0 : Int)))]))) :: [])) (by simp only [a3, a4, a5, a6, a7, a8, u3, u4, u5, cond_true, cond_false]) (Sub.cons 1 rfl (Sub.cons 1 rfl (Sub.cons 1 rfl (Sub.cons 0 rfl (Sub.refl _)))))⟩
        | false =>
          refine AO.heq (H' := ((n3, (.mem (e27 p0))) :: ((σ 4), (.mem (.st [(1, (.fl (.slice none 0 0))), (1, (.fl (.slice none 0 0))), (1, (.fl (.slice none 0 0))), (1, (.fl (.slice none 0 0))), (1, (eI64 (0 : Int)))]))) :: [])) (by first | rfl | simp only [hi, b4, b5, m6, m7, m8, cond_true, cond_false]) ?_
          refine AO.wK [] ?_
          refine AO.alloc rfl 5 rfl (by decide) rfl zr27 lay27 fun n12 => ?_
          have a3 : addL L 3 3 = true := rfl
          have a4 : addL L 3 4 = true := b4
          have a5 : addL L 3 5 = false := b5
          have a6 : addL L 3 6 = false := m6
          have a7 : addL L 3 7 = false := m7
          have a8 : addL L 3 8 = false := m8
          have u3 : upd σ 3 n12 3 = n12 := rfl
          have u4 : upd σ 3 n12 4 = σ 4 := rfl
          have u5 : upd σ 3 n12 5 = σ 5 := rfl
          exact AO.nE (d := 5) rfl ⟨(upd σ 3 n12), (fun j hj => match j, hj with | 0, _ => rfl | 1, _ => rfl | 2, _ => rfl | 3, hj => Bool.noConfusion (hj.symm.trans hi) | 4, _ => rfl | 5, _ => rfl | 6, _ => rfl | 7, _ => rfl | 8, _ => rfl | _ + 9, _ => rfl), (fun d' hd' => ⟨_, rfl, by cases hd'; rfl⟩), Sub.of_eq (B := ((n3, (.mem (e27 p0))) :: ((σ 4), (.mem (.st [(1, (.fl (.slice none 0 0))), (1, (.fl (.slice none 0 0))), (1, (.fl (.slice none 0 0))), (1, (.fl (.slice none 0 0))), (1, (eI64 (0 : Int)))]))) :: (n12, (.mem (.st [(1, (.fl (.slice none 0 0))), (1, (.fl (.slice none 0 0))), (1, (.fl (.slice none 0 0))), (1, (.fl (.slice none 0 0))), (1, (eI64 (0 : Int)))]))) :: [])) (by simp only [a3, a4, a5, a6, a7, a8, u3, u4, u5, cond_true, cond_false]) (Sub.cons 1 rfl (Sub.cons 1 rfl (Sub.cons 0 rfl (Sub.refl _))))⟩
      | false =>
        cases b5 : L 5 with
        | true =>
          refine AO.heq (H' := ((n3, (.mem (e27 p0))) :: ((σ 5), (.mem (.st [(1, (.fl (.slice none 0 0))), (1, (.fl (.slice none 0 0))), (1, (.fl (.slice none 0 0))), (1, (.fl (.slice none 0 0))), (1, (eI64 (0 : Int)))]))) :: [])) (by first | rfl | simp only [hi, b4, b5, m6, m7, m8, cond_true, cond_false]) ?_
          refine AO.wK [] ?_
          refine AO.alloc rfl 5 rfl (by decide) rfl zr27 lay27 fun n12 => ?_
          have a3 : addL L 3 3 = true := rfl
          have a4 : addL L 3 4 = false := b4
          have a5 : addL L 3 5 = true := b5
          have a6 : addL L 3 6 = false := m6
          have a7 : addL L 3 7 = false := m7
          have a8 : addL L 3 8 = false := m8
          have u3 : upd σ 3 n12 3 = n12 := rfl
          have u4 : upd σ 3 n12 4 = σ 4 := rfl
          have u5 : upd σ 3 n12 5 = σ 5 := rfl
          exact AO.nE (d := 5) rfl ⟨(upd σ 3 n12), (fun j hj => match j, hj with | 0, _ => rfl | 1, _ => rfl | 2, _ => rfl | 3, hj => Bool.noConfusion (hj.symm.trans hi) | 4, _ => rfl | 5, _ => rfl | 6, _ => rfl | 7, _ => rfl | 8, _ => rfl | _ + 9, _ => rfl), (fun d' hd' => ⟨_, rfl, by cases hd'; rfl⟩), Sub.of_eq (B := ((n3, (.mem (e27 p0))) :: ((σ 5), (.mem (.st [(1, (.fl (.slice none 0 0))), (1, (.fl (.slice none 0 0))), (1, (.fl (.slice none 0 0))), (1, (.fl (.slice none 0 0))), (1, (eI64 (0 : Int)))]))) :: (n12, (.mem (.st [(1, (.fl (.slice none 0 0))), (1, (.fl (.slice none 0 0))), (1, (.fl (.slice none 0 0))), (1, (.fl (.slice none 0 0))), (1, (eI64 (0 : Int)))]))) :: [])) (by simp only [a3, a4, a5, a6, a7, a8, u3, u4, u5, cond_true, cond_false]) (Sub.cons 1 rfl (Sub.cons 1 rfl (Sub.cons 0 rfl (Sub.refl _))))⟩
        | false =>
          refine AO.heq (H' := ((n3, (.mem (e27 p0))) :: [])) (by first | rfl | simp only [hi, b4, b5, m6, m7, m8, cond_true, cond_false]) ?_
          refine AO.wK [] ?_
          refine AO.alloc rfl 5 rfl (by decide) rfl zr27 lay27 fun n12 => ?_
          have a3 : addL L 3 3 = true := rfl
          have a4 : addL L 3 4 = false := b4
          have a5 : addL L 3 5 = false := b5
          have a6 : addL L 3 6 = false := m6
          have a7 : addL L 3 7 = false := m7
          have a8 : addL L 3 8 = false := m8
          have u3 : upd σ 3 n12 3 = n12 := rfl
          have u4 : upd σ 3 n12 4 = σ 4 := rfl
          have u5 : upd σ 3 n12 5 = σ 5 := rfl
          exact AO.nE (d := 5) rfl ⟨(upd σ 3 n12), (fun j hj => match j, hj with | 0, _ => rfl | 1, _ => rfl | 2, _ => rfl | 3, hj => Bool.noConfusion (hj.symm.trans hi) | 4, _ => rfl | 5, _ => rfl | 6, _ => rfl | 7, _ => rfl | 8, _ => rfl | _ + 9, _ => rfl), (fun d' hd' => ⟨_, rfl, by cases hd'; rfl⟩), Sub.of_eq (B := ((n3, (.mem (e27 p0))) :: (n12, (.mem (.st [(1, (.fl (.slice none 0 0))), (1, (.fl (.slice none 0 0))), (1, (.fl (.slice none 0 0))), (1, (.fl (.slice none 0 0))), (1, (eI64 (0 : Int)))]))) :: [])) (by simp only [a3, a4, a5, a6, a7, a8, u3, u4, u5, cond_true, cond_false]) (Sub.cons 1 rfl (Sub.cons 0 rfl (Sub.refl _)))⟩
     ·intro L σ hc hi hd
      have m6 : L 6 = false := hc.neg (i := 4) (j := 6) rfl (by rfl) hi
      have m7 : L 7 = false := hc.neg (i := 4) (j := 7) rfl (by rfl) hi
      have m8 : L 8 = false := hc.neg (i := 4) (j := 8) rfl (by rfl) hi
      cases b3 : L 3 with
      | true =>
        cases b5 : L 5 with
        | true =>
          refine AO.heq (H' := ((n3, (.mem (e27 p0))) :: ((σ 5), (.mem (.st [(1, (.fl (.slice none 0 0))), (1, (.fl (.slice none 0 0))), (1, (.fl (.slice none 0 0))), (1, (.fl (.slice none 0 0))), (1, (eI64 (0 : Int)))]))) :: ((σ 3), (.mem (.st [(1, (.fl (.slice none 0 0))), (1, (.fl (.slice none 0 0))), (1, (.fl (.slice none 0 0))), (1, (.fl (.slice none 0 0))), (1, (eI64 (0 : Int)))]))) :: [])) (by first | rfl | simp only [hi, b3, b5, m6, m7, m8, cond_true, cond_false]) ?_
          refine AO.wK [] ?_
          refine AO.alloc rfl 6 rfl (by decide) rfl zr27 lay27 fun n13 => ?_
          have a3 : addL L 4 3 = true := b3
          have a4 : addL L 4 4 = true := rfl
          have a5 : addL L 4 5 = true := b5
          have a6 : addL L 4 6 = false := m6
          have a7 : addL L 4 7 = false := m7
          have a8 : addL L 4 8 = false := m8
          have u3 : upd σ 4 n13 3 = σ 3 := rfl
          have u4 : upd σ 4 n13 4 = n13 := rfl
          have u5 : upd σ 4 n13 5 = σ 5 := rfl
          exact AO.nE (d := 6) rfl ⟨(upd σ 4 n13), (fun j hj => match j, hj with | 0, _ => rfl | 1, _ => rfl | 2, _ => rfl | 3, _ => rfl | 4, hj => Bool.noConfusion (hj.symm.trans hi) | 5, _ => rfl | 6, _ => rfl | 7, _ => rfl | 8, _ => rfl | _ + 9, _ => rfl), (fun d' hd' => ⟨_, rfl, by cases hd'; rfl⟩), Sub.of_eq (B := ((n3, (.mem (e27 p0))) :: ((σ 5), (.mem (.st [(1, (.fl (.slice none 0 0))), (1, (.fl (.slice none 0 0))), (1, (.fl (.slice none 0 0))), (1, (.fl (.slice none 0 0))), (1, (eI64 (0 : Int)))]))) :: (n13, (.mem (.st [(1, (.fl (.slice none 0 0))), (1, (.fl (.slice none 0 0))), (1, (.fl (.slice none 0 0))), (1, (.fl (.slice none 0 0))), (1, (eI64 (0 : Int)))]))) :: ((σ 3), (.mem (.st [(1, (.fl (.slice none 0 0))), (1, (.fl (.slice none 0 0))), (1, (.fl (.slice none 0 0))), (1, (.fl (.slice none 0 0))), (1, (eI64 (0 : Int)))]))) :: [])) (by simp only [a3, a4, a5, a6, a7, a8, u3, u4, u5, cond_true, cond_false]) (Sub.cons 1 rfl (Sub.cons 1 rfl (Sub.cons 0 rfl (Sub.cons 0 rfl (Sub.refl _)))))⟩
        | false =>
          refine AO.heq (H' := ((n3, (.mem (e27 p0))) :: ((σ 3), (.mem (.st [(1, (.fl (.slice none 0 0))), (1, (.fl (.slice none 0 0))), (1, (.fl (.slice none 0 0))), (1, (.fl (.slice none 0 0))), (1, (eI64 (0 : Int)))]))) :: [])) (by first | rfl | simp only [hi, b3, b5, m6, m7, m8, cond_true, cond_false]) ?_
          refine AO.wK [] ?_
          refine AO.alloc rfl 6 rfl (by decide) rfl zr27 lay27 fun n13 => ?_
          have a3 : addL L 4 3 = true := b3
          have a4 : addL L 4 4 = true := rfl
          have a5 : addL L 4 5 = false := b5
          have a6 : addL L 4 6 = false := m6
          have a7 : addL L 4 7 = false := m7
          have a8 : addL L 4 8 = false := m8
          have u3 : upd σ 4 n13 3 = σ 3 := rfl
          have u4 : upd σ 4 n13 4 = n13 := rfl
          have u5 : upd σ 4 n13 5 = σ 5 := rfl
          exact AO.nE (d := 6) rfl ⟨(upd σ 4 n13), (fun j hj => match j, hj with | 0, _ => rfl | 1, _ => rfl | 2, _ => rfl | 3, _ => rfl | 4, hj => Bool.noConfusion (hj.symm.trans hi) | 5, _ => rfl | 6, _ => rfl | 7, _ => rfl | 8, _ => rfl | _ + 9, _ => rfl), (fun d' hd' => ⟨_, rfl, by cases hd'; rfl⟩), Sub.of_eq (B := ((n3, (.mem (e27 p0))) :: (n13, (.mem (.st [(1, (.fl (.slice none 0 0))), (1, (.fl (.slice none 0 0))), (1, (.fl (.slice none 0 0))), (1, (.fl (.slice none 0 0))), (1, (eI64 (0 : Int)))]))) :: ((σ 3), (.mem (.st [(1, (.fl (.slice none 0 0))), (1, (.fl (.slice none 0 0))), (1, (.fl (.slice none 0 0))), (1, (.fl (.slice none 0 0))), (1, (eI64 (0 : Int)))]))) :: [])) (by simp only [a3, a4, a5, a6, a7, a8, u3, u4, u5, cond_true, cond_false]) (Sub.cons 1 rfl (Sub.cons 0 rfl (Sub.cons 0 rfl (Sub.refl _))))⟩
      | false =>
        cases b5 : L 5 with
        | true =>
          refine AO.heq (H' := ((n3, (.mem (e27 p0))) :: ((σ 5), (.mem (.st [(1, (.fl (.slice none 0 0))), (1, (.fl (.slice none 0 0))), (1, (.fl (.slice none 0 0))), (1, (.fl (.slice none 0 0))), (1, (eI64 (0 : Int)))]))) :: [])) (by first | rfl | simp only [hi, b3, b5, m6, m7, m8, cond_true, cond_false]) ?_
          refine AO.wK [] ?_
          refine AO.alloc rfl 6 rfl (by decide) rfl zr27 lay27 fun n13 => ?_
          have a3 : addL L 4 3 = false := b3
          have a4 : addL L 4 4 = true := rfl
          have a5 : addL L 4 5 = true := b5
          have a6 : addL L 4 6 = false := m6
          have a7 : addL L 4 7 = false := m7
          have a8 : addL L 4 8 = false := m8
          have u3 : upd σ 4 n13 3 = σ 3 := rfl
          have u4 : upd σ 4 n13 4 = n13 := rfl
          have u5 : upd σ 4 n13 5 = σ 5 := rfl
          exact AO.nE (d := 6) rfl ⟨(upd σ 4 n13), (fun j hj => match j, hj with | 0, _ => rfl | 1, _ => rfl | 2, _ => rfl | 3, _ => rfl | 4, hj => Bool.noConfusion (hj.symm.trans hi) | 5, _ => rfl | 6, _ => rfl | 7, _ => rfl | 8, _ => rfl | _ + 9, _ => rfl), (fun d' hd' => ⟨_, rfl, by cases hd'; rfl⟩), Sub.of_eq (B := ((n3, (.mem (e27 p0))) :: ((σ 5), (.mem (.st [(1, (.fl (.slice none 0 0))), (1, (.fl (.slice none 0 0))), (1, (.fl (.slice none 0 0))), (1, (.fl (.slice none 0 0))), (1, (eI64 (0 : Int)))]))) :: (n13, (.mem (.st [(1, (.fl (.slice none 0 0))), (1, (.fl (.slice none 0 0))), (1, (.fl (.slice none 0 0))), (1, (.fl (.slice none 0 0))), (1, (eI64 (0 : Int)))]))) :: [])) (by simp only [a3, a4, a5, a6, a7, a8, u3, u4, u5, cond_true, cond_false]) (Sub.cons 1 rfl (Sub.cons 1 rfl (Sub.cons 0 rfl (Sub.refl _))))⟩
        | false =>
          refine AO.heq (H' := ((n3, (.mem (e27 p0))) :: [])) (by first | rfl | simp only [hi, b3, b5, m6, m7, m8, cond_true, cond_false]) ?_
          refine AO.wK [] ?_
          refine AO.alloc rfl 6 rfl (by decide) rfl zr27 lay27 fun n13 => ?_
          have a3 : addL L 4 3 = false := b3
          have a4 : addL L 4 4 = true := rfl
          have a5 : addL L 4 5 = false := b5
          have a6 : addL L 4 6 = false := m6
          have a7 : addL L 4 7 = false := m7
          have a8 : addL L 4 8 = false := m8
          have u3 : upd σ 4 n13 3 = σ 3 := rfl
          have u4 : upd σ 4 n13 4 = n13 := rfl
          have u5 : upd σ 4 n13 5 = σ 5 := rfl
          exact AO.nE (d := 6) rfl ⟨(upd σ 4 n13), (fun j hj => match j, hj with | 0, _ => rfl | 1, _ => rfl | 2, _ => rfl | 3, _ => rfl | 4, hj => Bool.noConfusion (hj.symm.trans hi) | 5, _ => rfl | 6, _ => rfl | 7, _ => rfl | 8, _ => rfl | _ + 9, _ => rfl), (fun d' hd' => ⟨_, rfl, by cases hd'; rfl⟩), Sub.of_eq (B := ((n3, (.mem (e27 p0))) :: (n13, (.mem (.st [(1, (.fl (.slice none 0 0))), (1, (.fl (.slice none 0 0))), (1, (.fl (.slice none 0 0))), (1, (.fl (.slice none 0 0))), (1, (eI64 (0 : Int)))]))) :: [])) (by simp only [a3, a4, a5, a6, a7, a8, u3, u4, u5, cond_true, cond_false]) (Sub.cons 1 rfl (Sub.cons 0 rfl (Sub.refl _)))⟩
     ·intro L σ hc hi hd
      have m6 : L 6 = false := hc.neg (i := 5) (j := 6) rfl (by rfl) hi
      have m7 : L 7 = false := hc.neg (i := 5) (j := 7) rfl (by rfl) hi
      have m8 : L 8 = false := hc.neg (i := 5) (j := 8) rfl (by rfl) hi
      cases b3 : L 3 with
      | true =>
        cases b4 : L 4 with
        | true =>
          refine AO.heq (H' := ((n3, (.mem (e27 p0))) :: ((σ 4), (.mem (.st [(1, (.fl (.slice none 0 0))), (1, (.fl (.slice none 0 0))), (1, (.fl (.slice none 0 0))), (1, (.fl (.slice none 0 0))), (1, (eI64 (0 : Int)))]))) :: ((σ 3), (.mem (.st [(1, (.fl (.slice none 0 0))), (1, (.fl (.slice none 0 0))), (1, (.fl (.slice none 0 0))), (1, (.fl (.slice none 0 0))), (1, (eI64 (0 : Int)))]))) :: [])) (by first | rfl | simp only [hi, b3, b4, m6, m7, m8, cond_true, cond_false]) ?_
          refine AO.wK [] ?_
          refine AO.alloc rfl 7 rfl (by decide) rfl zr27 lay27 fun n14 => ?_
          have a3 : addL L 5 3 = true := b3
          have a4 : addL L 5 4 = true := b4
          have a5 : addL L 5 5 = true := rfl
          have a6 : addL L 5 6 = false := m6
          have a7 : addL L 5 7 = false := m7
          have a8 : addL L 5 8 = false := m8
          have u3 : upd σ 5 n14 3 = σ 3 := rfl
          have u4 : upd σ 5 n14 4 = σ 4 := rfl
          have u5 : upd σ 5 n14 5 = n14 := rfl
          exact AO.nE (d := 7) rfl ⟨(upd σ 5 n14), (fun j hj => match j, hj with | 0, _ => rfl | 1, _ => rfl | 2, _ => rfl | 3, _ => rfl | 4, _ => rfl | 5, hj => Bool.noConfusion (hj.symm.trans hi) | 6, _ => rfl | 7, _ => rfl | 8, _ => rfl | _ + 9, _ => rfl), (fun d' hd' => ⟨_, rfl, by cases hd'; rfl⟩), Sub.of_eq (B := ((n3, (.mem (e27 p0))) :: (n14, (.mem (.st [(1, (.fl (.slice none 0 0))), (1, (.fl (.slice none 0 0))), (1, (.fl (.slice none 0 0))), (1, (.fl (.slice none 0 0))), (1, (eI64 (0 : Int)))]))) :: ((σ 4), (.mem (.st [(1, (.fl (.slice none 0 0))), (1, (.fl (.slice none 0 0))), (1, (.fl (.slice none 0 0))), (1, (.fl (.slice none 0 0))), (1, (eI64 (0 : Int)))]))) :: ((σ 3), (.mem (.st [(1, (.fl (.slice none 0 0))), (1, (.fl (.slice none 0 0))), (1, (.fl (.slice none 0 0))), (1, (.fl (.slice none 0 0))), (1, (eI64 (0 : Int)))]))) :: [])) (by simp only [a3, a4, a5, a6, a7, a8, u3, u4, u5, cond_true, cond_false]) (Sub.cons 1 rfl (Sub.cons 0 rfl (Sub.cons 0 rfl (Sub.cons 0 rfl (Sub.refl _)))))⟩
        | false =>
          refine AO.heq (H' := ((n3, (.mem (e27 p0))) :: ((σ 3), (.mem (.st [(1, (.fl (.slice none 0 0))), (1, (.fl (.slice none 0 0))), (1, (.fl (.slice none 0 0))), (1, (.fl (.slice none 0 0))), (1, (eI64 (0 : Int)))]))) :: [])) (by first | rfl | simp only [hi, b3, b4, m6, m7, m8, cond_true, cond_false]) ?_
          refine AO.wK [] ?_
          refine AO.alloc rfl 7 rfl (by decide) rfl zr27 lay27 fun n14 => ?_
          have a3 : addL L 5 3 = true := b3
          have a4 : addL L 5 4 = false := b4
          have a5 : addL L 5 5 = true := rfl
          have a6 : addL L 5 6 = false := m6
          have a7 : addL L 5 7 = false := m7
          have a8 : addL L 5 8 = false := m8
          have u3 : upd σ 5 n14 3 = σ 3 := rfl
          have u4 : upd σ 5 n14 4 = σ 4 := rfl
          have u5 : upd σ 5 n14 5 = n14 := rfl
          exact AO.nE (d := 7) rfl ⟨(upd σ 5 n14), (fun j hj => match j, hj with | 0, _ => rfl | 1, _ => rfl | 2, _ => rfl | 3, _ => rfl | 4, _ => rfl | 5, hj => Bool.noConfusion (hj.symm.trans hi) | 6, _ => rfl | 7, _ => rfl | 8, _ => rfl | _ + 9, _ => rfl), (fun d' hd' => ⟨_, rfl, by cases hd'; rfl⟩), Sub.of_eq (B := ((n3, (.mem (e27 p0))) :: (n14, (.mem (.st [(1, (.fl (.slice none 0 0))), (1, (.fl (.slice none 0 0))), (1, (.fl (.slice none 0 0))), (1, (.fl (.slice none 0 0))), (1, (eI64 (0 : Int)))]))) :: ((σ 3), (.mem (.st [(1, (.fl (.slice none 0 0))), (1, (.fl (.slice none 0 0))), (1, (.fl (.slice none 0 0))), (1, (.fl (.slice none 0 0))), (1, (eI64 (0 : Int)))]))) :: [])) (by simp only [a3, a4, a5, a6, a7, a8, u3, u4, u5, cond_true, cond_false]) (Sub.cons 1 rfl (Sub.cons 0 rfl (Sub.cons 0 rfl (Sub.refl _))))⟩
      | false =>
        cases b4 : L 4 with
        | true =>
          refine AO.heq (H' := ((n3, (.mem (e27 p0))) :: ((σ 4), (.mem (.st [(1, (.fl (.slice none 0 0))), (1, (.fl (.slice none 0 0))), (1, (.fl (.slice none 0 0))), (1, (.fl (.slice none 0 0))), (1, (eI64 (0 : Int)))]))) :: [])) (by first | rfl | simp only [hi, b3, b4, m6, m7, m8, cond_true, cond_false]) ?_
          refine AO.wK [] ?_
          refine AO.alloc rfl 7 rfl (by decide) rfl zr27 lay27 fun n14 => ?_
          have a3 : addL L 5 3 = false := b3
          have a4 : addL L 5 4 = true := b4
          have a5 : addL L 5 5 = true := rfl
          have a6 : addL L 5 6 = false := m6
          have a7 : addL L 5 7 = false := m7
          have a8 : addL L 5 8 = false := m8
          have u3 : upd σ 5 n14 3 = σ 3 := rfl
          have u4 : upd σ 5 n14 4 = σ 4 := rfl
          have u5 : upd σ 5 n14 5 = n14 := rfl
          exact AO.nE (d := 7) rfl ⟨(upd σ 5 n14), (fun j hj => match j, hj with | 0, _ => rfl | 1, _ => rfl | 2, _ => rfl | 3, _ => rfl | 4, _ => rfl | 5, hj => Bool.noConfusion (hj.symm.trans hi) | 6, _ => rfl | 7, _ => rfl | 8, _ => rfl | _ + 9, _ => rfl), (fun d' hd' => ⟨_, rfl, by cases hd'; rfl⟩), Sub.of_eq (B := ((n3, (.mem (e27 p0))) :: (n14, (.mem (.st [(1, (.fl (.slice none 0 0))), (1, (.fl (.slice none 0 0))), (1, (.fl (.slice none 0 0))), (1, (.fl (.slice none 0 0))), (1, (eI64 (0 : Int)))]))) :: ((σ 4), (.mem (.st [(1, (.fl (.slice none 0 0))), (1, (.fl (.slice none 0 0))), (1, (.fl (.slice none 0 0))), (1, (.fl (.slice none 0 0))), (1, (eI64 (0 : Int)))]))) :: [])) (by simp only [a3, a4, a5, a6, a7, a8, u3, u4, u5, cond_true, cond_false]) (Sub.cons 1 rfl (Sub.cons 0 rfl (Sub.cons 0 rfl (Sub.refl _))))⟩
        | false =>
          refine AO.heq (H' := ((n3, (.mem (e27 p0))) :: [])) (by first | rfl | simp only [hi, b3, b4, m6, m7, m8, cond_true, cond_false]) ?_
          refine AO.wK [] ?_
          refine AO.alloc rfl 7 rfl (by decide) rfl zr27 lay27 fun n14 => ?_
          have a3 : addL L 5 3 = false := b3
          have a4 : addL L 5 4 = false := b4
          have a5 : addL L 5 5 = true := rfl
          have a6 : addL L 5 6 = false := m6
          have a7 : addL L 5 7 = false := m7
          have a8 : addL L 5 8 = false := m8
          have u3 : upd σ 5 n14 3 = σ 3 := rfl
          have u4 : upd σ 5 n14 4 = σ 4 := rfl
          have u5 : upd σ 5 n14 5 = n14 := rfl
          exact AO.nE (d := 7) rfl ⟨(upd σ 5 n14), (fun j hj => match j, hj with | 0, _ => rfl | 1, _ => rfl | 2, _ => rfl | 3, _ => rfl | 4, _ => rfl | 5, hj => Bool.noConfusion (hj.symm.trans hi) | 6, _ => rfl | 7, _ => rfl | 8, _ => rfl | _ + 9, _ => rfl), (fun d' hd' => ⟨_, rfl, by cases hd'; rfl⟩), Sub.of_eq (B := ((n3, (.mem (e27 p0))) :: (n14, (.mem (.st [(1, (.fl (.slice none 0 0))), (1, (.fl (.slice none 0 0))), (1, (.fl (.slice none 0 0))), (1, (.fl (.slice none 0 0))), (1, (eI64 (0 : Int)))]))) :: [])) (by simp only [a3, a4, a5, a6, a7, a8, u3, u4, u5, cond_true, cond_false]) (Sub.cons 1 rfl (Sub.cons 0 rfl (Sub.refl _)))⟩
     ·intro L σ hc hi hd
      have y3 : L 3 = true := on_get hd (i := 3) (by rfl)
      have y4 : L 4 = true := on_get hd (i := 4) (by rfl)
      have y5 : L 5 = true := on_get hd (i := 5) (by rfl)
      have m7 : L 7 = false := hc.neg (i := 6) (j := 7) rfl (by rfl) hi
      have m8 : L 8 = false := hc.neg (i := 6) (j := 8) rfl (by rfl) hi
      refine AO.heq (H' := ((n3, (.mem (e27 p0))) :: ((σ 5), (.mem (.st [(1, (.fl (.slice none 0 0))), (1, (.fl (.slice none 0 0))), (1, (.fl (.slice none 0 0))), (1, (.fl (.slice none 0 0))), (1, (eI64 (0 : Int)))]))) :: ((σ 4), (.mem (.st [(1, (.fl (.slice none 0 0))), (1, (.fl (.slice none 0 0))), (1, (.fl (.slice none 0 0))), (1, (.fl (.slice none 0 0))), (1, (eI64 (0 : Int)))]))) :: ((σ 3), (.mem (.st [(1, (.fl (.slice none 0 0))), (1, (.fl (.slice none 0 0))), (1, (.fl (.slice none 0 0))), (1, (.fl (.slice none 0 0))), (1, (eI64 (0 : Int)))]))) :: [])) (by first | rfl | simp only [hi, y3, y4, y5, m7, m8, cond_true, cond_false]) ?_
      refine AO.wK [5, 20] ?_
      refine AO.store (X' := (e27 p0)) 3 rfl rfl rfl rfl rfl rfl (Put.cast Put.here rfl) rfl rfl sz27 rfl ?_
      have a3 : addL L 6 3 = true := y3
      have a4 : addL L 6 4 = true := y4
      have a5 : addL L 6 5 = true := y5
      have a6 : addL L 6 6 = true := rfl
      have a7 : addL L 6 7 = false := m7
      have a8 : addL L 6 8 = false := m8
      exact AO.n0 ⟨σ, (fun _ _ => rfl), (fun d' hd' => by cases hd'), Sub.of_eq (B := ((n3, (.mem (e27 p0))) :: ((σ 5), (.mem (.st [(1, (.fl (.slice none 0 0))), (1, (.fl (.slice none 0 0))), (1, (.fl (.slice none 0 0))), (1, (.fl (.slice none 0 0))), (1, (eI64 (0 : Int)))]))) :: ((σ 4), (.mem (.st [(1, (.fl (.slice none 0 0))), (1, (.fl (.slice none 0 0))), (1, (.fl (.slice none 0 0))), (1, (.fl (.slice none 0 0))), (1, (eI64 (0 : Int)))]))) :: ((σ 3), (.mem (e27 p0))) :: [])) (by simp only [a3, a4, a5, a6, a7, a8, cond_true, cond_false]) (Sub.refl _)⟩
     ·intro L σ hc hi hd
      have y3 : L 3 = true := on_get hd (i := 3) (by rfl)
      have y4 : L 4 = true := on_get hd (i := 4) (by rfl)
      have y5 : L 5 = true := on_get hd (i := 5) (by rfl)
      have y6 : L 6 = true := on_get hd (i := 6) (by rfl)
      have m8 : L 8 = false := hc.neg (i := 7) (j := 8) rfl (by rfl) hi
      refine AO.heq (H' := ((n3, (.mem (e27 p0))) :: ((σ 5), (.mem (.st [(1, (.fl (.slice none 0 0))), (1, (.fl (.slice none 0 0))), (1, (.fl (.slice none 0 0))), (1, (.fl (.slice none 0 0))), (1, (eI64 (0 : Int)))]))) :: ((σ 4), (.mem (.st [(1, (.fl (.slice none 0 0))), (1, (.fl (.slice none 0 0))), (1, (.fl (.slice none 0 0))), (1, (.fl (.slice none 0 0))), (1, (eI64 (0 : Int)))]))) :: ((σ 3), (.mem (e27 p0))) :: [])) (by first | rfl | simp only [hi, y3, y4, y5, y6, m8, cond_true, cond_false]) ?_
      refine AO.wK [6, 21] ?_
      refine AO.store (X' := (e27 p0)) 2 rfl rfl rfl rfl rfl rfl (Put.cast Put.here rfl) rfl rfl sz27 rfl ?_
      have a3 : addL L 7 3 = true := y3
      have a4 : addL L 7 4 = true := y4
      have a5 : addL L 7 5 = true := y5
      have a6 : addL L 7 6 = true := y6
      have a7 : addL L 7 7 = true := rfl
      have a8 : addL L 7 8 = false := m8
      exact AO.n0 ⟨σ, (fun _ _ => rfl), (fun d' hd' => by cases hd'), Sub.of_eq (B := ((n3, (.mem (e27 p0))) :: ((σ 5), (.mem (.st [(1, (.fl (.slice none 0 0))), (1, (.fl (.slice none 0 0))), (1, (.fl (.slice none 0 0))), (1, (.fl (.slice none 0 0))), (1, (eI64 (0 : Int)))]))) :: ((σ 4), (.mem (e27 p0))) :: ((σ 3), (.mem (e27 p0))) :: [])) (by simp only [a3, a4, a5, a6, a7, a8, cond_true, cond_false]) (Sub.refl _)⟩
     ·intro L σ hc hi hd
      have y3 : L 3 = true := on_get hd (i := 3) (by rfl)
      have y4 : L 4 = true := on_get hd (i := 4) (by rfl)
      have y5 : L 5 = true := on_get hd (i := 5) (by rfl)
      have y6 : L 6 = true := on_get hd (i := 6) (by rfl)
      have y7 : L 7 = true := on_get hd (i := 7) (by rfl)
      refine AO.heq (H' := ((n3, (.mem (e27 p0))) :: ((σ 5), (.mem (.st [(1, (.fl (.slice none 0 0))), (1, (.fl (.slice none 0 0))), (1, (.fl (.slice none 0 0))), (1, (.fl (.slice none 0 0))), (1, (eI64 (0 : Int)))]))) :: ((σ 4), (.mem (e27 p0))) :: ((σ 3), (.mem (e27 p0))) :: [])) (by first | rfl | simp only [hi, y3, y4, y5, y6, y7, cond_true, cond_false]) ?_
      refine AO.wK [7, 22] ?_
      refine AO.store (X' := (e27 p0)) 1 rfl rfl rfl rfl rfl rfl (Put.cast Put.here rfl) rfl rfl sz27 rfl ?_
      have a3 : addL L 8 3 = true := y3
      have a4 : addL L 8 4 = true := y4
      have a5 : addL L 8 5 = true := y5
      have a6 : addL L 8 6 = true := y6
      have a7 : addL L 8 7 = true := y7
      have a8 : addL L 8 8 = true := rfl
      exact AO.n0 ⟨σ, (fun _ _ => rfl), (fun d' hd' => by cases hd'), Sub.of_eq (B := ((n3, (.mem (e27 p0))) :: ((σ 5), (.mem (e27 p0))) :: ((σ 4), (.mem (e27 p0))) :: ((σ 3), (.mem (e27 p0))) :: [])) (by simp only [a3, a4, a5, a6, a7, a8, cond_true, cond_false]) (Sub.refl _)⟩
     ·generalize σ 3 = n12
      generalize σ 4 = n13
      generalize σ 5 = n14
      refine AO.nH [1, 2, 5, 6, 7] (H' := [(n3, (.mem (e27 p0))), (n12, (.mem (e27 p0))), (n13, (.mem (e27 p0))), (n14, (.mem (e27 p0)))]) (Sub.cons 0 rfl (Sub.cons 2 rfl (Sub.cons 1 rfl (Sub.cons 0 rfl (Sub.nil _))))) ?_
      refine AW.sr ?_
      refine AO.c (x := .ptr n12 3) (Calm.fldPtr rfl rfl Try.underlying27 rfl sz25 _ rfl) ?_
      refine AO.store (X' := (.st [(1, (.fz 3 (p0.f0.map e82))), (1, (.fz 1 (p0.f1.map eStr))), (1, (.fz 6 (p0.f2.map e37))), (1, (.fl (.slice none 0 0))), (1, (eI64 p0.f4))])) 1 rfl rfl rfl rfl rfl rfl (Put.cast (Put.fldS (Put.fldS (Put.fldS (Put.fld0 Put.here)))) rfl) rfl rfl sz25 rfl ?_
      refine AO.nK [1, 2, 5, 6, 7] ?_
      refine AW.sr ?_
      refine AO.lit (Z := (eStr ByteArray.empty)) (xs := (([] : List ByteArray).map eStr)) (qs := []) rfl 24 rfl (by decide) rfl trivial Try.underlying23 sz9 zr9 lay9 rfl (by decide) (litOK (z := 1) [] rfl trivial) rfl fun n15 => ?_
      refine AO.c (x := .ptr n3 1) (Calm.fldPtr rfl rfl Try.underlying27 rfl sz23 _ rfl) ?_
      refine AO.c (Calm.load 1 rfl rfl rfl (At.cast (At.fldS (At.fld0 At.here)) rfl) ag23 sz23) ?_
      obtain ⟨hg17, h⟩ := of_guard h
      refine AO.appendL (l := ([] : List ByteArray)) (m := p0.f1) 0 27 rfl (by decide) rfl rfl rfl rfl rfl Src.fz Try.underlying23 Try.underlying23 sz9 by9 zr9 rfl hg17 (by decide) fun n16 => ?_
      refine AO.lit (Z := (eStr ByteArray.empty)) (xs := (([(ByteArray.mk #[115, 111, 114, 116, 95, 109, 111, 114, 101])] : List ByteArray).map eStr)) (qs := [(0, (eStr (ByteArray.mk #[115, 111, 114, 116, 95, 109, 111, 114, 101])))]) rfl 28 rfl (by decide) rfl ⟨rfl, rfl, rfl, trivial⟩ Try.underlying23 sz9 zr9 lay9 rfl (by decide) (litOK (z := 1) [(eStr (ByteArray.mk #[115, 111, 114, 116, 95, 109, 111, 114, 101]))] rfl ⟨⟨rfl, rfl⟩, trivial⟩) rfl fun n18 => ?_
      obtain ⟨hg20, h⟩ := of_guard h
      refine AO.appendL (l := (([] : List ByteArray) ++ p0.f1)) (m := ([(ByteArray.mk #[115, 111, 114, 116, 95, 109, 111, 114, 101])] : List ByteArray)) 1 29 rfl (by decide) rfl rfl rfl rfl rfl (Src.ownL (f := eStr) (l := ([(ByteArray.mk #[115, 111, 114, 116, 95, 109, 111, 114, 101])] : List ByteArray)) 0 rfl) Try.underlying23 Try.underlying23 sz9 by9 zr9 rfl hg20 (by decide) fun n19 => ?_
      refine AO.c (x := .ptr n13 1) (Calm.fldPtr rfl rfl Try.underlying27 rfl sz23 _ rfl) ?_
      refine AO.store (X' := (.st [(1, (.fz 3 (p0.f0.map e82))), (1, (.own n19 0 ((([] : List ByteArray) ++ p0.f1) ++ ([(ByteArray.mk #[115, 111, 114, 116, 95, 109, 111, 114, 101])] : List ByteArray)).length)), (1, (.fz 6 (p0.f2.map e37))), (1, (.fz 2 (p0.f3.map e86))), (1, (eI64 p0.f4))])) 4 rfl rfl rfl rfl rfl rfl (Put.cast (Put.fldS (Put.fld0 Put.here)) rfl) rfl rfl sz23 rfl ?_
      refine AO.nH [1, 2, 5, 6, 7] (H' := [(n3, (.mem (e27 p0))), (n12, (.mem (.st [(1, (.fz 3 (p0.f0.map e82))), (1, (.fz 1 (p0.f1.map eStr))), (1, (.fz 6 (p0.f2.map e37))), (1, (.fl (.slice none 0 0))), (1, (eI64 p0.f4))]))), (n13, (.mem (.st [(1, (.fz 3 (p0.f0.map e82))), (1, (.own n19 0 ((([] : List ByteArray) ++ p0.f1) ++ ([(ByteArray.mk #[115, 111, 114, 116, 95, 109, 111, 114, 101])] : List ByteArray)).length)), (1, (.fz 6 (p0.f2.map e37))), (1, (.fz 2 (p0.f3.map e86))), (1, (eI64 p0.f4))]))), (n19, (.mem (.ar 1 (((([] : List ByteArray) ++ p0.f1) ++ ([(ByteArray.mk #[115, 111, 114, 116, 95, 109, 111, 114, 101])] : List ByteArray)).map eStr)))), (n14, (.mem (e27 p0)))]) (Sub.cons 2 rfl (Sub.cons 2 rfl (Sub.cons 2 rfl (Sub.cons 1 rfl (Sub.cons 1 rfl (Sub.nil _)))))) ?_
      refine AW.sr ?_
      refine AO.freezeFld (X' := (.st [(1, (.fz 3 (p0.f0.map e82))), (1, (.fz 1 (((([] : List ByteArray) ++ p0.f1) ++ ([(ByteArray.mk #[115, 111, 114, 116, 95, 109, 111, 114, 101])] : List ByteArray)).map eStr))), (1, (.fz 6 (p0.f2.map e37))), (1, (.fz 2 (p0.f3.map e86))), (1, (eI64 p0.f4))])) (els' := (((([] : List ByteArray) ++ p0.f1) ++ ([(ByteArray.mk #[115, 111, 114, 116, 95, 109, 111, 114, 101])] : List ByteArray)).map eStr)) 3 2 rfl rfl (Put.cast (Put.fldS (Put.fld0 Put.here)) rfl) (by simp) (by rw [own_all]) rfl rfl (by decide) ?_
      refine AO.c (x := e27 (S27.mk p0.f0 ((([] : List ByteArray) ++ p0.f1) ++ ([(ByteArray.mk #[115, 111, 114, 116, 95, 109, 111, 114, 101])] : List ByteArray)) p0.f2 p0.f3 p0.f4)) (Calm.load 2 rfl rfl rfl (At.cast At.here rfl) ag27 sz27) ?_
      obtain ⟨t21, et21, h⟩ := of_bind h
      refine AO.callS [(e27 (S27.mk p0.f0 ((([] : List ByteArray) ++ p0.f1) ++ ([(ByteArray.mk #[115, 111, 114, 116, 95, 109, 111, 114, 101])] : List ByteArray)) p0.f2 p0.f3 p0.f4))] (e32 t21) 32 rfl (by decide) ok11 rfl rfl rfl ⟨rfl, rfl, trivial⟩ (F11_spec et21) ?_
      refine AO.alloc rfl 8 rfl (by decide) rfl zr32 lay32 fun n22 => ?_
      refine AO.store (X' := (e32 t21)) 0 rfl rfl rfl rfl rfl rfl (Put.cast Put.here rfl) rfl rfl sz32 rfl ?_
      refine AO.nH [1, 2, 5, 7, 8] (H' := [(n3, (.mem (e27 p0))), (n12, (.mem (.st [(1, (.fz 3 (p0.f0.map e82))), (1, (.fz 1 (p0.f1.map eStr))), (1, (.fz 6 (p0.f2.map e37))), (1, (.fl (.slice none 0 0))), (1, (eI64 p0.f4))]))), (n14, (.mem (e27 p0))), (n22, (.mem (e32 t21)))]) (Sub.cons 1 rfl (Sub.cons 1 rfl (Sub.cons 2 rfl (Sub.cons 0 rfl (Sub.nil _))))) ?_
      refine AW.seq ?_
      refine AW.seq ?_
      obtain ⟨b23, hq24, h⟩ := of_bind h
      refine AW.regM [(1, (eU8 p1)), (2, (.ptr n3 0)), (7, (.ptr n14 0)), (59, (eBool b23))] [(n3, (.mem (e27 p0))), (n14, (.mem (e27 p0)))] ?_ ?_
      ·refine AO.c (Calm.load 1 rfl rfl rfl (At.cast At.here rfl) ag27 sz27) ?_
       obtain ⟨t25, et25, hq24⟩ := of_bind hq24
       refine AO.coeC 33 (y' := (e27 (S27.mk p0.f0 p0.f1 p0.f2 [] p0.f4))) rfl (Coe.st Coe.refl (Coe.st Coe.refl (Coe.st Coe.refl (Coe.st Coe.nil (Coe.st Coe.refl Coe.refl))))) ?_
       refine AO.callS [(e27 (S27.mk p0.f0 p0.f1 p0.f2 [] p0.f4))] (e32 t25) 34 rfl (by decide) ok11 rfl rfl rfl ⟨rfl, rfl, trivial⟩ (F11_spec et25) ?_
       refine AO.c (x := .st [(1, (eI64 (0 : Int))), (1, (eI64 (0 : Int))), (1, (eI64 (0 : Int)))]) (Calm.build (qs := []) rfl trivial Try.underlying32 rfl zr32 lay32 .nil rfl) ?_
       refine AO.c (x := eBool (!(decide (t25 = (S32.mk (0 : Int) (0 : Int) (0 : Int)))))) (Calm.neS rfl rfl rfl eg32 (eqk32 t25 (S32.mk (0 : Int) (0 : Int) (0 : Int))) (by decide)) ?_
       refine AO.mv rfl rfl ?_
       rcases of_ite hq24 with ⟨hc26, hq24⟩ | ⟨hc26, hq24⟩
       ·refine AO.sF rfl rfl (bD hc26) ?_
        refine AO.sF rfl rfl (bD hc26) ?_
        refine AO.sF rfl rfl (bD hc26) ?_
        refine AO.sF rfl rfl (bD hc26) ?_
        refine AO.sU rfl rfl rfl ?_
        refine AO.sU rfl rfl rfl ?_
        refine AO.sU rfl rfl rfl ?_
        refine AO.sU rfl rfl rfl ?_
        refine AO.sU rfl rfl rfl ?_
        refine AO.sU rfl rfl rfl ?_
        refine AO.sU rfl rfl rfl ?_
        refine AO.sU rfl rfl rfl ?_
        refine AO.sU rfl rfl rfl ?_
        refine AO.sU rfl rfl rfl ?_
        refine AO.sU rfl rfl rfl ?_
        refine AO.sU rfl rfl rfl ?_
        refine AO.sU rfl rfl rfl ?_
        refine AO.sU rfl rfl rfl ?_
        refine AO.sU rfl rfl rfl ?_
        refine AO.sU rfl rfl rfl ?_
        refine AO.sF rfl rfl (bD hc26) ?_
        refine AO.c (Calm.pickT rfl (bD hc26) rfl) ?_
        cases hq24
        refine AO.nilE ⟨rfl, rfl⟩ ?_ ?_
        · exact ⟨rfl, rfl, rfl, rfl, trivial⟩
        · exact (Sub.cons 0 rfl (Sub.cons 1 rfl (Sub.nil _)))
       ·refine AO.cG (x := .ptr n22 0) rfl rfl (bD (eq_false_of_ne_true hc26)) (Calm.fldPtr rfl rfl Try.underlying32 rfl sz30 _ rfl) ?_
        refine AO.cG rfl rfl (bD (eq_false_of_ne_true hc26)) (Calm.load 3 rfl rfl rfl (At.cast (At.fld0 At.here) rfl) ag30 sz30) ?_
        refine AO.cG (x := eBool (decide (t21.f0 ≠ (0 : Int)))) rfl rfl (bD (eq_false_of_ne_true hc26)) (Calm.int rfl rfl rfl rfl) ?_
        refine AO.cG rfl rfl (bD (eq_false_of_ne_true hc26)) (Calm.move rfl rfl) ?_
        rcases of_ite hq24 with ⟨hc27, hq24⟩ | ⟨hc27, hq24⟩
        ·refine AO.cG (x := .ptr n22 0) rfl rfl (bD (decide_eq_true hc27)) (Calm.fldPtr rfl rfl Try.underlying32 rfl sz30 _ rfl) ?_
         refine AO.cG rfl rfl (bD (decide_eq_true hc27)) (Calm.load 3 rfl rfl rfl (At.cast (At.fld0 At.here) rfl) ag30 sz30) ?_
         refine AO.cG (x := eBool (decide (t21.f0 ≠ (9 : Int)))) rfl rfl (bD (decide_eq_true hc27)) (Calm.int rfl rfl rfl rfl) ?_
         refine AO.cG rfl rfl (bD (decide_eq_true hc27)) (Calm.move rfl rfl) ?_
         rcases of_ite hq24 with ⟨hc28, hq24⟩ | ⟨hc28, hq24⟩
         ·refine AO.sF rfl rfl (bD (decide_eq_true hc28)) ?_
          refine AO.sF rfl rfl (bD (decide_eq_true hc28)) ?_
          refine AO.sF rfl rfl (bD (decide_eq_true hc28)) ?_
          refine AO.cG rfl rfl (bD (decide_eq_true hc27)) (Calm.pickT rfl (bD (decide_eq_true hc28)) rfl) ?_
          refine AO.cG rfl rfl (bD (decide_eq_true hc27)) (Calm.move rfl rfl) ?_
          refine AO.sF rfl rfl rfl ?_
          refine AO.sF rfl rfl rfl ?_
          refine AO.sF rfl rfl rfl ?_
          refine AO.sF rfl rfl rfl ?_
          refine AO.sF rfl rfl rfl ?_
          refine AO.sF rfl rfl rfl ?_
          refine AO.cG rfl rfl (bD (decide_eq_true hc27)) (Calm.pickT rfl rfl rfl) ?_
          refine AO.cG rfl rfl (bD (eq_false_of_ne_true hc26)) (Calm.pickT rfl (bD (decide_eq_true hc27)) rfl) ?_
          refine AO.c (Calm.pickF rfl (bD (eq_false_of_ne_true hc26)) rfl) ?_
          cases hq24
          refine AO.nilE ⟨rfl, rfl⟩ ?_ ?_
          · exact ⟨rfl, rfl, rfl, rfl, trivial⟩
          · exact (Sub.cons 0 rfl (Sub.cons 1 rfl (Sub.nil _)))
         ·refine AO.cG (x := .ptr n22 1) rfl rfl (bD (decide_eq_false hc28)) (Calm.fldPtr rfl rfl Try.underlying32 rfl sz3 _ rfl) ?_
          refine AO.cG rfl rfl (bD (decide_eq_false hc28)) (Calm.load 3 rfl rfl rfl (At.cast (At.fldS (At.fld0 At.here)) rfl) ag3 sz3) ?_
          refine AO.cG (x := eBool (decide (t21.f1 ≠ (2 : Int)))) rfl rfl (bD (decide_eq_false hc28)) (Calm.int rfl rfl rfl rfl) ?_
          refine AO.cG rfl rfl (bD (decide_eq_true hc27)) (Calm.pickF rfl (bD (decide_eq_false hc28)) rfl) ?_
          refine AO.cG rfl rfl (bD (decide_eq_true hc27)) (Calm.move rfl rfl) ?_
          rcases of_ite hq24 with ⟨hc29, hq24⟩ | ⟨hc29, hq24⟩
          ·refine AO.sF rfl rfl (bD (decide_eq_true hc29)) ?_
           refine AO.sF rfl rfl (bD (decide_eq_true hc29)) ?_
           refine AO.sF rfl rfl (bD (decide_eq_true hc29)) ?_
           refine AO.sF rfl rfl (bD (decide_eq_true hc29)) ?_
           refine AO.sF rfl rfl (bD (decide_eq_true hc29)) ?_
           refine AO.sF rfl rfl (bD (decide_eq_true hc29)) ?_
           refine AO.cG rfl rfl (bD (decide_eq_true hc27)) (Calm.pickT rfl (bD (decide_eq_true hc29)) rfl) ?_
           refine AO.cG rfl rfl (bD (eq_false_of_ne_true hc26)) (Calm.pickT rfl (bD (decide_eq_true hc27)) rfl) ?_
           refine AO.c (Calm.pickF rfl (bD (eq_false_of_ne_true hc26)) rfl) ?_
           cases hq24
           refine AO.nilE ⟨rfl, rfl⟩ ?_ ?_
           · exact ⟨rfl, rfl, rfl, rfl, trivial⟩
           · exact (Sub.cons 0 rfl (Sub.cons 1 rfl (Sub.nil _)))
          ·refine AO.cG (x := .ptr n22 2) rfl rfl (bD (decide_eq_false hc29)) (Calm.fldPtr rfl rfl Try.underlying32 rfl sz3 _ rfl) ?_
           refine AO.cG rfl rfl (bD (decide_eq_false hc29)) (Calm.load 3 rfl rfl rfl (At.cast (At.fldS (At.fldS (At.fld0 At.here))) rfl) ag3 sz3) ?_
           refine AO.cG (x := .ptr n3 1) rfl rfl (bD (decide_eq_false hc29)) (Calm.fldPtr rfl rfl Try.underlying27 rfl sz23 _ rfl) ?_
           refine AO.cG rfl rfl (bD (decide_eq_false hc29)) (Calm.load 0 rfl rfl rfl (At.cast (At.fldS (At.fld0 At.here)) rfl) ag23 sz23) ?_
           refine AO.cG rfl rfl (bD (decide_eq_false hc29)) (Calm.lenL rfl rfl Try.underlying23) ?_
           refine AO.cG (x := eBool (decide (t21.f2 ≠ (p0.f1.length : Int)))) rfl rfl (bD (decide_eq_false hc29)) (Calm.int rfl rfl rfl rfl) ?_
           refine AO.cG rfl rfl (bD (decide_eq_true hc27)) (Calm.pickF rfl (bD (decide_eq_false hc29)) rfl) ?_
           refine AO.cG rfl rfl (bD (eq_false_of_ne_true hc26)) (Calm.pickT rfl (bD (decide_eq_true hc27)) rfl) ?_
           refine AO.c (Calm.pickF rfl (bD (eq_false_of_ne_true hc26)) rfl) ?_
           cases hq24
           refine AO.nilE ⟨rfl, rfl⟩ ?_ ?_
           · exact ⟨rfl, rfl, rfl, rfl, trivial⟩
           · exact (Sub.cons 0 rfl (Sub.cons 1 rfl (Sub.nil _)))
        ·refine AO.sT rfl rfl (bD (decide_eq_false hc27)) ?_
         refine AO.sT rfl rfl (bD (decide_eq_false hc27)) ?_
         refine AO.sT rfl rfl (bD (decide_eq_false hc27)) ?_
         refine AO.sT rfl rfl (bD (decide_eq_false hc27)) ?_
         refine AO.sU rfl rfl rfl ?_
         refine AO.sU rfl rfl rfl ?_
         refine AO.sU rfl rfl rfl ?_
         refine AO.sT rfl rfl (bD (decide_eq_false hc27)) ?_
         refine AO.sT rfl rfl (bD (decide_eq_false hc27)) ?_
         refine AO.sU rfl rfl rfl ?_
         refine AO.sU rfl rfl rfl ?_
         refine AO.sU rfl rfl rfl ?_
         refine AO.sU rfl rfl rfl ?_
         refine AO.sU rfl rfl rfl ?_
         refine AO.sU rfl rfl rfl ?_
         refine AO.sT rfl rfl (bD (decide_eq_false hc27)) ?_
         refine AO.cG rfl rfl (bD (eq_false_of_ne_true hc26)) (Calm.pickF rfl (bD (decide_eq_false hc27)) rfl) ?_
         refine AO.c (Calm.pickF rfl (bD (eq_false_of_ne_true hc26)) rfl) ?_
         cases hq24
         refine AO.nilE ⟨rfl, rfl⟩ ?_ ?_
         · exact ⟨rfl, rfl, rfl, rfl, trivial⟩
         · exact (Sub.cons 0 rfl (Sub.cons 1 rfl (Sub.nil _)))
      ·rcases of_ite h with ⟨hc30, h⟩ | ⟨hc30, h⟩
       ·refine AW.condT' _ rfl hc30 ?_
        refine AW.sr ?_
        refine AO.ag rfl rfl ?_
        refine AO.nH [4] (H' := []) (Sub.nil _) ?_
        refine AW.rK [4] ?_
        have hr := Option.some.inj h
        subst hr
        exact ⟨[(eBool false)], ⟨rfl, rfl, trivial⟩, rfl⟩
       ·refine AW.condF' _ rfl hc30 ?_
        refine AW.sK [1, 2, 7] ?_
        refine AW.seq ?_
        refine AW.sr ?_
        refine AO.c (x := .ptr n3 2) (Calm.fldPtr rfl rfl Try.underlying27 rfl sz24 _ rfl) ?_
        refine AO.c (Calm.load 0 rfl rfl rfl (At.cast (At.fldS (At.fldS (At.fld0 At.here))) rfl) ag24 sz24) ?_
        refine AO.c (Calm.lenL rfl rfl Try.underlying24) ?_
        refine AO.c (x := eBool (decide ((p0.f2.length : Int) = (0 : Int)))) (Calm.int rfl rfl rfl rfl) ?_
        refine AO.nK [1, 2, 7, 63] ?_
        rcases of_ite h with ⟨hc31, h⟩ | ⟨hc31, h⟩
        ·refine AW.condP _ rfl hc31 ?_
         refine AW.sr ?_
         refine AO.ag rfl rfl ?_
         refine AO.nH [4] (H' := []) (Sub.nil _) ?_
         refine AW.rK [4] ?_
         have hr := Option.some.inj h
         subst hr
         exact ⟨[(eBool true)], ⟨rfl, rfl, trivial⟩, rfl⟩
        ·refine AW.condN _ rfl hc31 ?_
         refine AW.sK [1, 2, 7] ?_
         refine AW.seq ?_
         obtain ⟨hg34, h⟩ := of_guard h
         obtain ⟨hg35, h⟩ := of_guard h
         obtain ⟨hg36, h⟩ := of_guard h
         obtain ⟨hg39, h⟩ := of_guard h
         refine AW.regEff (by rfl) (by decide +kernel) (fun (σ : Nat → Nat) => ([(.own (σ 0) 0 ([] : List S37).length), (.ptr n3 2), (.fz 6 (p0.f2.map e37)), (.own (σ 3) 0 (([] : List S37) ++ p0.f2).length), (.ptr n3 2), (.fz 6 (p0.f2.map e37)), (eU8 p1), (eI64 (w64 p1)), (.ptr n3 2), (.fz 6 (p0.f2.map e37)), (eI64 (p0.f2.length : Int)), (eI64 ((w64 p1).tmod (p0.f2.length : Int))), (.rp (e37 (lget p0.f2 ((w64 p1).tmod (p0.f2.length : Int))))), (e37 (lget p0.f2 ((w64 p1).tmod (p0.f2.length : Int)))), (.fz 6 (([(lget p0.f2 ((w64 p1).tmod (p0.f2.length : Int)))] : List S37).map e37)), (.own (σ 15) 0 ((([] : List S37) ++ p0.f2) ++ ([(lget p0.f2 ((w64 p1).tmod (p0.f2.length : Int)))] : List S37)).length), (.ptr n14 2), (.fl undef)] : List AV)) (fun (L : Nat → Bool) (σ : Nat → Nat) => ((n3, (.mem (e27 p0))) :: (bif L 0 then (bif L 3 then (bif L 15 then (bif L 17 then (((σ 15), (.mem (.ar 6 (((([] : List S37) ++ p0.f2) ++ ([(lget p0.f2 ((w64 p1).tmod (p0.f2.length : Int)))] : List S37)).map e37)))) :: (n14, (.mem (.st [(1, (.fz 3 (p0.f0.map e82))), (1, (.fz 1 (p0.f1.map eStr))), (1, (.own (σ 15) 0 ((([] : List S37) ++ p0.f2) ++ ([(lget p0.f2 ((w64 p1).tmod (p0.f2.length : Int)))] : List S37)).length)), (1, (.fz 2 (p0.f3.map e86))), (1, (eI64 p0.f4))]))) :: []) else (((σ 15), (.mem (.ar 6 (((([] : List S37) ++ p0.f2) ++ ([(lget p0.f2 ((w64 p1).tmod (p0.f2.length : Int)))] : List S37)).map e37)))) :: (n14, (.mem (e27 p0))) :: [])) else (((σ 3), (.mem (.ar 6 ((([] : List S37) ++ p0.f2).map e37)))) :: (n14, (.mem (e27 p0))) :: [])) else (((σ 0), (.mem (.ar 6 (([] : List S37).map e37)))) :: (n14, (.mem (e27 p0))) :: [])) else ((n14, (.mem (e27 p0))) :: [])) : Heap)) [(1, (eU8 p1)), (2, (.ptr n3 0)), (7, (.ptr n14 0))] ⟨rfl, rfl, rfl, trivial⟩ (fun _ => rfl) (fun σ => (Sub.refl _)) ⟨?_, ?_, ?_, ?_, ?_, ?_, ?_, ?_, ?_, ?_, ?_, ?_, ?_, ?_, ?_, ?_, ?_, ?_, trivial⟩ (fun σ => [(2, (.ptr n3 0)), (7, (.ptr n14 0))]) (fun σ => ((n3, (.mem (e27 p0))) :: ((σ 15), (.mem (.ar 6 (((([] : List S37) ++ p0.f2) ++ ([(lget p0.f2 ((w64 p1).tmod (p0.f2.length : Int)))] : List S37)).map e37)))) :: (n14, (.mem (.st [(1, (.fz 3 (p0.f0.map e82))), (1, (.fz 1 (p0.f1.map eStr))), (1, (.own (σ 15) 0 ((([] : List S37) ++ p0.f2) ++ ([(lget p0.f2 ((w64 p1).tmod (p0.f2.length : Int)))] : List S37)).length)), (1, (.fz 2 (p0.f3.map e86))), (1, (eI64 p0.f4))]))) :: [])) (fun σ => ⟨rfl, rfl, trivial⟩) (fun σ => Sub.refl _) (fun σ => ?_)
         ·intro L σ hc hi hd
          have m3 : L 3 = false := hc.neg (i := 0) (j := 3) rfl (by rfl) hi
          have m3 : L 3 = false := hc.neg (i := 0) (j := 3) rfl (by rfl) hi
          have m15 : L 15 = false := hc.neg (i := 3) (j := 15) rfl (by rfl) m3
          have m17 : L 17 = false := hc.neg (i := 0) (j := 17) rfl (by rfl) hi
          refine AO.heq (H' := ((n3, (.mem (e27 p0))) :: (n14, (.mem (e27 p0))) :: [])) (by first | rfl | simp only [hi, m3, m15, m17, cond_true, cond_false]) ?_
          refine AO.wK [] ?_
          refine AO.lit (Z := (.st [(1, (eI64 (0 : Int))), (1, (eStr ByteArray.empty)), (1, (.fl (.slice none 0 0))), (1, (eBool false)), (1, (eI64 (0 : Int))), (1, (.fl (.slice none 0 0)))])) (xs := (([] : List S37).map e37)) (qs := []) rfl 64 rfl (by decide) rfl trivial Try.underlying24 sz37 zr37 lay37 rfl (by decide) (litOK (z := 6) [] rfl trivial) rfl fun n32 => ?_
          have a0 : addL L 0 0 = true := rfl
          have a3 : addL L 0 3 = false := m3
          have a15 : addL L 0 15 = false := m15
          have a17 : addL L 0 17 = false := m17
          have u0 : upd σ 0 n32 0 = n32 := rfl
          have u3 : upd σ 0 n32 3 = σ 3 := rfl
          have u15 : upd σ 0 n32 15 = σ 15 := rfl
          exact AO.nE (d := 64) rfl ⟨(upd σ 0 n32), (fun j hj => match j, hj with | 0, hj => Bool.noConfusion (hj.symm.trans hi) | 1, _ => rfl | 2, _ => rfl | 3, _ => rfl | 4, _ => rfl | 5, _ => rfl | 6, _ => rfl | 7, _ => rfl | 8, _ => rfl | 9, _ => rfl | 10, _ => rfl | 11, _ => rfl | 12, _ => rfl | 13, _ => rfl | 14, _ => rfl | 15, _ => rfl | 16, _ => rfl | 17, _ => rfl | _ + 18, _ => rfl), (fun d' hd' => ⟨_, rfl, by cases hd'; rfl⟩), Sub.of_eq (B := ((n3, (.mem (e27 p0))) :: (n32, (.mem (.ar 6 (([] : List S37).map e37)))) :: (n14, (.mem (e27 p0))) :: [])) (by simp only [a0, a3, a15, a17, u0, u3, u15, cond_true, cond_false]) (Sub.cons 1 rfl (Sub.cons 0 rfl (Sub.cons 0 rfl (Sub.refl _))))⟩
         ·refine StepE.calm (fun _ _ => rfl) fun L σ hc hi hd => ?_
          refine AO.wK [2] ?_
          refine AO.c (x := .ptr n3 2) (Calm.fldPtr rfl rfl Try.underlying27 rfl sz24 _ rfl) ?_
          exact AO.nE (d := 65) rfl ⟨⟨65, _, rfl, rfl, rfl⟩, Sub.refl _⟩
         ·refine StepE.calm (fun _ _ => rfl) fun L σ hc hi hd => ?_
          refine AO.wK [65] ?_
          refine AO.c (Calm.load 0 rfl rfl rfl (At.cast (At.fldS (At.fldS (At.fld0 At.here))) rfl) ag24 sz24) ?_
          exact AO.nE (d := 66) rfl ⟨⟨66, _, rfl, rfl, rfl⟩, Sub.refl _⟩
         ·intro L σ hc hi hd
          have y0 : L 0 = true := on_get hd (i := 0) (by rfl)
          have m15 : L 15 = false := hc.neg (i := 3) (j := 15) rfl (by rfl) hi
          have m17 : L 17 = false := hc.neg (i := 3) (j := 17) rfl (by rfl) hi
          refine AO.heq (H' := ((n3, (.mem (e27 p0))) :: ((σ 0), (.mem (.ar 6 (([] : List S37).map e37)))) :: (n14, (.mem (e27 p0))) :: [])) (by first | rfl | simp only [hi, y0, m15, m17, cond_true, cond_false]) ?_
          refine AO.wK [64, 66] ?_
          refine AO.appendL (l := ([] : List S37)) (m := p0.f2) 1 67 rfl (by decide) rfl rfl rfl rfl rfl Src.fz Try.underlying24 Try.underlying24 sz37 by37 zr37 rfl hg34 (by decide) fun n33 => ?_
          have a0 : addL L 3 0 = true := y0
          have a3 : addL L 3 3 = true := rfl
          have a15 : addL L 3 15 = false := m15
          have a17 : addL L 3 17 = false := m17
          have u0 : upd σ 3 n33 0 = σ 0 := rfl
          have u3 : upd σ 3 n33 3 = n33 := rfl
          have u15 : upd σ 3 n33 15 = σ 15 := rfl
          exact AO.nE (d := 67) rfl ⟨(upd σ 3 n33), (fun j hj => match j, hj with | 0, _ => rfl | 1, _ => rfl | 2, _ => rfl | 3, hj => Bool.noConfusion (hj.symm.trans hi) | 4, _ => rfl | 5, _ => rfl | 6, _ => rfl | 7, _ => rfl | 8, _ => rfl | 9, _ => rfl | 10, _ => rfl | 11, _ => rfl | 12, _ => rfl | 13, _ => rfl | 14, _ => rfl | 15, _ => rfl | 16, _ => rfl | 17, _ => rfl | _ + 18, _ => rfl), (fun d' hd' => ⟨_, rfl, by cases hd'; rfl⟩), Sub.of_eq (B := ((n3, (.mem (e27 p0))) :: (n33, (.mem (.ar 6 ((([] : List S37) ++ p0.f2).map e37)))) :: (n14, (.mem (e27 p0))) :: [])) (by simp only [a0, a3, a15, a17, u0, u3, u15, cond_true, cond_false]) (Sub.refl _)⟩
         ·refine StepE.calm (fun _ _ => rfl) fun L σ hc hi hd => ?_
          refine AO.wK [2] ?_
          refine AO.c (x := .ptr n3 2) (Calm.fldPtr rfl rfl Try.underlying27 rfl sz24 _ rfl) ?_
          exact AO.nE (d := 68) rfl ⟨⟨68, _, rfl, rfl, rfl⟩, Sub.refl _⟩
         ·refine StepE.calm (fun _ _ => rfl) fun L σ hc hi hd => ?_
          refine AO.wK [68] ?_
          refine AO.c (Calm.load 0 rfl rfl rfl (At.cast (At.fldS (At.fldS (At.fld0 At.here))) rfl) ag24 sz24) ?_
          exact AO.nE (d := 69) rfl ⟨⟨69, _, rfl, rfl, rfl⟩, Sub.refl _⟩
         ·refine StepE.calm (fun _ _ => rfl) fun L σ hc hi hd => ?_
          refine AO.wK [1] ?_
          refine AO.mv rfl rfl ?_
          exact AO.nE (d := 70) rfl ⟨⟨70, _, rfl, rfl, rfl⟩, Sub.refl _⟩
         ·refine StepE.calm (fun _ _ => rfl) fun L σ hc hi hd => ?_
          refine AO.wK [70] ?_
          refine AO.c (x := eI64 (w64 p1)) (Calm.conv rfl rfl Try.underlying5 Try.underlying3) ?_
          exact AO.nE (d := 71) rfl ⟨⟨71, _, rfl, rfl, rfl⟩, Sub.refl _⟩
         ·refine StepE.calm (fun _ _ => rfl) fun L σ hc hi hd => ?_
          refine AO.wK [2] ?_
          refine AO.c (x := .ptr n3 2) (Calm.fldPtr rfl rfl Try.underlying27 rfl sz24 _ rfl) ?_
          exact AO.nE (d := 72) rfl ⟨⟨72, _, rfl, rfl, rfl⟩, Sub.refl _⟩
         ·refine StepE.calm (fun _ _ => rfl) fun L σ hc hi hd => ?_
          refine AO.wK [72] ?_
          refine AO.c (Calm.load 0 rfl rfl rfl (At.cast (At.fldS (At.fldS (At.fld0 At.here))) rfl) ag24 sz24) ?_
          exact AO.nE (d := 73) rfl ⟨⟨73, _, rfl, rfl, rfl⟩, Sub.refl _⟩
         ·refine StepE.calm (fun _ _ => rfl) fun L σ hc hi hd => ?_
          refine AO.wK [73] ?_
          refine AO.c (Calm.lenL rfl rfl Try.underlying24) ?_
          exact AO.nE (d := 74) rfl ⟨⟨74, _, rfl, rfl, rfl⟩, Sub.refl _⟩
         ·refine StepE.calm (fun _ _ => rfl) fun L σ hc hi hd => ?_
          refine AO.wK [71, 74] ?_
          refine AO.c (x := eI64 ((w64 p1).tmod (p0.f2.length : Int))) (Calm.rem rfl rfl rfl hg35) ?_
          exact AO.nE (d := 75) rfl ⟨⟨75, _, rfl, rfl, rfl⟩, Sub.refl _⟩
         ·refine StepE.calm (fun _ _ => rfl) fun L σ hc hi hd => ?_
          refine AO.wK [69, 75] ?_
          refine AO.c (Calm.idxL (f := e37) rfl rfl rfl hg36 Try.underlying24 sz37) ?_
          exact AO.nE (d := 76) rfl ⟨⟨76, _, rfl, rfl, rfl⟩, Sub.refl _⟩
         ·refine StepE.calm (fun _ _ => rfl) fun L σ hc hi hd => ?_
          refine AO.wK [76] ?_
          refine AO.c (Calm.loadRp rfl rfl ag37 sz37) ?_
          exact AO.nE (d := 77) rfl ⟨⟨77, _, rfl, rfl, rfl⟩, Sub.refl _⟩
         ·refine StepE.calm (fun _ _ => rfl) fun L σ hc hi hd => ?_
          refine AO.wK [77] ?_
          refine AO.lit (Z := (.st [(1, (eI64 (0 : Int))), (1, (eStr ByteArray.empty)), (1, (.fl (.slice none 0 0))), (1, (eBool false)), (1, (eI64 (0 : Int))), (1, (.fl (.slice none 0 0)))])) (xs := (([(lget p0.f2 ((w64 p1).tmod (p0.f2.length : Int)))] : List S37).map e37)) (qs := [(0, (e37 (lget p0.f2 ((w64 p1).tmod (p0.f2.length : Int)))))]) rfl 78 rfl (by decide) rfl ⟨rfl, rfl, rfl, trivial⟩ Try.underlying24 sz37 zr37 lay37 rfl (by decide) (litOK (z := 6) [(e37 (lget p0.f2 ((w64 p1).tmod (p0.f2.length : Int))))] rfl ⟨⟨rfl, rfl⟩, trivial⟩) rfl fun n37 => ?_
          refine AO.freezeS 0 [(78, (.fz 6 (([(lget p0.f2 ((w64 p1).tmod (p0.f2.length : Int)))] : List S37).map e37)))] rfl ⟨fz_all rfl, trivial⟩ ?_
          exact AO.nE (d := 78) rfl ⟨⟨78, _, rfl, rfl, rfl⟩, Sub.refl _⟩
         ·intro L σ hc hi hd
          have y3 : L 3 = true := on_get hd (i := 3) (by rfl)
          have y0 : L 0 = true := hc.pos (i := 0) (j := 3) rfl (by rfl) y3
          have y3 : L 3 = true := on_get hd (i := 3) (by rfl)
          have m17 : L 17 = false := hc.neg (i := 15) (j := 17) rfl (by rfl) hi
          refine AO.heq (H' := ((n3, (.mem (e27 p0))) :: ((σ 3), (.mem (.ar 6 ((([] : List S37) ++ p0.f2).map e37)))) :: (n14, (.mem (e27 p0))) :: [])) (by first | rfl | simp only [hi, y0, y3, m17, cond_true, cond_false]) ?_
          refine AO.wK [67, 78] ?_
          refine AO.appendL (l := (([] : List S37) ++ p0.f2)) (m := ([(lget p0.f2 ((w64 p1).tmod (p0.f2.length : Int)))] : List S37)) 1 79 rfl (by decide) rfl rfl rfl rfl rfl Src.fz Try.underlying24 Try.underlying24 sz37 by37 zr37 rfl hg39 (by decide) fun n38 => ?_
          have a0 : addL L 15 0 = true := y0
          have a3 : addL L 15 3 = true := y3
          have a15 : addL L 15 15 = true := rfl
          have a17 : addL L 15 17 = false := m17
          have u0 : upd σ 15 n38 0 = σ 0 := rfl
          have u3 : upd σ 15 n38 3 = σ 3 := rfl
          have u15 : upd σ 15 n38 15 = n38 := rfl
          exact AO.nE (d := 79) rfl ⟨(upd σ 15 n38), (fun j hj => match j, hj with | 0, _ => rfl | 1, _ => rfl | 2, _ => rfl | 3, _ => rfl | 4, _ => rfl | 5, _ => rfl | 6, _ => rfl | 7, _ => rfl | 8, _ => rfl | 9, _ => rfl | 10, _ => rfl | 11, _ => rfl | 12, _ => rfl | 13, _ => rfl | 14, _ => rfl | 15, hj => Bool.noConfusion (hj.symm.trans hi) | 16, _ => rfl | 17, _ => rfl | _ + 18, _ => rfl), (fun d' hd' => ⟨_, rfl, by cases hd'; rfl⟩), Sub.of_eq (B := ((n3, (.mem (e27 p0))) :: (n38, (.mem (.ar 6 (((([] : List S37) ++ p0.f2) ++ ([(lget p0.f2 ((w64 p1).tmod (p0.f2.length : Int)))] : List S37)).map e37)))) :: (n14, (.mem (e27 p0))) :: [])) (by simp only [a0, a3, a15, a17, u0, u3, u15, cond_true, cond_false]) (Sub.refl _)⟩
         ·refine StepE.calm (fun _ _ => rfl) fun L σ hc hi hd => ?_
          have y0 : L 0 = true := on_get hd (i := 0) (by rfl)
          have y3 : L 3 = true := on_get hd (i := 3) (by rfl)
          have y15 : L 15 = true := on_get hd (i := 15) (by rfl)
          have m17 : L 17 = false := hc.neg (i := 16) (j := 17) rfl (by rfl) hi
          refine AO.heq (H' := ((n3, (.mem (e27 p0))) :: ((σ 15), (.mem (.ar 6 (((([] : List S37) ++ p0.f2) ++ ([(lget p0.f2 ((w64 p1).tmod (p0.f2.length : Int)))] : List S37)).map e37)))) :: (n14, (.mem (e27 p0))) :: [])) (by first | rfl | simp only [y0, y3, y15, m17, cond_true, cond_false]) ?_
          refine AO.wK [7] ?_
          refine AO.c (x := .ptr n14 2) (Calm.fldPtr rfl rfl Try.underlying27 rfl sz24 _ rfl) ?_
          exact AO.nE (d := 80) rfl ⟨⟨80, _, rfl, rfl, rfl⟩, Sub.of_eq (by first | rfl | simp only [y0, y3, y15, m17, cond_true, cond_false]) (Sub.refl _)⟩
         ·intro L σ hc hi hd
          have y0 : L 0 = true := on_get hd (i := 0) (by rfl)
          have y3 : L 3 = true := on_get hd (i := 3) (by rfl)
          have y15 : L 15 = true := on_get hd (i := 15) (by rfl)
          refine AO.heq (H' := ((n3, (.mem (e27 p0))) :: ((σ 15), (.mem (.ar 6 (((([] : List S37) ++ p0.f2) ++ ([(lget p0.f2 ((w64 p1).tmod (p0.f2.length : Int)))] : List S37)).map e37)))) :: (n14, (.mem (e27 p0))) :: [])) (by first | rfl | simp only [hi, y0, y3, y15, cond_true, cond_false]) ?_
          refine AO.wK [79, 80] ?_
          refine AO.store (X' := (.st [(1, (.fz 3 (p0.f0.map e82))), (1, (.fz 1 (p0.f1.map eStr))), (1, (.own (σ 15) 0 ((([] : List S37) ++ p0.f2) ++ ([(lget p0.f2 ((w64 p1).tmod (p0.f2.length : Int)))] : List S37)).length)), (1, (.fz 2 (p0.f3.map e86))), (1, (eI64 p0.f4))])) 2 rfl rfl rfl rfl rfl rfl (Put.cast (Put.fldS (Put.fldS (Put.fld0 Put.here))) rfl) rfl rfl sz24 rfl ?_
          have a0 : addL L 17 0 = true := y0
          have a3 : addL L 17 3 = true := y3
          have a15 : addL L 17 15 = true := y15
          have a17 : addL L 17 17 = true := rfl
          exact AO.n0 ⟨σ, (fun _ _ => rfl), (fun d' hd' => by cases hd'), Sub.of_eq (B := ((n3, (.mem (e27 p0))) :: ((σ 15), (.mem (.ar 6 (((([] : List S37) ++ p0.f2) ++ ([(lget p0.f2 ((w64 p1).tmod (p0.f2.length : Int)))] : List S37)).map e37)))) :: (n14, (.mem (.st [(1, (.fz 3 (p0.f0.map e82))), (1, (.fz 1 (p0.f1.map eStr))), (1, (.own (σ 15) 0 ((([] : List S37) ++ p0.f2) ++ ([(lget p0.f2 ((w64 p1).tmod (p0.f2.length : Int)))] : List S37)).length)), (1, (.fz 2 (p0.f3.map e86))), (1, (eI64 p0.f4))]))) :: [])) (by simp only [a0, a3, a15, a17, cond_true, cond_false]) (Sub.refl _)⟩
         ·generalize σ 0 = n32
          generalize σ 3 = n33
          generalize σ 15 = n38
          refine AO.nH [2, 7] (H' := [(n3, (.mem (e27 p0))), (n14, (.mem (.st [(1, (.fz 3 (p0.f0.map e82))), (1, (.fz 1 (p0.f1.map eStr))), (1, (.own n38 0 ((([] : List S37) ++ p0.f2) ++ ([(lget p0.f2 ((w64 p1).tmod (p0.f2.length : Int)))] : List S37)).length)), (1, (.fz 2 (p0.f3.map e86))), (1, (eI64 p0.f4))]))), (n38, (.mem (.ar 6 (((([] : List S37) ++ p0.f2) ++ ([(lget p0.f2 ((w64 p1).tmod (p0.f2.length : Int)))] : List S37)).map e37))))]) (Sub.cons 0 rfl (Sub.cons 1 rfl (Sub.cons 0 rfl (Sub.nil _)))) ?_
          refine AW.seq ?_
          refine AW.freezeFld (X' := (.st [(1, (.fz 3 (p0.f0.map e82))), (1, (.fz 1 (p0.f1.map eStr))), (1, (.fz 6 (((([] : List S37) ++ p0.f2) ++ ([(lget p0.f2 ((w64 p1).tmod (p0.f2.length : Int)))] : List S37)).map e37))), (1, (.fz 2 (p0.f3.map e86))), (1, (eI64 p0.f4))])) (els' := (((([] : List S37) ++ p0.f2) ++ ([(lget p0.f2 ((w64 p1).tmod (p0.f2.length : Int)))] : List S37)).map e37)) 2 1 rfl rfl (Put.cast (Put.fldS (Put.fldS (Put.fld0 Put.here))) rfl) (by simp) (by rw [own_all]) rfl rfl (by decide) ?_
          obtain ⟨t40, et40, h⟩ := of_bind h
          refine AW.regAny (by rfl) (by decide +kernel) [(e27 (S27.mk p0.f0 p0.f1 ((([] : List S37) ++ p0.f2) ++ ([(lget p0.f2 ((w64 p1).tmod (p0.f2.length : Int)))] : List S37)) p0.f3 p0.f4)), (e32 t40), (.ptr n3 2), (.fz 6 (p0.f2.map e37)), (eI64 (p0.f2.length : Int)), (e32 (S32.mk (9 : Int) (3 : Int) (p0.f2.length : Int))), (eBool (decide (t40 = (S32.mk (9 : Int) (3 : Int) (p0.f2.length : Int))))), (eBool (decide (t40 = (S32.mk (9 : Int) (3 : Int) (p0.f2.length : Int)))))] [(2, (.ptr n3 0)), (7, (.ptr n14 0))] ⟨rfl, rfl, trivial⟩ rfl ?_ [(4, (eBool (decide (t40 = (S32.mk (9 : Int) (3 : Int) (p0.f2.length : Int))))))] [] ⟨rfl, trivial⟩ (Sub.nil _) ?_
          ·refine ⟨?_, ?_, ?_, ?_, ?_, ?_, ?_, ?_, trivial⟩
           ·refine AO.wK [7] ?_
            refine AO.c (Calm.load 1 rfl rfl rfl (At.cast At.here rfl) ag27 sz27) ?_
            exact AO.nE (d := 81) rfl ⟨⟨_, rfl, rfl⟩, Sub.refl _⟩
           ·refine AO.wK [81] ?_
            refine AO.callS [(e27 (S27.mk p0.f0 p0.f1 ((([] : List S37) ++ p0.f2) ++ ([(lget p0.f2 ((w64 p1).tmod (p0.f2.length : Int)))] : List S37)) p0.f3 p0.f4))] (e32 t40) 82 rfl (by decide) ok11 rfl rfl rfl ⟨rfl, rfl, trivial⟩ (F11_spec et40) ?_
            exact AO.nE (d := 82) rfl ⟨⟨_, rfl, rfl⟩, Sub.refl _⟩
           ·refine AO.wK [2] ?_
            refine AO.c (x := .ptr n3 2) (Calm.fldPtr rfl rfl Try.underlying27 rfl sz24 _ rfl) ?_
            exact AO.nE (d := 83) rfl ⟨⟨_, rfl, rfl⟩, Sub.refl _⟩
           ·refine AO.wK [83] ?_
            refine AO.c (Calm.load 0 rfl rfl rfl (At.cast (At.fldS (At.fldS (At.fld0 At.here))) rfl) ag24 sz24) ?_
            exact AO.nE (d := 84) rfl ⟨⟨_, rfl, rfl⟩, Sub.refl _⟩
           ·refine AO.wK [84] ?_
            refine AO.c (Calm.lenL rfl rfl Try.underlying24) ?_
            exact AO.nE (d := 85) rfl ⟨⟨_, rfl, rfl⟩, Sub.refl _⟩
           ·refine AO.wK [85] ?_
            refine AO.c (x := .st [(1, (eI64 (9 : Int))), (1, (eI64 (3 : Int))), (1, (eI64 (p0.f2.length : Int)))]) (Calm.build (qs := [(0, (eI64 (9 : Int))), (1, (eI64 (3 : Int))), (2, (eI64 (p0.f2.length : Int)))]) rfl ⟨rfl, rfl, rfl, rfl, rfl, rfl, rfl, rfl, rfl, trivial⟩ Try.underlying32 rfl zr32 lay32 (.cons rfl rfl rfl rfl (Put.cast (Put.fld0 Put.here) rfl) (.cons rfl rfl rfl rfl (Put.cast (Put.fldS (Put.fld0 Put.here)) rfl) (.cons rfl rfl rfl rfl (Put.cast (Put.fldS (Put.fldS (Put.fld0 Put.here))) rfl) .nil))) rfl) ?_
            exact AO.nE (d := 86) rfl ⟨⟨_, rfl, rfl⟩, Sub.refl _⟩
           ·refine AO.wK [82, 86] ?_
            refine AO.c (x := eBool (decide (t40 = (S32.mk (9 : Int) (3 : Int) (p0.f2.length : Int))))) (Calm.eqS rfl rfl rfl eg32 (eqk32 t40 (S32.mk (9 : Int) (3 : Int) (p0.f2.length : Int))) (by decide)) ?_
            exact AO.nE (d := 87) rfl ⟨⟨_, rfl, rfl⟩, Sub.refl _⟩
           ·refine AO.wK [87] ?_
            refine AO.ag rfl rfl ?_
            exact AO.nE (d := 4) rfl ⟨⟨_, rfl, rfl⟩, Sub.refl _⟩
          ·refine AW.rK [4] ?_
           have hr := Option.some.inj h
           subst hr
           exact ⟨[(eBool (decide (t40 = (S32.mk (9 : Int) (3 : Int) (p0.f2.length : Int)))))], ⟨rfl, rfl, trivial⟩, rfl⟩
end Go.Avl.T7
/- bosket/nfa.Union; printed by avmain.py. -/
namespace Go.Avl.T7
open Go Go.RowKit Go.Proofs Go.Avl
set_option linter.unusedVariables false
set_option maxRecDepth 100000
set_option maxHeartbeats 4000000
attribute [local irreducible] AW AO AQ Spec SpecH Calm

end Go.Avl.T7
/- bosket/byteset.Count; printed by avmain.py. -/
namespace Go.Avl.T7
open Go Go.RowKit Go.Proofs Go.Avl
set_option linter.unusedVariables false
set_option maxRecDepth 100000
set_option maxHeartbeats 4000000
attribute [local irreducible] AW AO AQ Spec SpecH Calm

end Go.Avl.T7
/- bosket/dfa.gapless; printed by avmain.py. -/
namespace Go.Avl.T7
open Go Go.RowKit Go.Proofs Go.Avl
set_option linter.unusedVariables false
set_option maxRecDepth 100000
set_option maxHeartbeats 4000000
attribute [local irreducible] AW AO AQ Spec SpecH Calm

end Go.Avl.T7
/- bosket/dfa.Right; printed by avmain.py. -/
namespace Go.Avl.T7
open Go Go.RowKit Go.Proofs Go.Avl
set_option linter.unusedVariables false
set_option maxRecDepth 100000
set_option maxHeartbeats 4000000
attribute [local irreducible] AW AO AQ Spec SpecH Calm

end Go.Avl.T7
/- bosket/dfa.Alive; printed by avmain.py. -/
namespace Go.Avl.T7
open Go Go.RowKit Go.Proofs Go.Avl
set_option linter.unusedVariables false
set_option maxRecDepth 100000
set_option maxHeartbeats 4000000
attribute [local irreducible] AW AO AQ Spec SpecH Calm

end Go.Avl.T7
/- slices.Clone[[]int,int]; printed by avmain.py. -/
namespace Go.Avl.T7
open Go Go.RowKit Go.Proofs Go.Avl
set_option linter.unusedVariables false
set_option maxRecDepth 100000
set_option maxHeartbeats 4000000
attribute [local irreducible] AW AO AQ Spec SpecH Calm

end Go.Avl.T7
/- bosket/dfa.Trim; printed by avmain.py. -/
namespace Go.Avl.T7
open Go Go.RowKit Go.Proofs Go.Avl
set_option linter.unusedVariables false
set_option maxRecDepth 100000
set_option maxHeartbeats 4000000
set_option linter.unusedSimpArgs false
attribute [local irreducible] AW AO AQ Spec SpecH Calm

end Go.Avl.T7
/- bosket/dfa.Order; printed by avmain.py. -/
namespace Go.Avl.T7
open Go Go.RowKit Go.Proofs Go.Avl
set_option linter.unusedVariables false
set_option maxRecDepth 100000
set_option maxHeartbeats 4000000
set_option linter.unusedSimpArgs false
attribute [local irreducible] AW AO AQ Spec SpecH Calm

end Go.Avl.T7
/- bosket/mini.blocks; printed by avmain.py. -/
namespace Go.Avl.T7
open Go Go.RowKit Go.Proofs Go.Avl
set_option linter.unusedVariables false
set_option maxRecDepth 100000
set_option maxHeartbeats 4000000
attribute [local irreducible] AW AO AQ Spec SpecH Calm

end Go.Avl.T7
/- bosket/mini.word; printed by avmain.py. -/
namespace Go.Avl.T7
open Go Go.RowKit Go.Proofs Go.Avl
set_option linter.unusedVariables false
set_option maxRecDepth 100000
set_option maxHeartbeats 4000000
attribute [local irreducible] AW AO AQ Spec SpecH Calm

end Go.Avl.T7
/- bosket/mini.row; printed by avmain.py. -/
namespace Go.Avl.T7
open Go Go.RowKit Go.Proofs Go.Avl
set_option linter.unusedVariables false
set_option maxRecDepth 100000
set_option maxHeartbeats 4000000
attribute [local irreducible] AW AO AQ Spec SpecH Calm

end Go.Avl.T7
/- bosket/mini.split; printed by avmain.py. -/
namespace Go.Avl.T7
open Go Go.RowKit Go.Proofs Go.Avl
set_option linter.unusedVariables false
set_option maxRecDepth 100000
set_option maxHeartbeats 4000000
attribute [local irreducible] AW AO AQ Spec SpecH Calm

end Go.Avl.T7
/- bosket/mini.Blocks; printed by avmain.py. -/
namespace Go.Avl.T7
open Go Go.RowKit Go.Proofs Go.Avl
set_option linter.unusedVariables false
set_option maxRecDepth 100000
set_option maxHeartbeats 4000000
attribute [local irreducible] AW AO AQ Spec SpecH Calm

end Go.Avl.T7
/- bosket/mini.column; printed by avmain.py. -/
namespace Go.Avl.T7
open Go Go.RowKit Go.Proofs Go.Avl
set_option linter.unusedVariables false
set_option maxRecDepth 100000
set_option maxHeartbeats 4000000
attribute [local irreducible] AW AO AQ Spec SpecH Calm

end Go.Avl.T7
/- bosket/mini.classes; printed by avmain.py. -/
namespace Go.Avl.T7
open Go Go.RowKit Go.Proofs Go.Avl
set_option linter.unusedVariables false
set_option maxRecDepth 100000
set_option maxHeartbeats 4000000
attribute [local irreducible] AW AO AQ Spec SpecH Calm

end Go.Avl.T7
/- bosket/mini.Of; printed by avmain.py. -/
namespace Go.Avl.T7
open Go Go.RowKit Go.Proofs Go.Avl
set_option linter.unusedVariables false
set_option maxRecDepth 100000
set_option maxHeartbeats 4000000
set_option linter.unusedSimpArgs false
attribute [local irreducible] AW AO AQ Spec SpecH Calm

end Go.Avl.T7
/- bosket/rules.Machine; printed by avmain.py. -/
namespace Go.Avl.T7
open Go Go.RowKit Go.Proofs Go.Avl
set_option linter.unusedVariables false
set_option maxRecDepth 100000
set_option maxHeartbeats 4000000
attribute [local irreducible] AW AO AQ Spec SpecH Calm

end Go.Avl.T7
/- bosket/bosketref08.Step; printed by avmain.py. -/
namespace Go.Avl.T7
open Go Go.RowKit Go.Proofs Go.Avl
set_option linter.unusedVariables false
set_option maxRecDepth 100000
set_option maxHeartbeats 4000000
attribute [local irreducible] AW AO AQ Spec SpecH Calm

end Go.Avl.T7
/- bosket/bosketref08.Run; printed by avmain.py. -/
namespace Go.Avl.T7
open Go Go.RowKit Go.Proofs Go.Avl
set_option linter.unusedVariables false
set_option maxRecDepth 100000
set_option maxHeartbeats 4000000
attribute [local irreducible] AW AO AQ Spec SpecH Calm

end Go.Avl.T7
/- bosket/bosketref08.Mark; printed by avmain.py. -/
namespace Go.Avl.T7
open Go Go.RowKit Go.Proofs Go.Avl
set_option linter.unusedVariables false
set_option maxRecDepth 100000
set_option maxHeartbeats 4000000
attribute [local irreducible] AW AO AQ Spec SpecH Calm

end Go.Avl.T7
/- bosket/dfa.Reached; printed by avmain.py. -/
namespace Go.Avl.T7
open Go Go.RowKit Go.Proofs Go.Avl
set_option linter.unusedVariables false
set_option maxRecDepth 100000
set_option maxHeartbeats 4000000
attribute [local irreducible] AW AO AQ Spec SpecH Calm

end Go.Avl.T7
/- bosket/rules.Hidden; printed by avmain.py. -/
namespace Go.Avl.T7
open Go Go.RowKit Go.Proofs Go.Avl
set_option linter.unusedVariables false
set_option maxRecDepth 100000
set_option maxHeartbeats 4000000
attribute [local irreducible] AW AO AQ Spec SpecH Calm

end Go.Avl.T7
/- bosket/bosketlaw11.awake; printed by avmain.py. -/
namespace Go.Avl.T7
open Go Go.RowKit Go.Proofs Go.Avl
set_option linter.unusedVariables false
set_option maxRecDepth 100000
set_option maxHeartbeats 4000000
attribute [local irreducible] AW AO AQ Spec SpecH Calm

end Go.Avl.T7
/- bosket/bosketref02.Has; printed by avmain.py. -/
namespace Go.Avl.T7
open Go Go.RowKit Go.Proofs Go.Avl
set_option linter.unusedVariables false
set_option maxRecDepth 100000
set_option maxHeartbeats 4000000
attribute [local irreducible] AW AO AQ Spec SpecH Calm

end Go.Avl.T7
/- bosket/bosketlaw08.Small; printed by avmain.py. -/
namespace Go.Avl.T7
open Go Go.RowKit Go.Proofs Go.Avl
set_option linter.unusedVariables false
set_option maxRecDepth 100000
set_option maxHeartbeats 4000000
attribute [local irreducible] AW AO AQ Spec SpecH Calm

end Go.Avl.T7
