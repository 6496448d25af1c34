/- Parts: T7B, T7f18, T7f21, T7f91, T7f69, T7f116, T7f118, T7f117, T7f133, T7f142, T7f150. -/
import Derived.Test.YtpkgpmmcbpfenaaAv3
import Derived.Test.YtpkgpmmcbpfenaaProg
/- Types and facts; printed by avmain.py. -/
namespace Go.Avl.T7
open Go Go.RowKit Go.Proofs Go.Avl
set_option linter.unusedVariables false
set_option maxRecDepth 100000
set_option maxHeartbeats 4000000
structure S82 where
  f0 : ByteArray
  f1 : Int
  f2 : ByteArray
deriving Inhabited, DecidableEq
abbrev e82 (x : S82) : AV := .st [(1, (eStr x.f0)), (1, (eI64 x.f1)), (1, (eStr x.f2))]
structure S41 where
  f0 : Bool
  f1 : Int
deriving Inhabited, DecidableEq
abbrev e41 (x : S41) : AV := .st [(1, (eBool x.f0)), (1, (eI64 x.f1))]
structure S37 where
  f0 : Int
  f1 : ByteArray
  f2 : (List S41)
  f3 : Bool
  f4 : Int
  f5 : (List Int)
deriving Inhabited, DecidableEq
abbrev e37 (x : S37) : AV := .st [(1, (eI64 x.f0)), (1, (eStr x.f1)), (1, (.fz 2 (x.f2.map e41))), (1, (eBool x.f3)), (1, (eI64 x.f4)), (1, (.fz 1 (x.f5.map eI64)))]
structure S86 where
  f0 : Int
  f1 : (List Int)
deriving Inhabited, DecidableEq
abbrev e86 (x : S86) : AV := .st [(1, (eI64 x.f0)), (1, (.fz 1 (x.f1.map eI64)))]
structure S27 where
  f0 : (List S82)
  f1 : (List ByteArray)
  f2 : (List S37)
  f3 : (List S86)
  f4 : Int
deriving Inhabited, DecidableEq
abbrev e27 (x : S27) : AV := .st [(1, (.fz 3 (x.f0.map e82))), (1, (.fz 1 (x.f1.map eStr))), (1, (.fz 6 (x.f2.map e37))), (1, (.fz 2 (x.f3.map e86))), (1, (eI64 x.f4))]
structure S140 where
  f0 : ByteArray
  f1 : Int
  f2 : Int
deriving Inhabited, DecidableEq
abbrev e140 (x : S140) : AV := .st [(1, (eStr x.f0)), (1, (eI64 x.f1)), (1, (eI64 x.f2))]
abbrev e62 (v : Vector Int 4) : AV := .ar 1 (v.toList.map eU64)
structure S131 where
  f0 : Int
  f1 : (Vector Int 4)
deriving Inhabited, DecidableEq
abbrev e131 (x : S131) : AV := .st [(1, (eI64 x.f0)), (4, (.ar 1 (x.f1.toList.map eU64)))]
abbrev e68 (l : List S131) : AV := .fz 5 (l.map e131)
structure S152 where
  f0 : Int
  f1 : Int
  f2 : (Vector Int 4)
  f3 : Bool
deriving Inhabited, DecidableEq
abbrev e152 (x : S152) : AV := .st [(1, (eI64 x.f0)), (1, (eI64 x.f1)), (4, (.ar 1 (x.f2.toList.map eU64))), (1, (eBool x.f3))]
structure S121 where
  f0 : Int
  f1 : (List S152)
  f2 : Int
  f3 : Int
deriving Inhabited, DecidableEq
abbrev e121 (x : S121) : AV := .st [(1, (eI64 x.f0)), (1, (.fz 7 (x.f1.map e152))), (1, (eI64 x.f2)), (1, (eI64 x.f3))]
structure S146 where
  f0 : S121
deriving Inhabited, DecidableEq
structure S150 where
  f0 : Int
  f1 : Int
deriving Inhabited, DecidableEq
abbrev e150 (x : S150) : AV := .st [(1, (eI64 x.f0)), (1, (eI64 x.f1))]
abbrev e158 (l : List (Vector Int 4)) : AV := .fz 4 (l.map e62)
abbrev e52 (v : Vector Int 256) : AV := .ar 1 (v.toList.map eU8)
abbrev e98 (l : List Bool) : AV := .fz 1 (l.map eBool)
abbrev e35 (l : List Int) : AV := .fz 1 (l.map eI64)
structure S55 where
  f0 : (Vector Int 256)
  f1 : (List (List Int))
  f2 : (List Int)
deriving Inhabited, DecidableEq
abbrev e55 (x : S55) : AV := .st [(256, (.ar 1 (x.f0.toList.map eU8))), (1, (.fz 1 (x.f1.map e35))), (1, (.fz 1 (x.f2.map eI64)))]
structure S156 where
  f0 : S121
  f1 : (List Int)
  f2 : (List Int)
  f3 : (List (ByteArray × Int))
  f4 : (List (List Bool))
  f5 : S55
deriving Inhabited, DecidableEq
structure S32 where
  f0 : Int
  f1 : Int
  f2 : Int
deriving Inhabited, DecidableEq
abbrev e32 (x : S32) : AV := .st [(1, (eI64 x.f0)), (1, (eI64 x.f1)), (1, (eI64 x.f2))]
theorem sz4 : tySize Try.prog 4 = some 1 := by rfl
theorem ag4 : tyAgg Try.prog 4 = some false := by rfl
theorem sz3 : tySize Try.prog 3 = some 1 := by rfl
theorem ag3 : tyAgg Try.prog 3 = some false := by rfl
theorem sz23 : tySize Try.prog 23 = some 1 := by rfl
theorem ag23 : tyAgg Try.prog 23 = some false := by rfl
theorem sz9 : tySize Try.prog 9 = some 1 := by rfl
theorem ag9 : tyAgg Try.prog 9 = some false := by rfl
theorem sz22 : tySize Try.prog 22 = some 1 := by rfl
theorem ag22 : tyAgg Try.prog 22 = some false := by rfl
theorem sz82 : tySize Try.prog 82 = some 3 := by rfl
theorem sz24 : tySize Try.prog 24 = some 1 := by rfl
theorem ag24 : tyAgg Try.prog 24 = some false := by rfl
theorem sz37 : tySize Try.prog 37 = some 6 := by rfl
theorem ag37 : tyAgg Try.prog 37 = some true := by rfl
theorem zr37 : tyZero Try.prog 37 = some (([.int .i64 0] ++ ([.string ByteArray.empty] ++ ([.slice none 0 0] ++ ([.bool false] ++ ([.int .i64 0] ++ ([.slice none 0 0] ++ []))))))) := by rfl
theorem lay37 : ∀ g, Sim g (.st [(1, (eI64 (0 : Int))), (1, (eStr ByteArray.empty)), (1, (.fl (.slice none 0 0))), (1, (eBool false)), (1, (eI64 (0 : Int))), (1, (.fl (.slice none 0 0)))]) (([.int .i64 0] ++ ([.string ByteArray.empty] ++ ([.slice none 0 0] ++ ([.bool false] ++ ([.int .i64 0] ++ ([.slice none 0 0] ++ []))))))) := fun g => (Sim.stCons (lay_fl rfl) rfl (Sim.stCons (lay_fl rfl) rfl (Sim.stCons (lay_fl rfl) rfl (Sim.stCons (lay_fl rfl) rfl (Sim.stCons (lay_fl rfl) rfl (Sim.stCons (lay_fl rfl) rfl Sim.stNil))))))
theorem ag27 : tyAgg Try.prog 27 = some true := by rfl
theorem sz27 : tySize Try.prog 27 = some 5 := by rfl
theorem zr41 : tyZero Try.prog 41 = some (([.bool false] ++ ([.int .i64 0] ++ []))) := by rfl
theorem lay41 : ∀ g, Sim g (.st [(1, (eBool false)), (1, (eI64 (0 : Int)))]) (([.bool false] ++ ([.int .i64 0] ++ []))) := fun g => (Sim.stCons (lay_fl rfl) rfl (Sim.stCons (lay_fl rfl) rfl Sim.stNil))
theorem ok18 : FnOK Try.prog 18 := FnOK.mk Try.func18 rfl rfl
theorem sz34 : tySize Try.prog 34 = some 1 := by rfl
theorem ag34 : tyAgg Try.prog 34 = some false := by rfl
theorem sz41 : tySize Try.prog 41 = some 2 := by rfl
theorem ag41 : tyAgg Try.prog 41 = some true := by rfl
theorem ok91 : FnOK Try.prog 91 := FnOK.mk Try.func91 rfl rfl
theorem zr62 : tyZero Try.prog 62 = some ((List.replicate 4 (.int .u64 0))) := by rfl
theorem lay62 : ∀ g, Sim g (.ar 1 ((Vector.replicate 4 (0 : Int)).toList.map eU64)) ((List.replicate 4 (.int .u64 0))) := fun g => (lay_vec1 (lay_fl rfl))
theorem sz60 : tySize Try.prog 60 = some 1 := by rfl
theorem sz62 : tySize Try.prog 62 = some 4 := by rfl
theorem ag62 : tyAgg Try.prog 62 = some true := by rfl
theorem ok150 : FnOK Try.prog 150 := FnOK.mk Try.func150 rfl rfl
theorem ok148 : FnOK Try.prog 148 := FnOK.mk Try.func148 rfl rfl
theorem ag60 : tyAgg Try.prog 60 = some false := by rfl
theorem ok142 : FnOK Try.prog 142 := FnOK.mk Try.func142 rfl rfl
theorem ok149 : FnOK Try.prog 149 := FnOK.mk Try.func149 rfl rfl
theorem eqa62 (x y : (Vector Int 4)) : EqOK Try.prog 2 62 (.ar 1 (x.toList.map eU64)) (.ar 1 (y.toList.map eU64)) (decide (x = y)) := EqOK.vec (m := 1) Try.underlying62 (fun a b => EqOK.int Try.underlying60) (fun _ => ag60) (fun _ => sz60) (fun _ => rfl) (by rfl) ⟨_, rfl⟩ x y
theorem eg62 : Try.prog.eqGuardType Try.prog.depth 62 = false := by decide +kernel
theorem ok116 : FnOK Try.prog 116 := FnOK.mk Try.func116 rfl rfl
theorem ok133 : FnOK Try.prog 133 := FnOK.mk Try.func133 rfl rfl
theorem ok144 : FnOK Try.prog 144 := FnOK.mk Try.func144 rfl rfl
theorem ok146 : FnOK Try.prog 146 := FnOK.mk Try.func146 rfl rfl
theorem ok145 : FnOK Try.prog 145 := FnOK.mk Try.func145 rfl rfl
theorem ok147 : FnOK Try.prog 147 := FnOK.mk Try.func147 rfl rfl
theorem zr131 : tyZero Try.prog 131 = some (([.int .i64 0] ++ ((List.replicate 4 (.int .u64 0)) ++ []))) := by rfl
theorem lay131 : ∀ g, Sim g (.st [(1, (eI64 (0 : Int))), (4, (.ar 1 ((Vector.replicate 4 (0 : Int)).toList.map eU64)))]) (([.int .i64 0] ++ ((List.replicate 4 (.int .u64 0)) ++ []))) := fun g => (Sim.stCons (lay_fl rfl) rfl (Sim.stCons (lay_vec1 (lay_fl rfl)) rfl Sim.stNil))
theorem sz131 : tySize Try.prog 131 = some 5 := by rfl
theorem ok119 : FnOK Try.prog 119 := FnOK.mk Try.func119 rfl rfl
theorem sz5 : tySize Try.prog 5 = some 1 := by rfl
theorem ag5 : tyAgg Try.prog 5 = some false := by rfl
theorem ok118 : FnOK Try.prog 118 := FnOK.mk Try.func118 rfl rfl
theorem sz68 : tySize Try.prog 68 = some 1 := by rfl
theorem ag68 : tyAgg Try.prog 68 = some false := by rfl
theorem by131 : tyBytes Try.prog 131 = some 40 := by rfl
theorem ok115 : FnOK Try.prog 115 := FnOK.mk Try.func115 rfl rfl
theorem zr68 : tyZero Try.prog 68 = some ([.slice none 0 0]) := by rfl
theorem lay68 : ∀ g, Sim g (.fl (.slice none 0 0)) ([.slice none 0 0]) := fun g => (lay_fl rfl)
theorem ok117 : FnOK Try.prog 117 := FnOK.mk Try.func117 rfl rfl
theorem ok132 : FnOK Try.prog 132 := FnOK.mk Try.func132 rfl rfl
theorem ok140 : FnOK Try.prog 140 := FnOK.mk Try.func140 rfl rfl
theorem ok92 : FnOK Try.prog 92 := FnOK.mk Try.func92 rfl rfl
theorem ok143 : FnOK Try.prog 143 := FnOK.mk Try.func143 rfl rfl
theorem zr5 : tyZero Try.prog 5 = some ([.int .u8 0]) := by rfl
theorem lay5 : ∀ g, Sim g (eU8 (0 : Int)) ([.int .u8 0]) := fun g => (lay_fl rfl)
theorem ok61 : FnOK Try.prog 61 := FnOK.mk Try.func61 rfl rfl
theorem zr140 : tyZero Try.prog 140 = some (([.string ByteArray.empty] ++ ([.int .i64 0] ++ ([.int .i64 0] ++ [])))) := by rfl
theorem lay140 : ∀ g, Sim g (.st [(1, (eStr ByteArray.empty)), (1, (eI64 (0 : Int))), (1, (eI64 (0 : Int)))]) (([.string ByteArray.empty] ++ ([.int .i64 0] ++ ([.int .i64 0] ++ [])))) := fun g => (Sim.stCons (lay_fl rfl) rfl (Sim.stCons (lay_fl rfl) rfl (Sim.stCons (lay_fl rfl) rfl Sim.stNil)))
theorem ag131 : tyAgg Try.prog 131 = some true := by rfl
theorem sz121 : tySize Try.prog 121 = some 4 := by rfl
theorem zr150 : tyZero Try.prog 150 = some (([.int .i64 0] ++ ([.int .i64 0] ++ []))) := by rfl
theorem lay150 : ∀ g, Sim g (.st [(1, (eI64 (0 : Int))), (1, (eI64 (0 : Int)))]) (([.int .i64 0] ++ ([.int .i64 0] ++ []))) := fun g => (Sim.stCons (lay_fl rfl) rfl (Sim.stCons (lay_fl rfl) rfl Sim.stNil))
theorem ok134 : FnOK Try.prog 134 := FnOK.mk Try.func134 rfl rfl
theorem sz150 : tySize Try.prog 150 = some 2 := by rfl
theorem ag150 : tyAgg Try.prog 150 = some true := by rfl
theorem sz119 : tySize Try.prog 119 = some 1 := by rfl
theorem ag119 : tyAgg Try.prog 119 = some false := by rfl
theorem zr152 : tyZero Try.prog 152 = some (([.int .i64 0] ++ ([.int .i64 0] ++ ((List.replicate 4 (.int .u64 0)) ++ ([.bool false] ++ []))))) := by rfl
theorem lay152 : ∀ g, Sim g (.st [(1, (eI64 (0 : Int))), (1, (eI64 (0 : Int))), (4, (.ar 1 ((Vector.replicate 4 (0 : Int)).toList.map eU64))), (1, (eBool false))]) (([.int .i64 0] ++ ([.int .i64 0] ++ ((List.replicate 4 (.int .u64 0)) ++ ([.bool false] ++ []))))) := fun g => (Sim.stCons (lay_fl rfl) rfl (Sim.stCons (lay_fl rfl) rfl (Sim.stCons (lay_vec1 (lay_fl rfl)) rfl (Sim.stCons (lay_fl rfl) rfl Sim.stNil))))
theorem sz152 : tySize Try.prog 152 = some 7 := by rfl
theorem by152 : tyBytes Try.prog 152 = some 56 := by rfl
theorem ok120 : FnOK Try.prog 120 := FnOK.mk Try.func120 rfl rfl
theorem ok121 : FnOK Try.prog 121 := FnOK.mk Try.func121 rfl rfl
theorem by150 : tyBytes Try.prog 150 = some 16 := by rfl
theorem zr121 : tyZero Try.prog 121 = some (([.int .i64 0] ++ ([.slice none 0 0] ++ ([.int .i64 0] ++ ([.int .i64 0] ++ []))))) := by rfl
theorem lay121 : ∀ g, Sim g (.st [(1, (eI64 (0 : Int))), (1, (.fl (.slice none 0 0))), (1, (eI64 (0 : Int))), (1, (eI64 (0 : Int)))]) (([.int .i64 0] ++ ([.slice none 0 0] ++ ([.int .i64 0] ++ ([.int .i64 0] ++ []))))) := fun g => (Sim.stCons (lay_fl rfl) rfl (Sim.stCons (lay_fl rfl) rfl (Sim.stCons (lay_fl rfl) rfl (Sim.stCons (lay_fl rfl) rfl Sim.stNil))))
theorem ok93 : FnOK Try.prog 93 := FnOK.mk Try.func93 rfl rfl
theorem ag121 : tyAgg Try.prog 121 = some true := by rfl
theorem zr146 : tyZero Try.prog 146 = some ((([.int .i64 0] ++ ([.slice none 0 0] ++ ([.int .i64 0] ++ ([.int .i64 0] ++ [])))) ++ [])) := by rfl
theorem lay146 : ∀ g, Sim g (.st [(4, (.st [(1, (eI64 (0 : Int))), (1, (.fl (.slice none 0 0))), (1, (eI64 (0 : Int))), (1, (eI64 (0 : Int)))]))]) ((([.int .i64 0] ++ ([.slice none 0 0] ++ ([.int .i64 0] ++ ([.int .i64 0] ++ [])))) ++ [])) := fun g => (Sim.stCons (Sim.stCons (lay_fl rfl) rfl (Sim.stCons (lay_fl rfl) rfl (Sim.stCons (lay_fl rfl) rfl (Sim.stCons (lay_fl rfl) rfl Sim.stNil)))) rfl Sim.stNil)
theorem ok94 : FnOK Try.prog 94 := FnOK.mk Try.func94 rfl rfl
theorem ag152 : tyAgg Try.prog 152 = some true := by rfl
theorem by62 : tyBytes Try.prog 62 = some 32 := by rfl
theorem by5 : tyBytes Try.prog 5 = some 1 := by rfl
theorem ok125 : FnOK Try.prog 125 := FnOK.mk Try.func125 rfl rfl
theorem zr52 : tyZero Try.prog 52 = some ((List.replicate 256 (.int .u8 0))) := by rfl
theorem lay52 : ∀ g, Sim g (.ar 1 ((Vector.replicate 256 (0 : Int)).toList.map eU8)) ((List.replicate 256 (.int .u8 0))) := fun g => (lay_vec1 (lay_fl rfl))
theorem ok122 : FnOK Try.prog 122 := FnOK.mk Try.func122 rfl rfl
theorem zr3 : tyZero Try.prog 3 = some ([.int .i64 0]) := by rfl
theorem mz3 : ∀ g, ∃ zv, ((Try.prog.info? 3).bind (·.zero)) = some zv ∧ V1 g (eI64 (0 : Int)) zv := fun g => ⟨_, rfl, rfl⟩
theorem ag52 : tyAgg Try.prog 52 = some true := by rfl
theorem sz52 : tySize Try.prog 52 = some 256 := by rfl
theorem by4 : tyBytes Try.prog 4 = some 1 := by rfl
theorem zr4 : tyZero Try.prog 4 = some ([.bool false]) := by rfl
theorem lay4 : ∀ g, Sim g (eBool false) ([.bool false]) := fun g => (lay_fl rfl)
theorem sz35 : tySize Try.prog 35 = some 1 := by rfl
theorem ag35 : tyAgg Try.prog 35 = some false := by rfl
theorem ok135 : FnOK Try.prog 135 := FnOK.mk Try.func135 rfl rfl
theorem ok123 : FnOK Try.prog 123 := FnOK.mk Try.func123 rfl rfl
theorem sz109 : tySize Try.prog 109 = some 1 := by rfl
theorem ag109 : tyAgg Try.prog 109 = some false := by rfl
theorem sz107 : tySize Try.prog 107 = some 1 := by rfl
theorem ag107 : tyAgg Try.prog 107 = some false := by rfl
theorem sz98 : tySize Try.prog 98 = some 1 := by rfl
theorem zr98 : tyZero Try.prog 98 = some ([.slice none 0 0]) := by rfl
theorem lay98 : ∀ g, Sim g (.fl (.slice none 0 0)) ([.slice none 0 0]) := fun g => (lay_fl rfl)
theorem by98 : tyBytes Try.prog 98 = some 24 := by rfl
theorem sz55 : tySize Try.prog 55 = some 258 := by rfl
theorem ok124 : FnOK Try.prog 124 := FnOK.mk Try.func124 rfl rfl
theorem lay3 : ∀ g, Sim g (eI64 (0 : Int)) ([.int .i64 0]) := fun g => (lay_fl rfl)
theorem by3 : tyBytes Try.prog 3 = some 8 := by rfl
theorem zr55 : tyZero Try.prog 55 = some (((List.replicate 256 (.int .u8 0)) ++ ([.slice none 0 0] ++ ([.slice none 0 0] ++ [])))) := by rfl
theorem lay55 : ∀ g, Sim g (.st [(256, (.ar 1 ((Vector.replicate 256 (0 : Int)).toList.map eU8))), (1, (.fl (.slice none 0 0))), (1, (.fl (.slice none 0 0)))]) (((List.replicate 256 (.int .u8 0)) ++ ([.slice none 0 0] ++ ([.slice none 0 0] ++ [])))) := fun g => (Sim.stCons (lay_vec1 (lay_fl rfl)) rfl (Sim.stCons (lay_fl rfl) rfl (Sim.stCons (lay_fl rfl) rfl Sim.stNil)))
theorem ok95 : FnOK Try.prog 95 := FnOK.mk Try.func95 rfl rfl
theorem ag55 : tyAgg Try.prog 55 = some true := by rfl
theorem zr156 : tyZero Try.prog 156 = some ((([.int .i64 0] ++ ([.slice none 0 0] ++ ([.int .i64 0] ++ ([.int .i64 0] ++ [])))) ++ ([.slice none 0 0] ++ ([.slice none 0 0] ++ ([.map none] ++ ([.slice none 0 0] ++ (((List.replicate 256 (.int .u8 0)) ++ ([.slice none 0 0] ++ ([.slice none 0 0] ++ []))) ++ []))))))) := by rfl
theorem lay156 : ∀ g, Sim g (.st [(4, (.st [(1, (eI64 (0 : Int))), (1, (.fl (.slice none 0 0))), (1, (eI64 (0 : Int))), (1, (eI64 (0 : Int)))])), (1, (.fl (.slice none 0 0))), (1, (.fl (.slice none 0 0))), (1, (.fl (.map none))), (1, (.fl (.slice none 0 0))), (258, (.st [(256, (.ar 1 ((Vector.replicate 256 (0 : Int)).toList.map eU8))), (1, (.fl (.slice none 0 0))), (1, (.fl (.slice none 0 0)))]))]) ((([.int .i64 0] ++ ([.slice none 0 0] ++ ([.int .i64 0] ++ ([.int .i64 0] ++ [])))) ++ ([.slice none 0 0] ++ ([.slice none 0 0] ++ ([.map none] ++ ([.slice none 0 0] ++ (((List.replicate 256 (.int .u8 0)) ++ ([.slice none 0 0] ++ ([.slice none 0 0] ++ []))) ++ []))))))) := fun g => (Sim.stCons (Sim.stCons (lay_fl rfl) rfl (Sim.stCons (lay_fl rfl) rfl (Sim.stCons (lay_fl rfl) rfl (Sim.stCons (lay_fl rfl) rfl Sim.stNil)))) rfl (Sim.stCons (lay_fl rfl) rfl (Sim.stCons (lay_fl rfl) rfl (Sim.stCons (lay_fl rfl) rfl (Sim.stCons (lay_fl rfl) rfl (Sim.stCons (Sim.stCons (lay_vec1 (lay_fl rfl)) rfl (Sim.stCons (lay_fl rfl) rfl (Sim.stCons (lay_fl rfl) rfl Sim.stNil))) rfl Sim.stNil))))))
theorem ok97 : FnOK Try.prog 97 := FnOK.mk Try.func97 rfl rfl
theorem ok96 : FnOK Try.prog 96 := FnOK.mk Try.func96 rfl rfl
theorem sz102 : tySize Try.prog 102 = some 1 := by rfl
theorem ag102 : tyAgg Try.prog 102 = some false := by rfl
theorem ok99 : FnOK Try.prog 99 := FnOK.mk Try.func99 rfl rfl
theorem ok98 : FnOK Try.prog 98 := FnOK.mk Try.func98 rfl rfl
theorem ag98 : tyAgg Try.prog 98 = some false := by rfl
theorem ok100 : FnOK Try.prog 100 := FnOK.mk Try.func100 rfl rfl
theorem sz53 : tySize Try.prog 53 = some 1 := by rfl
theorem ag53 : tyAgg Try.prog 53 = some false := by rfl
theorem zr35 : tyZero Try.prog 35 = some ([.slice none 0 0]) := by rfl
theorem lay35 : ∀ g, Sim g (.fl (.slice none 0 0)) ([.slice none 0 0]) := fun g => (lay_fl rfl)
theorem by35 : tyBytes Try.prog 35 = some 24 := by rfl
theorem ok76 : FnOK Try.prog 76 := FnOK.mk Try.func76 rfl rfl
theorem ok73 : FnOK Try.prog 73 := FnOK.mk Try.func73 rfl rfl
theorem ok74 : FnOK Try.prog 74 := FnOK.mk Try.func74 rfl rfl
theorem ok77 : FnOK Try.prog 77 := FnOK.mk Try.func77 rfl rfl
theorem ok129 : FnOK Try.prog 129 := FnOK.mk Try.func129 rfl rfl
theorem ok113 : FnOK Try.prog 113 := FnOK.mk Try.func113 rfl rfl
theorem ok112 : FnOK Try.prog 112 := FnOK.mk Try.func112 rfl rfl
theorem ok69 : FnOK Try.prog 69 := FnOK.mk Try.func69 rfl rfl
theorem ok62 : FnOK Try.prog 62 := FnOK.mk Try.func62 rfl rfl
theorem ok89 : FnOK Try.prog 89 := FnOK.mk Try.func89 rfl rfl
theorem ag82 : tyAgg Try.prog 82 = some true := by rfl
theorem zr82 : tyZero Try.prog 82 = some (([.string ByteArray.empty] ++ ([.int .i64 0] ++ ([.string ByteArray.empty] ++ [])))) := by rfl
theorem lay82 : ∀ g, Sim g (.st [(1, (eStr ByteArray.empty)), (1, (eI64 (0 : Int))), (1, (eStr ByteArray.empty))]) (([.string ByteArray.empty] ++ ([.int .i64 0] ++ ([.string ByteArray.empty] ++ [])))) := fun g => (Sim.stCons (lay_fl rfl) rfl (Sim.stCons (lay_fl rfl) rfl (Sim.stCons (lay_fl rfl) rfl Sim.stNil)))
theorem ok67 : FnOK Try.prog 67 := FnOK.mk Try.func67 rfl rfl
theorem ok54 : FnOK Try.prog 54 := FnOK.mk Try.func54 rfl rfl
theorem zr32 : tyZero Try.prog 32 = some (([.int .i64 0] ++ ([.int .i64 0] ++ ([.int .i64 0] ++ [])))) := by rfl
theorem lay32 : ∀ g, Sim g (.st [(1, (eI64 (0 : Int))), (1, (eI64 (0 : Int))), (1, (eI64 (0 : Int)))]) (([.int .i64 0] ++ ([.int .i64 0] ++ ([.int .i64 0] ++ [])))) := fun g => (Sim.stCons (lay_fl rfl) rfl (Sim.stCons (lay_fl rfl) rfl (Sim.stCons (lay_fl rfl) rfl Sim.stNil)))
theorem sz32 : tySize Try.prog 32 = some 3 := by rfl
theorem ag32 : tyAgg Try.prog 32 = some true := by rfl
theorem ok70 : FnOK Try.prog 70 := FnOK.mk Try.func70 rfl rfl
theorem ok42 : FnOK Try.prog 42 := FnOK.mk Try.func42 rfl rfl
theorem eqk41 (x y : S41) : EqOK Try.prog 2 41 (e41 x) (e41 y) (decide (x = y)) := (EqOK.struct (bs := [decide (x.f0 = y.f0), decide (x.f1 = y.f1)]) Try.underlying41 (by decide +kernel) ⟨⟨rfl, (eBool x.f0), (eBool y.f0), (At.cast (At.fld0 At.here) rfl), (At.cast (At.fld0 At.here) rfl), ag4, ag4, sz4, sz4, (EqOK.bool Try.underlying4)⟩, ⟨rfl, (eI64 x.f1), (eI64 y.f1), (At.cast (At.fldS (At.fld0 At.here)) rfl), (At.cast (At.fldS (At.fld0 At.here)) rfl), ag3, ag3, sz3, sz3, (EqOK.int Try.underlying3)⟩, trivial⟩).of (by cases x; cases y; simp)
theorem eg41 : Try.prog.eqGuardType Try.prog.depth 41 = false := by decide +kernel
theorem ok16 : FnOK Try.prog 16 := FnOK.mk Try.func16 rfl rfl
theorem ok22 : FnOK Try.prog 22 := FnOK.mk Try.func22 rfl rfl
theorem sz25 : tySize Try.prog 25 = some 1 := by rfl
theorem ag25 : tyAgg Try.prog 25 = some false := by rfl
theorem sz86 : tySize Try.prog 86 = some 2 := by rfl
theorem ag86 : tyAgg Try.prog 86 = some true := by rfl
theorem zr86 : tyZero Try.prog 86 = some (([.int .i64 0] ++ ([.slice none 0 0] ++ []))) := by rfl
theorem lay86 : ∀ g, Sim g (.st [(1, (eI64 (0 : Int))), (1, (.fl (.slice none 0 0)))]) (([.int .i64 0] ++ ([.slice none 0 0] ++ []))) := fun g => (Sim.stCons (lay_fl rfl) rfl (Sim.stCons (lay_fl rfl) rfl Sim.stNil))
theorem ok39 : FnOK Try.prog 39 := FnOK.mk Try.func39 rfl rfl
theorem ok43 : FnOK Try.prog 43 := FnOK.mk Try.func43 rfl rfl
theorem sz30 : tySize Try.prog 30 = some 1 := by rfl
theorem ag30 : tyAgg Try.prog 30 = some false := by rfl
theorem ok44 : FnOK Try.prog 44 := FnOK.mk Try.func44 rfl rfl
theorem ok45 : FnOK Try.prog 45 := FnOK.mk Try.func45 rfl rfl
theorem zr9 : tyZero Try.prog 9 = some ([.string ByteArray.empty]) := by rfl
theorem lay9 : ∀ g, Sim g (eStr ByteArray.empty) ([.string ByteArray.empty]) := fun g => (lay_fl rfl)
theorem zr27 : tyZero Try.prog 27 = some (([.slice none 0 0] ++ ([.slice none 0 0] ++ ([.slice none 0 0] ++ ([.slice none 0 0] ++ ([.int .i64 0] ++ [])))))) := by rfl
theorem lay27 : ∀ g, Sim g (.st [(1, (.fl (.slice none 0 0))), (1, (.fl (.slice none 0 0))), (1, (.fl (.slice none 0 0))), (1, (.fl (.slice none 0 0))), (1, (eI64 (0 : Int)))]) (([.slice none 0 0] ++ ([.slice none 0 0] ++ ([.slice none 0 0] ++ ([.slice none 0 0] ++ ([.int .i64 0] ++ [])))))) := fun g => (Sim.stCons (lay_fl rfl) rfl (Sim.stCons (lay_fl rfl) rfl (Sim.stCons (lay_fl rfl) rfl (Sim.stCons (lay_fl rfl) rfl (Sim.stCons (lay_fl rfl) rfl Sim.stNil)))))
theorem ok21 : FnOK Try.prog 21 := FnOK.mk Try.func21 rfl rfl
theorem ok11 : FnOK Try.prog 11 := FnOK.mk Try.func11 rfl rfl
theorem eqk32 (x y : S32) : EqOK Try.prog 2 32 (e32 x) (e32 y) (decide (x = y)) := (EqOK.struct (bs := [decide (x.f0 = y.f0), decide (x.f1 = y.f1), decide (x.f2 = y.f2)]) Try.underlying32 (by decide +kernel) ⟨⟨rfl, (eI64 x.f0), (eI64 y.f0), (At.cast (At.fld0 At.here) rfl), (At.cast (At.fld0 At.here) rfl), ag30, ag30, sz30, sz30, (EqOK.int Try.underlying30)⟩, ⟨rfl, (eI64 x.f1), (eI64 y.f1), (At.cast (At.fldS (At.fld0 At.here)) rfl), (At.cast (At.fldS (At.fld0 At.here)) rfl), ag3, ag3, sz3, sz3, (EqOK.int Try.underlying3)⟩, ⟨rfl, (eI64 x.f2), (eI64 y.f2), (At.cast (At.fldS (At.fldS (At.fld0 At.here))) rfl), (At.cast (At.fldS (At.fldS (At.fld0 At.here))) rfl), ag3, ag3, sz3, sz3, (EqOK.int Try.underlying3)⟩, trivial⟩).of (by cases x; cases y; simp)
theorem eg32 : Try.prog.eqGuardType Try.prog.depth 32 = false := by decide +kernel
theorem ok38 : FnOK Try.prog 38 := FnOK.mk Try.func38 rfl rfl
theorem ok9 : FnOK Try.prog 9 := FnOK.mk Try.func9 rfl rfl
theorem ok10 : FnOK Try.prog 10 := FnOK.mk Try.func10 rfl rfl
theorem by9 : tyBytes Try.prog 9 = some 16 := by rfl
theorem by37 : tyBytes Try.prog 37 = some 88 := by rfl
theorem AO.mv {P : Program} {N : Nat} {ops : Array Oper} {o : Oper} {rest : List Oper} {K : Env → Heap → Prop} {ρ : Env} {H : Heap} {x : AV} {d : Nat} {y : Operand} (ho : o.op = .move y) (hy : Env.ev ρ y = some x) (h : AO P N ops rest K ((d, x) :: ρ) H) (hg : o.guard = none := by rfl) (hd : o.dst = some d := by rfl) (hN : d < N := by decide) : AO P N ops (o :: rest) K ρ H := AO.c (Calm.move ho hy) h hg hd hN
theorem AO.ag {P : Program} {N : Nat} {ops : Array Oper} {o : Oper} {rest : List Oper} {K : Env → Heap → Prop} {ρ : Env} {H : Heap} {x : AV} {d : Nat} {y : Operand} (ho : o.op = .assign y) (hy : Env.ev ρ y = some x) (h : AO P N ops rest K ((d, x) :: ρ) H) (hg : o.guard = none := by rfl) (hd : o.dst = some d := by rfl) (hN : d < N := by decide) : AO P N ops (o :: rest) K ρ H := AO.c (Calm.assign ho hy) h hg hd hN
end Go.Avl.T7
/- bosket/gram.Name; printed by avmain.py. -/
namespace Go.Avl.T7
open Go Go.RowKit Go.Proofs Go.Avl
set_option linter.unusedVariables false
set_option maxRecDepth 100000
set_option maxHeartbeats 4000000
attribute [local irreducible] AW AO AQ Spec SpecH Calm

def F18 (k : Nat) (p0 : S27) (p1 : S41) : Option ByteArray :=
  Option.bind (α := Bool) (if p1.f0 = true then if (0 : Int) ≤ p1.f1 then some (decide (p1.f1 < (p0.f1.length : Int)))
  else some (false)
  else some (false)) fun b5 =>
  if b5 = true then if 0 ≤ p1.f1 ∧ p1.f1 < (p0.f1.length : Int) then some ((lget p0.f1 p1.f1))
  else none
  else Option.bind (α := Bool) (if (!p1.f0) = true then if (0 : Int) ≤ p1.f1 then some (decide (p1.f1 < (p0.f0.length : Int)))
  else some (false)
  else some (false)) fun b11 =>
  if b11 = true then if 0 ≤ p1.f1 ∧ p1.f1 < (p0.f0.length : Int) then some ((lget p0.f0 p1.f1).f0)
  else none
  else some ((ByteArray.mk #[63]))
theorem F18_spec {k : Nat} {p0 : S27} {p1 : S41} {r : ByteArray} (h : F18 k p0 p1 = some r) : Spec Try.prog 18 [(e27 p0), (e41 p1)] (eStr r) := by
  rw [F18.eq_1] at h
  refine Spec.intro (res := [.tmp 4]) Try.func18 rfl rfl rfl (Nat.le_of_ble_eq_true rfl) ?_
  refine AW.sr ?_
  refine AO.box rfl 2 rfl (by decide) rfl rfl rfl fun n3 => ?_
  refine AO.box rfl 3 rfl (by decide) rfl rfl rfl fun n4 => ?_
  refine AO.ag rfl rfl ?_
  refine AO.nH [2, 3] (H' := [(n3, (.mem (e27 p0))), (n4, (.mem (e41 p1)))]) (Sub.cons 1 rfl (Sub.cons 0 rfl (Sub.nil _))) ?_
  refine AW.seq ?_
  refine AW.block ?_
  refine AW.seq ?_
  obtain ⟨b5, hq6, h⟩ := of_bind h
  refine AW.regM [(2, (.ptr n3 0)), (3, (.ptr n4 0)), (5, (eBool b5))] [(n3, (.mem (e27 p0))), (n4, (.mem (e41 p1)))] ?_ ?_
  ·refine AO.c (x := .ptr n4 0) (Calm.fldPtr rfl rfl Try.underlying41 rfl sz4 _ rfl) ?_
   refine AO.c (Calm.load 1 rfl rfl rfl (At.cast (At.fld0 At.here) rfl) ag4 sz4) ?_
   refine AO.mv rfl rfl ?_
   rcases of_ite hq6 with ⟨hc7, hq6⟩ | ⟨hc7, hq6⟩
   ·refine AO.cG (x := .ptr n4 1) rfl rfl (bD hc7) (Calm.fldPtr rfl rfl Try.underlying41 rfl sz3 _ rfl) ?_
    refine AO.cG rfl rfl (bD hc7) (Calm.load 1 rfl rfl rfl (At.cast (At.fldS (At.fld0 At.here)) rfl) ag3 sz3) ?_
    refine AO.cG (x := eBool (decide ((0 : Int) ≤ p1.f1))) rfl rfl (bD hc7) (Calm.int rfl rfl rfl rfl) ?_
    refine AO.c (Calm.pickT rfl (bD hc7) rfl) ?_
    refine AO.mv rfl rfl ?_
    rcases of_ite hq6 with ⟨hc8, hq6⟩ | ⟨hc8, hq6⟩
    ·refine AO.cG (x := .ptr n4 1) rfl rfl (bD (decide_eq_true hc8)) (Calm.fldPtr rfl rfl Try.underlying41 rfl sz3 _ rfl) ?_
     refine AO.cG rfl rfl (bD (decide_eq_true hc8)) (Calm.load 1 rfl rfl rfl (At.cast (At.fldS (At.fld0 At.here)) rfl) ag3 sz3) ?_
     refine AO.cG (x := .ptr n3 1) rfl rfl (bD (decide_eq_true hc8)) (Calm.fldPtr rfl rfl Try.underlying27 rfl sz23 _ rfl) ?_
     refine AO.cG rfl rfl (bD (decide_eq_true hc8)) (Calm.load 0 rfl rfl rfl (At.cast (At.fldS (At.fld0 At.here)) rfl) ag23 sz23) ?_
     refine AO.cG rfl rfl (bD (decide_eq_true hc8)) (Calm.lenL rfl rfl Try.underlying23) ?_
     refine AO.cG (x := eBool (decide (p1.f1 < (p0.f1.length : Int)))) rfl rfl (bD (decide_eq_true hc8)) (Calm.int rfl rfl rfl rfl) ?_
     refine AO.c (Calm.pickT rfl (bD (decide_eq_true hc8)) rfl) ?_
     refine AO.ag rfl rfl ?_
     cases hq6
     refine AO.nilE ⟨rfl, rfl⟩ ?_ ?_
     · exact ⟨rfl, rfl, rfl, trivial⟩
     · exact (Sub.refl _)
    ·refine AO.sT rfl rfl (bD (decide_eq_false hc8)) ?_
     refine AO.sT rfl rfl (bD (decide_eq_false hc8)) ?_
     refine AO.sT rfl rfl (bD (decide_eq_false hc8)) ?_
     refine AO.sT rfl rfl (bD (decide_eq_false hc8)) ?_
     refine AO.sT rfl rfl (bD (decide_eq_false hc8)) ?_
     refine AO.sT rfl rfl (bD (decide_eq_false hc8)) ?_
     refine AO.c (Calm.pickF rfl (bD (decide_eq_false hc8)) rfl) ?_
     refine AO.ag rfl rfl ?_
     cases hq6
     refine AO.nilE ⟨rfl, rfl⟩ ?_ ?_
     · exact ⟨rfl, rfl, rfl, trivial⟩
     · exact (Sub.refl _)
   ·refine AO.sT rfl rfl (bD (eq_false_of_ne_true hc7)) ?_
    refine AO.sT rfl rfl (bD (eq_false_of_ne_true hc7)) ?_
    refine AO.sT rfl rfl (bD (eq_false_of_ne_true hc7)) ?_
    refine AO.c (Calm.pickF rfl (bD (eq_false_of_ne_true hc7)) rfl) ?_
    refine AO.mv rfl rfl ?_
    refine AO.sT rfl rfl rfl ?_
    refine AO.sT rfl rfl rfl ?_
    refine AO.sT rfl rfl rfl ?_
    refine AO.sT rfl rfl rfl ?_
    refine AO.sT rfl rfl rfl ?_
    refine AO.sT rfl rfl rfl ?_
    refine AO.c (Calm.pickF rfl rfl rfl) ?_
    refine AO.ag rfl rfl ?_
    cases hq6
    refine AO.nilE ⟨rfl, rfl⟩ ?_ ?_
    · exact ⟨rfl, rfl, rfl, trivial⟩
    · exact (Sub.refl _)
  ·rcases of_ite h with ⟨hc9, h⟩ | ⟨hc9, h⟩
   ·refine AW.condT' _ rfl hc9 ?_
    refine AW.sr ?_
    refine AO.c (x := .ptr n3 1) (Calm.fldPtr rfl rfl Try.underlying27 rfl sz23 _ rfl) ?_
    refine AO.c (Calm.load 0 rfl rfl rfl (At.cast (At.fldS (At.fld0 At.here)) rfl) ag23 sz23) ?_
    refine AO.c (x := .ptr n4 1) (Calm.fldPtr rfl rfl Try.underlying41 rfl sz3 _ rfl) ?_
    refine AO.c (Calm.load 1 rfl rfl rfl (At.cast (At.fldS (At.fld0 At.here)) rfl) ag3 sz3) ?_
    obtain ⟨hg10, h⟩ := of_guard h
    refine AO.c (Calm.idxL (f := eStr) rfl rfl rfl hg10 Try.underlying23 sz9) ?_
    refine AO.c (Calm.loadRp rfl rfl ag9 sz9) ?_
    refine AO.ag rfl rfl ?_
    refine AO.nH [4] (H' := []) (Sub.nil _) ?_
    refine AW.rK [4] ?_
    have hr := Option.some.inj h
    subst hr
    exact ⟨[(eStr (lget p0.f1 p1.f1))], ⟨rfl, rfl, trivial⟩, rfl⟩
   ·refine AW.condF' _ rfl hc9 ?_
    refine AW.seq ?_
    obtain ⟨b11, hq12, h⟩ := of_bind h
    refine AW.regM [(2, (.ptr n3 0)), (3, (.ptr n4 0)), (27, (eBool b11))] [(n3, (.mem (e27 p0))), (n4, (.mem (e41 p1)))] ?_ ?_
    ·refine AO.c (x := .ptr n4 0) (Calm.fldPtr rfl rfl Try.underlying41 rfl sz4 _ rfl) ?_
     refine AO.c (Calm.load 1 rfl rfl rfl (At.cast (At.fld0 At.here) rfl) ag4 sz4) ?_
     refine AO.c (Calm.not rfl rfl) ?_
     refine AO.mv rfl rfl ?_
     rcases of_ite hq12 with ⟨hc13, hq12⟩ | ⟨hc13, hq12⟩
     ·refine AO.cG (x := .ptr n4 1) rfl rfl (bD hc13) (Calm.fldPtr rfl rfl Try.underlying41 rfl sz3 _ rfl) ?_
      refine AO.cG rfl rfl (bD hc13) (Calm.load 1 rfl rfl rfl (At.cast (At.fldS (At.fld0 At.here)) rfl) ag3 sz3) ?_
      refine AO.cG (x := eBool (decide ((0 : Int) ≤ p1.f1))) rfl rfl (bD hc13) (Calm.int rfl rfl rfl rfl) ?_
      refine AO.c (Calm.pickT rfl (bD hc13) rfl) ?_
      refine AO.mv rfl rfl ?_
      rcases of_ite hq12 with ⟨hc14, hq12⟩ | ⟨hc14, hq12⟩
      ·refine AO.cG (x := .ptr n4 1) rfl rfl (bD (decide_eq_true hc14)) (Calm.fldPtr rfl rfl Try.underlying41 rfl sz3 _ rfl) ?_
       refine AO.cG rfl rfl (bD (decide_eq_true hc14)) (Calm.load 1 rfl rfl rfl (At.cast (At.fldS (At.fld0 At.here)) rfl) ag3 sz3) ?_
       refine AO.cG (x := .ptr n3 0) rfl rfl (bD (decide_eq_true hc14)) (Calm.fldPtr rfl rfl Try.underlying27 rfl sz22 _ rfl) ?_
       refine AO.cG rfl rfl (bD (decide_eq_true hc14)) (Calm.load 0 rfl rfl rfl (At.cast (At.fld0 At.here) rfl) ag22 sz22) ?_
       refine AO.cG rfl rfl (bD (decide_eq_true hc14)) (Calm.lenL rfl rfl Try.underlying22) ?_
       refine AO.cG (x := eBool (decide (p1.f1 < (p0.f0.length : Int)))) rfl rfl (bD (decide_eq_true hc14)) (Calm.int rfl rfl rfl rfl) ?_
       refine AO.c (Calm.pickT rfl (bD (decide_eq_true hc14)) rfl) ?_
       refine AO.ag rfl rfl ?_
       cases hq12
       refine AO.nilE ⟨rfl, rfl⟩ ?_ ?_
       · exact ⟨rfl, rfl, rfl, trivial⟩
       · exact (Sub.refl _)
      ·refine AO.sT rfl rfl (bD (decide_eq_false hc14)) ?_
       refine AO.sT rfl rfl (bD (decide_eq_false hc14)) ?_
       refine AO.sT rfl rfl (bD (decide_eq_false hc14)) ?_
       refine AO.sT rfl rfl (bD (decide_eq_false hc14)) ?_
       refine AO.sT rfl rfl (bD (decide_eq_false hc14)) ?_
       refine AO.sT rfl rfl (bD (decide_eq_false hc14)) ?_
       refine AO.c (Calm.pickF rfl (bD (decide_eq_false hc14)) rfl) ?_
       refine AO.ag rfl rfl ?_
       cases hq12
       refine AO.nilE ⟨rfl, rfl⟩ ?_ ?_
       · exact ⟨rfl, rfl, rfl, trivial⟩
       · exact (Sub.refl _)
     ·refine AO.sT rfl rfl (bD (eq_false_of_ne_true hc13)) ?_
      refine AO.sT rfl rfl (bD (eq_false_of_ne_true hc13)) ?_
      refine AO.sT rfl rfl (bD (eq_false_of_ne_true hc13)) ?_
      refine AO.c (Calm.pickF rfl (bD (eq_false_of_ne_true hc13)) rfl) ?_
      refine AO.mv rfl rfl ?_
      refine AO.sT rfl rfl rfl ?_
      refine AO.sT rfl rfl rfl ?_
      refine AO.sT rfl rfl rfl ?_
      refine AO.sT rfl rfl rfl ?_
      refine AO.sT rfl rfl rfl ?_
      refine AO.sT rfl rfl rfl ?_
      refine AO.c (Calm.pickF rfl rfl rfl) ?_
      refine AO.ag rfl rfl ?_
      cases hq12
      refine AO.nilE ⟨rfl, rfl⟩ ?_ ?_
      · exact ⟨rfl, rfl, rfl, trivial⟩
      · exact (Sub.refl _)
    ·rcases of_ite h with ⟨hc15, h⟩ | ⟨hc15, h⟩
     ·refine AW.condT' _ rfl hc15 ?_
      refine AW.sr ?_
      refine AO.c (x := .ptr n3 0) (Calm.fldPtr rfl rfl Try.underlying27 rfl sz22 _ rfl) ?_
      refine AO.c (Calm.load 0 rfl rfl rfl (At.cast (At.fld0 At.here) rfl) ag22 sz22) ?_
      refine AO.c (x := .ptr n4 1) (Calm.fldPtr rfl rfl Try.underlying41 rfl sz3 _ rfl) ?_
      refine AO.c (Calm.load 1 rfl rfl rfl (At.cast (At.fldS (At.fld0 At.here)) rfl) ag3 sz3) ?_
      obtain ⟨hg16, h⟩ := of_guard h
      refine AO.c (Calm.idxL (f := e82) rfl rfl rfl hg16 Try.underlying22 sz82) ?_
      refine AO.c (Calm.fldRp rfl rfl Try.underlying82 rfl sz9 (At.cast (At.fld0 At.here) rfl)) ?_
      refine AO.c (Calm.loadRp rfl rfl ag9 sz9) ?_
      refine AO.ag rfl rfl ?_
      refine AO.nH [4] (H' := []) (Sub.nil _) ?_
      refine AW.rK [4] ?_
      have hr := Option.some.inj h
      subst hr
      exact ⟨[(eStr ((lget p0.f0 p1.f1).f0))], ⟨rfl, rfl, trivial⟩, rfl⟩
     ·refine AW.condF' _ rfl hc15 ?_
      refine AW.sH [] (H' := []) (Sub.nil _) ?_
      refine AW.sr ?_
      refine AO.ag rfl rfl ?_
      refine AO.nK [4] ?_
      refine AW.rK [4] ?_
      have hr := Option.some.inj h
      subst hr
      exact ⟨[(eStr (ByteArray.mk #[63]))], ⟨rfl, rfl, trivial⟩, rfl⟩
end Go.Avl.T7
/- bosket/gram.Line; printed by avmain.py. -/
namespace Go.Avl.T7
open Go Go.RowKit Go.Proofs Go.Avl
set_option linter.unusedVariables false
set_option maxRecDepth 100000
set_option maxHeartbeats 4000000
attribute [local irreducible] AW AO AQ Spec SpecH Calm

def F21_c0 (k : Nat) (x14 : ByteArray) : Option ByteArray :=
  some (x14)
def F21_l1 (k : Nat) (p0 : S27) (p1 : Int) : Nat → ByteArray → Int → Option ByteArray
  | 0, _, _ => none
  | j + 1, x15, x16 =>
    if x16 < (((lget p0.f2 p1).f2).length : Int) then if 0 ≤ x16 ∧ x16 < (((lget p0.f2 p1).f2).length : Int) then (F18 k p0 (lget ((lget p0.f2 p1).f2) x16)).bind fun t22 =>
    if (ByteArray.mk #[32]).size + t22.size ≤ 9223372036854775807 then if x15.size + ((ByteArray.mk #[32]) ++ t22).size ≤ 9223372036854775807 then (F21_l1 k p0 p1 j) (x15 ++ ((ByteArray.mk #[32]) ++ t22)) (w64 (x16 + (1 : Int)))
    else none
    else none
    else none
    else F21_c0 k x15
def F21 (k : Nat) (p0 : S27) (p1 : Int) : Option ByteArray :=
  Option.bind (α := Bool) (if p1 < (0 : Int) then some (true)
  else some (decide ((p0.f2.length : Int) ≤ p1))) fun b4 =>
  if b4 = true then some ((ByteArray.mk #[]))
  else if 0 ≤ p1 ∧ p1 < (p0.f2.length : Int) then (F18 k p0 (S41.mk true ((lget p0.f2 p1).f0))).bind fun t10 =>
  if t10.size + (ByteArray.mk #[46]).size ≤ 9223372036854775807 then if (t10 ++ (ByteArray.mk #[46])).size + ((lget p0.f2 p1).f1).size ≤ 9223372036854775807 then if ((t10 ++ (ByteArray.mk #[46])) ++ ((lget p0.f2 p1).f1)).size + (ByteArray.mk #[32, 61]).size ≤ 9223372036854775807 then F21_l1 k p0 p1 k (((t10 ++ (ByteArray.mk #[46])) ++ ((lget p0.f2 p1).f1)) ++ (ByteArray.mk #[32, 61])) (0 : Int)
  else none
  else none
  else none
  else none
theorem F21_spec {k : Nat} {p0 : S27} {p1 : Int} {r : ByteArray} (h : F21 k p0 p1 = some r) : Spec Try.prog 21 [(e27 p0), (eI64 p1)] (eStr r) := by
  rw [F21.eq_1] at h
  refine Spec.intro (res := [.tmp 4]) Try.func21 rfl rfl rfl (Nat.le_of_ble_eq_true rfl) ?_
  refine AW.sr ?_
  refine AO.box rfl 2 rfl (by decide) rfl rfl rfl fun n3 => ?_
  refine AO.ag rfl rfl ?_
  refine AO.nK [1, 2] ?_
  refine AW.seq ?_
  refine AW.seq ?_
  obtain ⟨b4, hq5, h⟩ := of_bind h
  refine AW.regM [(1, (eI64 p1)), (2, (.ptr n3 0)), (17, (eBool b4))] [(n3, (.mem (e27 p0)))] ?_ ?_
  ·refine AO.mv rfl rfl ?_
   refine AO.c (x := eBool (decide (p1 < (0 : Int)))) (Calm.int rfl rfl rfl rfl) ?_
   refine AO.mv rfl rfl ?_
   rcases of_ite hq5 with ⟨hc6, hq5⟩ | ⟨hc6, hq5⟩
   ·refine AO.sF rfl rfl (bD (decide_eq_true hc6)) ?_
    refine AO.sF rfl rfl (bD (decide_eq_true hc6)) ?_
    refine AO.sF rfl rfl (bD (decide_eq_true hc6)) ?_
    refine AO.sF rfl rfl (bD (decide_eq_true hc6)) ?_
    refine AO.sF rfl rfl (bD (decide_eq_true hc6)) ?_
    refine AO.c (Calm.pickT rfl (bD (decide_eq_true hc6)) rfl) ?_
    cases hq5
    refine AO.nilE ⟨rfl, rfl⟩ ?_ ?_
    · exact ⟨rfl, rfl, rfl, trivial⟩
    · exact (Sub.refl _)
   ·refine AO.cG rfl rfl (bD (decide_eq_false hc6)) (Calm.move rfl rfl) ?_
    refine AO.cG (x := .ptr n3 2) rfl rfl (bD (decide_eq_false hc6)) (Calm.fldPtr rfl rfl Try.underlying27 rfl sz24 _ rfl) ?_
    refine AO.cG rfl rfl (bD (decide_eq_false hc6)) (Calm.load 0 rfl rfl rfl (At.cast (At.fldS (At.fldS (At.fld0 At.here))) rfl) ag24 sz24) ?_
    refine AO.cG rfl rfl (bD (decide_eq_false hc6)) (Calm.lenL rfl rfl Try.underlying24) ?_
    refine AO.cG (x := eBool (decide ((p0.f2.length : Int) ≤ p1))) rfl rfl (bD (decide_eq_false hc6)) (Calm.int rfl rfl rfl rfl) ?_
    refine AO.c (Calm.pickF rfl (bD (decide_eq_false hc6)) rfl) ?_
    cases hq5
    refine AO.nilE ⟨rfl, rfl⟩ ?_ ?_
    · exact ⟨rfl, rfl, rfl, trivial⟩
    · exact (Sub.refl _)
  ·rcases of_ite h with ⟨hc7, h⟩ | ⟨hc7, h⟩
   ·refine AW.condT' _ rfl hc7 ?_
    refine AW.sr ?_
    refine AO.ag rfl rfl ?_
    refine AO.nH [4] (H' := []) (Sub.nil _) ?_
    refine AW.rK [4] ?_
    have hr := Option.some.inj h
    subst hr
    exact ⟨[(eStr (ByteArray.mk #[]))], ⟨rfl, rfl, trivial⟩, rfl⟩
   ·refine AW.condF' _ rfl hc7 ?_
    refine AW.sK [1, 2] ?_
    refine AW.sr ?_
    refine AO.c (x := .ptr n3 2) (Calm.fldPtr rfl rfl Try.underlying27 rfl sz24 _ rfl) ?_
    refine AO.c (Calm.load 0 rfl rfl rfl (At.cast (At.fldS (At.fldS (At.fld0 At.here))) rfl) ag24 sz24) ?_
    refine AO.mv rfl rfl ?_
    obtain ⟨hg8, h⟩ := of_guard h
    refine AO.c (Calm.idxL (f := e37) rfl rfl rfl hg8 Try.underlying24 sz37) ?_
    refine AO.c (Calm.loadRp rfl rfl ag37 sz37) ?_
    refine AO.alloc rfl 5 rfl (by decide) rfl zr37 lay37 fun n9 => ?_
    refine AO.store (X' := (e37 (lget p0.f2 p1))) 0 rfl rfl rfl rfl rfl rfl (Put.cast Put.here rfl) rfl rfl sz37 rfl ?_
    refine AO.nH [2, 5] (H' := [(n3, (.mem (e27 p0))), (n9, (.mem (e37 (lget p0.f2 p1))))]) (Sub.cons 1 rfl (Sub.cons 0 rfl (Sub.nil _))) ?_
    refine AW.seq ?_
    refine AW.regQ (by rfl) (by decide +kernel) ?_
    refine AQ.c (Calm.load 0 rfl rfl rfl (At.cast At.here rfl) ag27 sz27) ?_
    refine AQ.c (x := .ptr n9 0) (Calm.fldPtr rfl rfl Try.underlying37 rfl sz3 _ rfl) ?_
    refine AQ.c (Calm.load 1 rfl rfl rfl (At.cast (At.fld0 At.here) rfl) ag3 sz3) ?_
    refine AQ.c (x := .st [(1, (eBool true)), (1, (eI64 ((lget p0.f2 p1).f0)))]) (Calm.build (qs := [(0, (eBool true)), (1, (eI64 ((lget p0.f2 p1).f0)))]) rfl ⟨rfl, rfl, rfl, rfl, rfl, rfl, trivial⟩ Try.underlying41 rfl zr41 lay41 (.cons rfl rfl rfl rfl (Put.cast (Put.fld0 Put.here) rfl) (.cons rfl rfl rfl rfl (Put.cast (Put.fldS (Put.fld0 Put.here)) rfl) .nil)) rfl) ?_
    obtain ⟨t10, et10, h⟩ := of_bind h
    refine AQ.c (Calm.call (args := [(e27 p0), (e41 (S41.mk true ((lget p0.f2 p1).f0)))]) rfl rfl ok18 ⟨rfl, rfl, rfl, rfl, trivial⟩ rfl (F18_spec et10)) ?_
    obtain ⟨hg11, h⟩ := of_guard h
    refine AQ.c (x := eStr (t10 ++ (ByteArray.mk #[46]))) (Calm.cat rfl rfl rfl hg11) ?_
    refine AQ.c (x := .ptr n9 1) (Calm.fldPtr rfl rfl Try.underlying37 rfl sz9 _ rfl) ?_
    refine AQ.c (Calm.load 1 rfl rfl rfl (At.cast (At.fldS (At.fld0 At.here)) rfl) ag9 sz9) ?_
    obtain ⟨hg12, h⟩ := of_guard h
    refine AQ.c (x := eStr ((t10 ++ (ByteArray.mk #[46])) ++ ((lget p0.f2 p1).f1))) (Calm.cat rfl rfl rfl hg12) ?_
    obtain ⟨hg13, h⟩ := of_guard h
    refine AQ.c (x := eStr (((t10 ++ (ByteArray.mk #[46])) ++ ((lget p0.f2 p1).f1)) ++ (ByteArray.mk #[32, 61]))) (Calm.cat rfl rfl rfl hg13) ?_
    refine AQ.c (Calm.assign rfl rfl) ?_
    refine AQ.nK [2, 5, 6] ?_
    refine AW.seq_mid (fun ρ H => ∃ (x14 : ByteArray), ρ = [(6, (eStr x14))] ∧ H = [] ∧ F21_c0 k x14 = some r) ?_ ?_
    ·refine AW.sr ?_
     refine AO.c (x := .ptr n9 2) (Calm.fldPtr rfl rfl Try.underlying37 rfl sz34 _ rfl) ?_
     refine AO.c (Calm.load 1 rfl rfl rfl (At.cast (At.fldS (At.fldS (At.fld0 At.here))) rfl) ag34 sz34) ?_
     refine AO.c (Calm.lenL rfl rfl Try.underlying34) ?_
     refine AO.mv rfl rfl ?_
     refine AO.nH [2, 6, 34, 35, 36] (H' := [(n3, (.mem (e27 p0)))]) (Sub.cons 0 rfl (Sub.nil _)) ?_
     refine AW.block ?_
     refine AW.wK [2, 6, 34, 35, 36] ?_
     refine AW.loop (fun kq ρ H => ∃ (x15 : ByteArray) (x16 : Int), ρ = [(2, (.ptr n3 0)), (6, (eStr x15)), (34, (.fz 2 (((lget p0.f2 p1).f2).map e41))), (35, (eI64 (((lget p0.f2 p1).f2).length : Int))), (36, (eI64 x16))] ∧ H = [(n3, (.mem (e27 p0)))] ∧ F21_l1 k p0 p1 kq x15 x16 = some r) k ⟨(((t10 ++ (ByteArray.mk #[46])) ++ ((lget p0.f2 p1).f1)) ++ (ByteArray.mk #[32, 61])), (0 : Int), rfl, rfl, h⟩ ?_
     rintro kq18 _ _ ⟨x15, x16, rfl, rfl, h⟩
     cases kq18 with
     | zero => rw [F21_l1.eq_1] at h; cases h
     | succ kq18 =>
     rw [F21_l1.eq_2] at h
     generalize hrec17 : F21_l1 k p0 p1 kq18 = rec17 at h
     refine AW.sr ?_
     refine AO.c (x := eBool (decide (x16 < (((lget p0.f2 p1).f2).length : Int)))) (Calm.int rfl rfl rfl rfl) ?_
     refine AO.nK [2, 6, 34, 35, 36, 37] ?_
     refine AW.seq ?_
     rcases of_ite h with ⟨hc19, h⟩ | ⟨hc19, h⟩
     ·refine AW.condP _ rfl hc19 ?_
      refine AW.sK [2, 6, 34, 35, 36] ?_
      refine AW.seq ?_
      refine AW.block ?_
      refine AW.sr ?_
      obtain ⟨hg20, h⟩ := of_guard h
      refine AO.c (Calm.idxL (f := e41) rfl rfl rfl hg20 Try.underlying34 sz41) ?_
      refine AO.c (Calm.loadRp rfl rfl ag41 sz41) ?_
      refine AO.alloc rfl 8 rfl (by decide) rfl zr41 lay41 fun n21 => ?_
      refine AO.store (X' := (e41 (lget ((lget p0.f2 p1).f2) x16))) 0 rfl rfl rfl rfl rfl rfl (Put.cast Put.here rfl) rfl rfl sz41 rfl ?_
      refine AO.nH [2, 6, 8, 34, 35, 36] (H' := [(n3, (.mem (e27 p0))), (n21, (.mem (e41 (lget ((lget p0.f2 p1).f2) x16))))]) (Sub.cons 1 rfl (Sub.cons 0 rfl (Sub.nil _))) ?_
      refine AW.reg ?_
      refine AO.mv rfl rfl ?_
      refine AO.c (Calm.load 0 rfl rfl rfl (At.cast At.here rfl) ag27 sz27) ?_
      refine AO.c (Calm.load 1 rfl rfl rfl (At.cast At.here rfl) ag41 sz41) ?_
      obtain ⟨t22, et22, h⟩ := of_bind h
      refine AO.callS [(e27 p0), (e41 (lget ((lget p0.f2 p1).f2) x16))] (eStr t22) 43 rfl (by decide) ok18 rfl rfl rfl ⟨rfl, rfl, rfl, rfl, trivial⟩ (F18_spec et22) ?_
      obtain ⟨hg23, h⟩ := of_guard h
      refine AO.c (x := eStr ((ByteArray.mk #[32]) ++ t22)) (Calm.cat rfl rfl rfl hg23) ?_
      obtain ⟨hg24, h⟩ := of_guard h
      refine AO.c (x := eStr (x15 ++ ((ByteArray.mk #[32]) ++ t22))) (Calm.cat rfl rfl rfl hg24) ?_
      refine AO.ag rfl rfl ?_
      refine AO.nH [2, 6, 34, 35, 36] (H' := [(n3, (.mem (e27 p0)))]) (Sub.cons 0 rfl (Sub.nil _)) ?_
      refine AW.reg ?_
      refine AO.c (x := eI64 (w64 (x16 + (1 : Int)))) (Calm.int rfl rfl rfl rfl) ?_
      refine AO.mv rfl rfl ?_
      refine AO.nK [2, 6, 34, 35, 36] ?_
      exact ⟨kq18, Nat.lt_succ_self _, (x15 ++ ((ByteArray.mk #[32]) ++ t22)), (w64 (x16 + (1 : Int))), rfl, rfl, by rw [hrec17]; exact h⟩
     ·refine AW.condN _ rfl hc19 ?_
      refine AW.eH [6] (H' := []) (Sub.nil _) ?_
      exact ⟨x15, rfl, rfl, h⟩
    ·rintro _ _ ⟨x14, rfl, rfl, h⟩
     rw [F21_c0.eq_1] at h
     refine AW.sr ?_
     refine AO.mv rfl rfl ?_
     refine AO.ag rfl rfl ?_
     refine AO.nK [4] ?_
     refine AW.rK [4] ?_
     have hr := Option.some.inj h
     subst hr
     exact ⟨[(eStr x14)], ⟨rfl, rfl, trivial⟩, rfl⟩
end Go.Avl.T7
/- bosket/escape.Class; printed by avmain.py. -/
namespace Go.Avl.T7
open Go Go.RowKit Go.Proofs Go.Avl
set_option linter.unusedVariables false
set_option maxRecDepth 100000
set_option maxHeartbeats 4000000
attribute [local irreducible] AW AO AQ Spec SpecH Calm

def F91_c0 (k : Nat) : Option Int :=
  some ((0 : Int))
def F91_c1 (k : Nat) : Option Int :=
  some ((4 : Int))
def F91_c2 (k : Nat) : Option Int :=
  some ((3 : Int))
def F91_c3 (k : Nat) : Option Int :=
  some ((2 : Int))
def F91_c4 (k : Nat) : Option Int :=
  some ((1 : Int))
def F91_c5 (k : Nat) (p0 : Int) (b2 : Bool) : Option Int :=
  if b2 = true then F91_c4 k
  else Option.bind (α := Bool) (if (48 : Int) ≤ p0 then some (decide (p0 ≤ (57 : Int)))
  else some (false)) fun b4 =>
  if b4 = true then F91_c3 k
  else Option.bind (α := Bool) (if (97 : Int) ≤ p0 then some (decide (p0 ≤ (122 : Int)))
  else some (false)) fun b8 =>
  if b8 = true then F91_c2 k
  else Option.bind (α := Bool) (if (65 : Int) ≤ p0 then some (decide (p0 ≤ (90 : Int)))
  else some (false)) fun b12 =>
  if b12 = true then F91_c2 k
  else if p0 = (95 : Int) then F91_c2 k
  else Option.bind (α := Bool) (if (32 : Int) < p0 then some (decide (p0 ≤ (126 : Int)))
  else some (false)) fun b17 =>
  if b17 = true then F91_c1 k
  else F91_c0 k
def F91 (k : Nat) (p0 : Int) : Option Int :=
  if p0 = (32 : Int) then F91_c5 k p0 (decide (p0 = (32 : Int)))
  else if p0 = (9 : Int) then F91_c5 k p0 (decide (p0 = (9 : Int)))
  else if p0 = (10 : Int) then F91_c5 k p0 (decide (p0 = (10 : Int)))
  else F91_c5 k p0 (decide (p0 = (13 : Int)))
theorem F91_spec {k : Nat} {p0 : Int} {r : Int} (h : F91 k p0 = some r) : Spec Try.prog 91 [(eU8 p0)] (eI64 r) := by
  rw [F91.eq_1] at h
  refine Spec.intro (res := [.tmp 2]) Try.func91 rfl rfl rfl (Nat.le_of_ble_eq_true rfl) ?_
  refine AW.sr ?_
  refine AO.ag rfl rfl ?_
  refine AO.nK [0] ?_
  refine AW.seq_mid (fun ρ H => ρ = [] ∧ H = [] ∧ F91_c0 k = some r) ?_ ?_
  ·refine AW.block ?_
   refine AW.seq_mid (fun ρ H => ρ = [] ∧ H = [] ∧ F91_c1 k = some r) ?_ ?_
   ·refine AW.block ?_
    refine AW.seq_mid (fun ρ H => ρ = [] ∧ H = [] ∧ F91_c2 k = some r) ?_ ?_
    ·refine AW.block ?_
     refine AW.block ?_
     refine AW.block ?_
     refine AW.seq_mid (fun ρ H => ρ = [] ∧ H = [] ∧ F91_c3 k = some r) ?_ ?_
     ·refine AW.block ?_
      refine AW.seq_mid (fun ρ H => ρ = [] ∧ H = [] ∧ F91_c4 k = some r) ?_ ?_
      ·refine AW.block ?_
       refine AW.seq ?_
       refine AW.seq ?_
       refine AW.seq_mid (fun ρ H => ∃ (b2 : Bool), ρ = [(0, (eU8 p0)), (3, (eBool b2))] ∧ H = [] ∧ F91_c5 k p0 b2 = some r) ?_ ?_
       ·refine AW.sr ?_
        refine AO.mv rfl rfl ?_
        refine AO.c (x := eBool (decide (p0 = (32 : Int)))) (Calm.int rfl rfl rfl rfl) ?_
        refine AO.ag rfl rfl ?_
        refine AO.nK [0, 3] ?_
        rcases of_ite h with ⟨hc21, h⟩ | ⟨hc21, h⟩
        ·refine AW.condP _ rfl hc21 ?_
         refine AW.sK [0, 3] ?_
         exact ⟨decide (p0 = (32 : Int)), rfl, rfl, h⟩
        ·refine AW.condN _ rfl hc21 ?_
         refine AW.sr ?_
         refine AO.mv rfl rfl ?_
         refine AO.c (x := eBool (decide (p0 = (9 : Int)))) (Calm.int rfl rfl rfl rfl) ?_
         refine AO.ag rfl rfl ?_
         refine AO.nK [0, 3] ?_
         rcases of_ite h with ⟨hc22, h⟩ | ⟨hc22, h⟩
         ·refine AW.condP _ rfl hc22 ?_
          refine AW.sK [0, 3] ?_
          exact ⟨decide (p0 = (9 : Int)), rfl, rfl, h⟩
         ·refine AW.condN _ rfl hc22 ?_
          refine AW.sr ?_
          refine AO.mv rfl rfl ?_
          refine AO.c (x := eBool (decide (p0 = (10 : Int)))) (Calm.int rfl rfl rfl rfl) ?_
          refine AO.ag rfl rfl ?_
          refine AO.nK [0, 3] ?_
          rcases of_ite h with ⟨hc23, h⟩ | ⟨hc23, h⟩
          ·refine AW.condP _ rfl hc23 ?_
           refine AW.sK [0, 3] ?_
           exact ⟨decide (p0 = (10 : Int)), rfl, rfl, h⟩
          ·refine AW.condN _ rfl hc23 ?_
           refine AW.reg ?_
           refine AO.mv rfl rfl ?_
           refine AO.c (x := eBool (decide (p0 = (13 : Int)))) (Calm.int rfl rfl rfl rfl) ?_
           refine AO.ag rfl rfl ?_
           refine AO.nK [0, 3] ?_
           exact ⟨decide (p0 = (13 : Int)), rfl, rfl, h⟩
       ·rintro _ _ ⟨b2, rfl, rfl, h⟩
        rw [F91_c5.eq_1] at h
        rcases of_ite h with ⟨hc3, h⟩ | ⟨hc3, h⟩
        ·refine AW.condT' _ rfl hc3 ?_
         refine AW.eK [] ?_
         exact ⟨rfl, rfl, h⟩
        ·refine AW.condF' _ rfl hc3 ?_
         refine AW.sK [0] ?_
         refine AW.seq ?_
         refine AW.seq ?_
         obtain ⟨b4, hq5, h⟩ := of_bind h
         refine AW.regM [(0, (eU8 p0)), (12, (eBool b4))] [] ?_ ?_
         ·refine AO.mv rfl rfl ?_
          refine AO.c (x := eBool (decide ((48 : Int) ≤ p0))) (Calm.int rfl rfl rfl rfl) ?_
          refine AO.mv rfl rfl ?_
          rcases of_ite hq5 with ⟨hc6, hq5⟩ | ⟨hc6, hq5⟩
          ·refine AO.cG rfl rfl (bD (decide_eq_true hc6)) (Calm.move rfl rfl) ?_
           refine AO.cG (x := eBool (decide (p0 ≤ (57 : Int)))) rfl rfl (bD (decide_eq_true hc6)) (Calm.int rfl rfl rfl rfl) ?_
           refine AO.c (Calm.pickT rfl (bD (decide_eq_true hc6)) rfl) ?_
           refine AO.ag rfl rfl ?_
           cases hq5
           refine AO.nilE ⟨rfl, rfl⟩ ?_ ?_
           · exact ⟨rfl, rfl, trivial⟩
           · exact (Sub.refl _)
          ·refine AO.sT rfl rfl (bD (decide_eq_false hc6)) ?_
           refine AO.sT rfl rfl (bD (decide_eq_false hc6)) ?_
           refine AO.c (Calm.pickF rfl (bD (decide_eq_false hc6)) rfl) ?_
           refine AO.ag rfl rfl ?_
           cases hq5
           refine AO.nilE ⟨rfl, rfl⟩ ?_ ?_
           · exact ⟨rfl, rfl, trivial⟩
           · exact (Sub.refl _)
         ·rcases of_ite h with ⟨hc7, h⟩ | ⟨hc7, h⟩
          ·refine AW.condT' _ rfl hc7 ?_
           refine AW.eK [] ?_
           exact ⟨rfl, rfl, h⟩
          ·refine AW.condF' _ rfl hc7 ?_
           refine AW.sK [0] ?_
           refine AW.seq ?_
           refine AW.seq ?_
           obtain ⟨b8, hq9, h⟩ := of_bind h
           refine AW.regM [(0, (eU8 p0)), (19, (eBool b8))] [] ?_ ?_
           ·refine AO.mv rfl rfl ?_
            refine AO.c (x := eBool (decide ((97 : Int) ≤ p0))) (Calm.int rfl rfl rfl rfl) ?_
            refine AO.mv rfl rfl ?_
            rcases of_ite hq9 with ⟨hc10, hq9⟩ | ⟨hc10, hq9⟩
            ·refine AO.cG rfl rfl (bD (decide_eq_true hc10)) (Calm.move rfl rfl) ?_
             refine AO.cG (x := eBool (decide (p0 ≤ (122 : Int)))) rfl rfl (bD (decide_eq_true hc10)) (Calm.int rfl rfl rfl rfl) ?_
             refine AO.c (Calm.pickT rfl (bD (decide_eq_true hc10)) rfl) ?_
             refine AO.ag rfl rfl ?_
             cases hq9
             refine AO.nilE ⟨rfl, rfl⟩ ?_ ?_
             · exact ⟨rfl, rfl, trivial⟩
             · exact (Sub.refl _)
            ·refine AO.sT rfl rfl (bD (decide_eq_false hc10)) ?_
             refine AO.sT rfl rfl (bD (decide_eq_false hc10)) ?_
             refine AO.c (Calm.pickF rfl (bD (decide_eq_false hc10)) rfl) ?_
             refine AO.ag rfl rfl ?_
             cases hq9
             refine AO.nilE ⟨rfl, rfl⟩ ?_ ?_
             · exact ⟨rfl, rfl, trivial⟩
             · exact (Sub.refl _)
           ·rcases of_ite h with ⟨hc11, h⟩ | ⟨hc11, h⟩
            ·refine AW.condT' _ rfl hc11 ?_
             refine AW.eK [] ?_
             exact ⟨rfl, rfl, h⟩
            ·refine AW.condF' _ rfl hc11 ?_
             refine AW.sK [0] ?_
             refine AW.seq ?_
             refine AW.seq ?_
             obtain ⟨b12, hq13, h⟩ := of_bind h
             refine AW.regM [(0, (eU8 p0)), (26, (eBool b12))] [] ?_ ?_
             ·refine AO.mv rfl rfl ?_
              refine AO.c (x := eBool (decide ((65 : Int) ≤ p0))) (Calm.int rfl rfl rfl rfl) ?_
              refine AO.mv rfl rfl ?_
              rcases of_ite hq13 with ⟨hc14, hq13⟩ | ⟨hc14, hq13⟩
              ·refine AO.cG rfl rfl (bD (decide_eq_true hc14)) (Calm.move rfl rfl) ?_
               refine AO.cG (x := eBool (decide (p0 ≤ (90 : Int)))) rfl rfl (bD (decide_eq_true hc14)) (Calm.int rfl rfl rfl rfl) ?_
               refine AO.c (Calm.pickT rfl (bD (decide_eq_true hc14)) rfl) ?_
               refine AO.ag rfl rfl ?_
               cases hq13
               refine AO.nilE ⟨rfl, rfl⟩ ?_ ?_
               · exact ⟨rfl, rfl, trivial⟩
               · exact (Sub.refl _)
              ·refine AO.sT rfl rfl (bD (decide_eq_false hc14)) ?_
               refine AO.sT rfl rfl (bD (decide_eq_false hc14)) ?_
               refine AO.c (Calm.pickF rfl (bD (decide_eq_false hc14)) rfl) ?_
               refine AO.ag rfl rfl ?_
               cases hq13
               refine AO.nilE ⟨rfl, rfl⟩ ?_ ?_
               · exact ⟨rfl, rfl, trivial⟩
               · exact (Sub.refl _)
             ·rcases of_ite h with ⟨hc15, h⟩ | ⟨hc15, h⟩
              ·refine AW.condT' _ rfl hc15 ?_
               refine AW.eK [] ?_
               exact ⟨rfl, rfl, h⟩
              ·refine AW.condF' _ rfl hc15 ?_
               refine AW.sK [0] ?_
               refine AW.seq ?_
               refine AW.sr ?_
               refine AO.mv rfl rfl ?_
               refine AO.c (x := eBool (decide (p0 = (95 : Int)))) (Calm.int rfl rfl rfl rfl) ?_
               refine AO.ag rfl rfl ?_
               refine AO.nK [0, 33] ?_
               rcases of_ite h with ⟨hc16, h⟩ | ⟨hc16, h⟩
               ·refine AW.condP _ rfl hc16 ?_
                refine AW.eK [] ?_
                exact ⟨rfl, rfl, h⟩
               ·refine AW.condN _ rfl hc16 ?_
                refine AW.sK [0] ?_
                refine AW.seq ?_
                obtain ⟨b17, hq18, h⟩ := of_bind h
                refine AW.regM [(36, (eBool b17))] [] ?_ ?_
                ·refine AO.mv rfl rfl ?_
                 refine AO.c (x := eBool (decide ((32 : Int) < p0))) (Calm.int rfl rfl rfl rfl) ?_
                 refine AO.mv rfl rfl ?_
                 rcases of_ite hq18 with ⟨hc19, hq18⟩ | ⟨hc19, hq18⟩
                 ·refine AO.cG rfl rfl (bD (decide_eq_true hc19)) (Calm.move rfl rfl) ?_
                  refine AO.cG (x := eBool (decide (p0 ≤ (126 : Int)))) rfl rfl (bD (decide_eq_true hc19)) (Calm.int rfl rfl rfl rfl) ?_
                  refine AO.c (Calm.pickT rfl (bD (decide_eq_true hc19)) rfl) ?_
                  refine AO.ag rfl rfl ?_
                  cases hq18
                  refine AO.nilE ⟨rfl, rfl⟩ ?_ ?_
                  · exact ⟨rfl, trivial⟩
                  · exact (Sub.refl _)
                 ·refine AO.sT rfl rfl (bD (decide_eq_false hc19)) ?_
                  refine AO.sT rfl rfl (bD (decide_eq_false hc19)) ?_
                  refine AO.c (Calm.pickF rfl (bD (decide_eq_false hc19)) rfl) ?_
                  refine AO.ag rfl rfl ?_
                  cases hq18
                  refine AO.nilE ⟨rfl, rfl⟩ ?_ ?_
                  · exact ⟨rfl, trivial⟩
                  · exact (Sub.refl _)
                ·rcases of_ite h with ⟨hc20, h⟩ | ⟨hc20, h⟩
                 ·refine AW.condT' _ rfl hc20 ?_
                  refine AW.eK [] ?_
                  exact ⟨rfl, rfl, h⟩
                 ·refine AW.condF' _ rfl hc20 ?_
                  refine AW.sK [] ?_
                  refine AW.eK [] ?_
                  exact ⟨rfl, rfl, h⟩
      ·rintro _ _ ⟨rfl, rfl, h⟩
       rw [F91_c4.eq_1] at h
       refine AW.seq ?_
       refine AW.sr ?_
       refine AO.ag rfl rfl ?_
       refine AO.nK [2] ?_
       refine AW.rK [2] ?_
       have hr := Option.some.inj h
       subst hr
       exact ⟨[(eI64 (1 : Int))], ⟨rfl, rfl, trivial⟩, rfl⟩
     ·rintro _ _ ⟨rfl, rfl, h⟩
      rw [F91_c3.eq_1] at h
      refine AW.seq ?_
      refine AW.sr ?_
      refine AO.ag rfl rfl ?_
      refine AO.nK [2] ?_
      refine AW.rK [2] ?_
      have hr := Option.some.inj h
      subst hr
      exact ⟨[(eI64 (2 : Int))], ⟨rfl, rfl, trivial⟩, rfl⟩
    ·rintro _ _ ⟨rfl, rfl, h⟩
     rw [F91_c2.eq_1] at h
     refine AW.seq ?_
     refine AW.sr ?_
     refine AO.ag rfl rfl ?_
     refine AO.nK [2] ?_
     refine AW.rK [2] ?_
     have hr := Option.some.inj h
     subst hr
     exact ⟨[(eI64 (3 : Int))], ⟨rfl, rfl, trivial⟩, rfl⟩
   ·rintro _ _ ⟨rfl, rfl, h⟩
    rw [F91_c1.eq_1] at h
    refine AW.seq ?_
    refine AW.sr ?_
    refine AO.ag rfl rfl ?_
    refine AO.nK [2] ?_
    refine AW.rK [2] ?_
    have hr := Option.some.inj h
    subst hr
    exact ⟨[(eI64 (4 : Int))], ⟨rfl, rfl, trivial⟩, rfl⟩
  ·rintro _ _ ⟨rfl, rfl, h⟩
   rw [F91_c0.eq_1] at h
   refine AW.sr ?_
   refine AO.ag rfl rfl ?_
   refine AO.nK [2] ?_
   refine AW.rK [2] ?_
   have hr := Option.some.inj h
   subst hr
   exact ⟨[(eI64 (0 : Int))], ⟨rfl, rfl, trivial⟩, rfl⟩
end Go.Avl.T7
/- bosket/escape.Name; printed by avmain.py. -/
namespace Go.Avl.T7
open Go Go.RowKit Go.Proofs Go.Avl
set_option linter.unusedVariables false
set_option maxRecDepth 100000
set_option maxHeartbeats 4000000
attribute [local irreducible] AW AO AQ Spec SpecH Calm

def F69_c0 (k : Nat) : Option Bool :=
  some (true)
def F69_l1 (k : Nat) (p0 : ByteArray) : Nat → Int → Option Bool
  | 0, _ => none
  | j + 1, x9 =>
    if x9 < (p0.size : Int) then if 0 ≤ x9 ∧ x9 < (p0.size : Int) then (F91 k (byteAt p0 x9)).bind fun t14 =>
    Option.bind (α := Bool) (if t14 ≠ (2 : Int) then some (decide (t14 ≠ (3 : Int)))
    else some (false)) fun b15 =>
    if b15 = true then some (false)
    else (F69_l1 k p0 j) (w64 (x9 + (1 : Int)))
    else none
    else F69_c0 k
def F69 (k : Nat) (p0 : ByteArray) : Option Bool :=
  Option.bind (α := Bool) (if (40 : Int) < (p0.size : Int) then some (true)
  else if p0 = (ByteArray.mk #[]) then some (true)
  else if 0 ≤ (0 : Int) ∧ (0 : Int) < (p0.size : Int) then (F91 k (byteAt p0 (0 : Int))).bind fun t7 =>
  some (decide (t7 ≠ (3 : Int)))
  else none) fun b2 =>
  if b2 = true then some (false)
  else F69_l1 k p0 k (0 : Int)
theorem F69_spec {k : Nat} {p0 : ByteArray} {r : Bool} (h : F69 k p0 = some r) : Spec Try.prog 69 [(eStr p0)] (eBool r) := by
  rw [F69.eq_1] at h
  refine Spec.intro (res := [.tmp 2]) Try.func69 rfl rfl rfl (Nat.le_of_ble_eq_true rfl) ?_
  refine AW.sr ?_
  refine AO.ag rfl rfl ?_
  refine AO.nK [0] ?_
  refine AW.seq ?_
  refine AW.seq ?_
  obtain ⟨b2, hq3, h⟩ := of_bind h
  refine AW.regM [(0, (eStr p0)), (17, (eBool b2))] [] ?_ ?_
  ·refine AO.mv rfl rfl ?_
   refine AO.c (Calm.lenStr rfl rfl Try.underlying9) ?_
   refine AO.c (x := eBool (decide ((40 : Int) < (p0.size : Int)))) (Calm.int rfl rfl rfl rfl) ?_
   refine AO.mv rfl rfl ?_
   rcases of_ite hq3 with ⟨hc4, hq3⟩ | ⟨hc4, hq3⟩
   ·refine AO.sF rfl rfl (bD (decide_eq_true hc4)) ?_
    refine AO.sF rfl rfl (bD (decide_eq_true hc4)) ?_
    refine AO.c (Calm.pickT rfl (bD (decide_eq_true hc4)) rfl) ?_
    refine AO.mv rfl rfl ?_
    refine AO.sF rfl rfl rfl ?_
    refine AO.sF rfl rfl rfl ?_
    refine AO.sF rfl rfl rfl ?_
    refine AO.sF rfl rfl rfl ?_
    refine AO.c (Calm.pickT rfl rfl rfl) ?_
    cases hq3
    refine AO.nilE ⟨rfl, rfl⟩ ?_ ?_
    · exact ⟨rfl, rfl, trivial⟩
    · exact (Sub.refl _)
   ·refine AO.cG rfl rfl (bD (decide_eq_false hc4)) (Calm.move rfl rfl) ?_
    refine AO.cG (x := eBool (decide (p0 = (ByteArray.mk #[])))) rfl rfl (bD (decide_eq_false hc4)) (Calm.str rfl rfl rfl rfl) ?_
    refine AO.c (Calm.pickF rfl (bD (decide_eq_false hc4)) rfl) ?_
    refine AO.mv rfl rfl ?_
    rcases of_ite hq3 with ⟨hc5, hq3⟩ | ⟨hc5, hq3⟩
    ·refine AO.sF rfl rfl (bD (decide_eq_true hc5)) ?_
     refine AO.sF rfl rfl (bD (decide_eq_true hc5)) ?_
     refine AO.sF rfl rfl (bD (decide_eq_true hc5)) ?_
     refine AO.sF rfl rfl (bD (decide_eq_true hc5)) ?_
     refine AO.c (Calm.pickT rfl (bD (decide_eq_true hc5)) rfl) ?_
     cases hq3
     refine AO.nilE ⟨rfl, rfl⟩ ?_ ?_
     · exact ⟨rfl, rfl, trivial⟩
     · exact (Sub.refl _)
    ·refine AO.cG rfl rfl (bD (decide_eq_false hc5)) (Calm.move rfl rfl) ?_
     obtain ⟨hg6, hq3⟩ := of_guard hq3
     refine AO.cG (x := eU8 (byteAt p0 (0 : Int))) rfl rfl (bD (decide_eq_false hc5)) (Calm.idxS rfl rfl rfl hg6 Try.underlying9) ?_
     obtain ⟨t7, et7, hq3⟩ := of_bind hq3
     refine AO.callG 7 false 12 [(eU8 (byteAt p0 (0 : Int)))] (eI64 t7) 15 rfl (by decide) ok91 rfl rfl (bD (decide_eq_false hc5)) rfl rfl ⟨rfl, rfl, trivial⟩ (F91_spec et7) ?_
     refine AO.cG (x := eBool (decide (t7 ≠ (3 : Int)))) rfl rfl (bD (decide_eq_false hc5)) (Calm.int rfl rfl rfl rfl) ?_
     refine AO.c (Calm.pickF rfl (bD (decide_eq_false hc5)) rfl) ?_
     cases hq3
     refine AO.nilE ⟨rfl, rfl⟩ ?_ ?_
     · exact ⟨rfl, rfl, trivial⟩
     · exact (Sub.refl _)
  ·rcases of_ite h with ⟨hc8, h⟩ | ⟨hc8, h⟩
   ·refine AW.condT' _ rfl hc8 ?_
    refine AW.sr ?_
    refine AO.ag rfl rfl ?_
    refine AO.nK [2] ?_
    refine AW.rK [2] ?_
    have hr := Option.some.inj h
    subst hr
    exact ⟨[(eBool false)], ⟨rfl, rfl, trivial⟩, rfl⟩
   ·refine AW.condF' _ rfl hc8 ?_
    refine AW.sK [0] ?_
    refine AW.seq_mid (fun ρ H => ρ = [] ∧ H = [] ∧ F69_c0 k = some r) ?_ ?_
    ·refine AW.sr ?_
     refine AO.mv rfl rfl ?_
     refine AO.c (Calm.lenStr rfl rfl Try.underlying9) ?_
     refine AO.mv rfl rfl ?_
     refine AO.nK [0, 19, 20] ?_
     refine AW.block ?_
     refine AW.wK [0, 19, 20] ?_
     refine AW.loop (fun kq ρ H => ∃ (x9 : Int), ρ = [(0, (eStr p0)), (19, (eI64 (p0.size : Int))), (20, (eI64 x9))] ∧ H = [] ∧ F69_l1 k p0 kq x9 = some r) k ⟨(0 : Int), rfl, rfl, h⟩ ?_
     rintro kq11 _ _ ⟨x9, rfl, rfl, h⟩
     cases kq11 with
     | zero => rw [F69_l1.eq_1] at h; cases h
     | succ kq11 =>
     rw [F69_l1.eq_2] at h
     generalize hrec10 : F69_l1 k p0 kq11 = rec10 at h
     refine AW.sr ?_
     refine AO.c (x := eBool (decide (x9 < (p0.size : Int)))) (Calm.int rfl rfl rfl rfl) ?_
     refine AO.nK [0, 19, 20, 21] ?_
     refine AW.seq ?_
     rcases of_ite h with ⟨hc12, h⟩ | ⟨hc12, h⟩
     ·refine AW.condP _ rfl hc12 ?_
      refine AW.sK [0, 19, 20] ?_
      refine AW.seq ?_
      refine AW.block ?_
      refine AW.sr ?_
      refine AO.mv rfl rfl ?_
      refine AO.ag rfl rfl ?_
      refine AO.nK [0, 3, 19, 20] ?_
      refine AW.sr ?_
      refine AO.mv rfl rfl ?_
      refine AO.mv rfl rfl ?_
      obtain ⟨hg13, h⟩ := of_guard h
      refine AO.c (x := eU8 (byteAt p0 x9)) (Calm.idxS rfl rfl rfl hg13 Try.underlying9) ?_
      obtain ⟨t14, et14, h⟩ := of_bind h
      refine AO.callS [(eU8 (byteAt p0 x9))] (eI64 t14) 26 rfl (by decide) ok91 rfl rfl rfl ⟨rfl, rfl, trivial⟩ (F91_spec et14) ?_
      refine AO.ag rfl rfl ?_
      refine AO.nK [0, 4, 19, 20] ?_
      refine AW.seq ?_
      obtain ⟨b15, hq16, h⟩ := of_bind h
      refine AW.regM [(0, (eStr p0)), (19, (eI64 (p0.size : Int))), (20, (eI64 x9)), (32, (eBool b15))] [] ?_ ?_
      ·refine AO.mv rfl rfl ?_
       refine AO.c (x := eBool (decide (t14 ≠ (2 : Int)))) (Calm.int rfl rfl rfl rfl) ?_
       refine AO.mv rfl rfl ?_
       rcases of_ite hq16 with ⟨hc17, hq16⟩ | ⟨hc17, hq16⟩
       ·refine AO.cG rfl rfl (bD (decide_eq_true hc17)) (Calm.move rfl rfl) ?_
        refine AO.cG (x := eBool (decide (t14 ≠ (3 : Int)))) rfl rfl (bD (decide_eq_true hc17)) (Calm.int rfl rfl rfl rfl) ?_
        refine AO.c (Calm.pickT rfl (bD (decide_eq_true hc17)) rfl) ?_
        cases hq16
        refine AO.nilE ⟨rfl, rfl⟩ ?_ ?_
        · exact ⟨rfl, rfl, rfl, rfl, trivial⟩
        · exact (Sub.refl _)
       ·refine AO.sT rfl rfl (bD (decide_eq_false hc17)) ?_
        refine AO.sT rfl rfl (bD (decide_eq_false hc17)) ?_
        refine AO.c (Calm.pickF rfl (bD (decide_eq_false hc17)) rfl) ?_
        cases hq16
        refine AO.nilE ⟨rfl, rfl⟩ ?_ ?_
        · exact ⟨rfl, rfl, rfl, rfl, trivial⟩
        · exact (Sub.refl _)
      ·rcases of_ite h with ⟨hc18, h⟩ | ⟨hc18, h⟩
       ·refine AW.condT' _ rfl hc18 ?_
        refine AW.sr ?_
        refine AO.ag rfl rfl ?_
        refine AO.nK [2] ?_
        refine AW.rK [2] ?_
        have hr := Option.some.inj h
        subst hr
        exact ⟨[(eBool false)], ⟨rfl, rfl, trivial⟩, rfl⟩
       ·refine AW.condF' _ rfl hc18 ?_
        refine AW.sK [0, 19, 20] ?_
        refine AW.reg ?_
        refine AO.c (x := eI64 (w64 (x9 + (1 : Int)))) (Calm.int rfl rfl rfl rfl) ?_
        refine AO.mv rfl rfl ?_
        refine AO.nK [0, 19, 20] ?_
        exact ⟨kq11, Nat.lt_succ_self _, (w64 (x9 + (1 : Int))), rfl, rfl, by rw [hrec10]; exact h⟩
     ·refine AW.condN _ rfl hc12 ?_
      refine AW.eK [] ?_
      exact ⟨rfl, rfl, h⟩
    ·rintro _ _ ⟨rfl, rfl, h⟩
     rw [F69_c0.eq_1] at h
     refine AW.sr ?_
     refine AO.ag rfl rfl ?_
     refine AO.nK [2] ?_
     refine AW.rK [2] ?_
     have hr := Option.some.inj h
     subst hr
     exact ⟨[(eBool true)], ⟨rfl, rfl, trivial⟩, rfl⟩
end Go.Avl.T7
/- (*bosket/rex.reader).eat; printed by avmain.py. -/
namespace Go.Avl.T7
open Go Go.RowKit Go.Proofs Go.Avl
set_option linter.unusedVariables false
set_option maxRecDepth 100000
set_option maxHeartbeats 4000000
attribute [local irreducible] AW AO AQ Spec SpecH Calm

def F116 (k : Nat) (p0 : S140) (p1 : Int) : Option (Bool × S140) :=
  Option.bind (α := Bool) (if p0.f1 < (p0.f0.size : Int) then if 0 ≤ p0.f1 ∧ p0.f1 < (p0.f0.size : Int) then some (decide ((byteAt p0.f0 p0.f1) = p1))
  else none
  else some (false)) fun b3 =>
  if b3 = true then some (true, (S140.mk p0.f0 (w64 (p0.f1 + (1 : Int))) p0.f2))
  else some (false, p0)
theorem F116_spec {k : Nat} {p0 : S140} {p1 : Int} {r : (Bool × S140)} (h : F116 k p0 p1 = some r) {q0 : Nat} {T0 : Heap} : SpecH Try.prog 116 [(.ptr q0 0), (eU8 p1)] ((q0, (.mem (e140 p0))) :: T0) (fun x H' => x = (eBool r.1) ∧ Sub ((q0, (.mem (e140 r.2))) :: T0) H') := by
  rw [F116.eq_1] at h
  refine SpecH.intro (res := [.tmp 4]) Try.func116 rfl rfl rfl (Nat.le_of_ble_eq_true rfl) ?_
  refine AW.sr ?_
  refine AO.ag rfl rfl ?_
  refine AO.nK [0, 1] ?_
  refine AW.seq ?_
  refine AW.seq ?_
  obtain ⟨b3, hq4, h⟩ := of_bind h
  refine AW.regQM (by rfl) (by decide +kernel) [(0, (.ptr q0 0)), (27, (eBool b3))] ?_ ?_
  ·refine AQ.c (Calm.move rfl rfl) ?_
   refine AQ.c (Calm.nilCheck rfl rfl) ?_
   refine AQ.c (x := .ptr q0 1) (Calm.fldPtr rfl rfl Try.underlying140 rfl sz3 _ rfl) ?_
   refine AQ.c (Calm.load 0 rfl rfl rfl (At.cast (At.fldS (At.fld0 At.here)) rfl) ag3 sz3) ?_
   refine AQ.c (Calm.move rfl rfl) ?_
   refine AQ.c (Calm.nilCheck rfl rfl) ?_
   refine AQ.c (x := .ptr q0 0) (Calm.fldPtr rfl rfl Try.underlying140 rfl sz9 _ rfl) ?_
   refine AQ.c (Calm.load 0 rfl rfl rfl (At.cast (At.fld0 At.here) rfl) ag9 sz9) ?_
   refine AQ.c (Calm.lenStr rfl rfl Try.underlying9) ?_
   refine AQ.c (x := eBool (decide (p0.f1 < (p0.f0.size : Int)))) (Calm.int rfl rfl rfl rfl) ?_
   refine AQ.c (Calm.move rfl rfl) ?_
   rcases of_ite hq4 with ⟨hc5, hq4⟩ | ⟨hc5, hq4⟩
   ·refine AQ.cG rfl rfl (bD (decide_eq_true hc5)) (Calm.move rfl rfl) ?_
    refine AQ.cG rfl rfl (bD (decide_eq_true hc5)) (Calm.nilCheck rfl rfl) ?_
    refine AQ.cG (x := .ptr q0 0) rfl rfl (bD (decide_eq_true hc5)) (Calm.fldPtr rfl rfl Try.underlying140 rfl sz9 _ rfl) ?_
    refine AQ.cG rfl rfl (bD (decide_eq_true hc5)) (Calm.load 0 rfl rfl rfl (At.cast (At.fld0 At.here) rfl) ag9 sz9) ?_
    refine AQ.cG rfl rfl (bD (decide_eq_true hc5)) (Calm.move rfl rfl) ?_
    refine AQ.cG rfl rfl (bD (decide_eq_true hc5)) (Calm.nilCheck rfl rfl) ?_
    refine AQ.cG (x := .ptr q0 1) rfl rfl (bD (decide_eq_true hc5)) (Calm.fldPtr rfl rfl Try.underlying140 rfl sz3 _ rfl) ?_
    refine AQ.cG rfl rfl (bD (decide_eq_true hc5)) (Calm.load 0 rfl rfl rfl (At.cast (At.fldS (At.fld0 At.here)) rfl) ag3 sz3) ?_
    obtain ⟨hg6, hq4⟩ := of_guard hq4
    refine AQ.cG (x := eU8 (byteAt p0.f0 p0.f1)) rfl rfl (bD (decide_eq_true hc5)) (Calm.idxS rfl rfl rfl hg6 Try.underlying9) ?_
    refine AQ.cG rfl rfl (bD (decide_eq_true hc5)) (Calm.move rfl rfl) ?_
    refine AQ.cG (x := eBool (decide ((byteAt p0.f0 p0.f1) = p1))) rfl rfl (bD (decide_eq_true hc5)) (Calm.int rfl rfl rfl rfl) ?_
    refine AQ.c (Calm.pickT rfl (bD (decide_eq_true hc5)) rfl) ?_
    cases hq4
    refine AQ.nilE rfl ?_
    exact ⟨rfl, rfl, trivial⟩
   ·refine AQ.sT rfl rfl (bD (decide_eq_false hc5)) ?_
    refine AQ.sT rfl rfl (bD (decide_eq_false hc5)) ?_
    refine AQ.sT rfl rfl (bD (decide_eq_false hc5)) ?_
    refine AQ.sT rfl rfl (bD (decide_eq_false hc5)) ?_
    refine AQ.sT rfl rfl (bD (decide_eq_false hc5)) ?_
    refine AQ.sT rfl rfl (bD (decide_eq_false hc5)) ?_
    refine AQ.sT rfl rfl (bD (decide_eq_false hc5)) ?_
    refine AQ.sT rfl rfl (bD (decide_eq_false hc5)) ?_
    refine AQ.sT rfl rfl (bD (decide_eq_false hc5)) ?_
    refine AQ.sT rfl rfl (bD (decide_eq_false hc5)) ?_
    refine AQ.sT rfl rfl (bD (decide_eq_false hc5)) ?_
    refine AQ.c (Calm.pickF rfl (bD (decide_eq_false hc5)) rfl) ?_
    cases hq4
    refine AQ.nilE rfl ?_
    exact ⟨rfl, rfl, trivial⟩
  ·rcases of_ite h with ⟨hc7, h⟩ | ⟨hc7, h⟩
   ·refine AW.condT' _ rfl hc7 ?_
    refine AW.sr ?_
    refine AO.mv rfl rfl ?_
    refine AO.c (Calm.nilCheck rfl rfl) ?_
    refine AO.c (x := .ptr q0 1) (Calm.fldPtr rfl rfl Try.underlying140 rfl sz3 _ rfl) ?_
    refine AO.c (Calm.load 0 rfl rfl rfl (At.cast (At.fldS (At.fld0 At.here)) rfl) ag3 sz3) ?_
    refine AO.c (x := eI64 (w64 (p0.f1 + (1 : Int)))) (Calm.int rfl rfl rfl rfl) ?_
    refine AO.c (Calm.nilCheck rfl rfl) ?_
    refine AO.c (x := .ptr q0 1) (Calm.fldPtr rfl rfl Try.underlying140 rfl sz3 _ rfl) ?_
    refine AO.store (X' := (.st [(1, (eStr p0.f0)), (1, (eI64 (w64 (p0.f1 + (1 : Int))))), (1, (eI64 p0.f2))])) 0 rfl rfl rfl rfl rfl rfl (Put.cast (Put.fldS (Put.fld0 Put.here)) rfl) rfl rfl sz3 rfl ?_
    refine AO.nK [] ?_
    refine AW.sr ?_
    refine AO.ag rfl rfl ?_
    refine AO.nK [4] ?_
    refine AW.rK [4] ?_
    have hr := Option.some.inj h
    subst hr
    exact ⟨[(eBool true)], ⟨rfl, rfl, trivial⟩, rfl, (Sub.cons 0 rfl (Sub.refl _))⟩
   ·refine AW.condF' _ rfl hc7 ?_
    refine AW.sK [] ?_
    refine AW.sr ?_
    refine AO.ag rfl rfl ?_
    refine AO.nK [4] ?_
    refine AW.rK [4] ?_
    have hr := Option.some.inj h
    subst hr
    exact ⟨[(eBool false)], ⟨rfl, rfl, trivial⟩, rfl, (Sub.cons 0 rfl (Sub.refl _))⟩
end Go.Avl.T7
/- bosket/rex.Takes; printed by avmain.py. -/
namespace Go.Avl.T7
open Go Go.RowKit Go.Proofs Go.Avl
set_option linter.unusedVariables false
set_option maxRecDepth 100000
set_option maxHeartbeats 4000000
attribute [local irreducible] AW AO AQ Spec SpecH Calm

def F118_c0 (k : Nat) (b6 : Bool) : Option Int :=
  if b6 = true then some ((2 : Int))
  else some ((-1 : Int))
def F118_c1 (k : Nat) (p0 : Int) (b4 : Bool) : Option Int :=
  if b4 = true then some ((1 : Int))
  else if p0 = (2 : Int) then F118_c0 k (decide (p0 = (2 : Int)))
  else F118_c0 k (decide (p0 = (3 : Int)))
def F118_c2 (k : Nat) (p0 : Int) (b2 : Bool) : Option Int :=
  if b2 = true then some ((0 : Int))
  else if p0 = (4 : Int) then F118_c1 k p0 (decide (p0 = (4 : Int)))
  else if p0 = (5 : Int) then F118_c1 k p0 (decide (p0 = (5 : Int)))
  else F118_c1 k p0 (decide (p0 = (6 : Int)))
def F118 (k : Nat) (p0 : Int) : Option Int :=
  if p0 = (0 : Int) then F118_c2 k p0 (decide (p0 = (0 : Int)))
  else F118_c2 k p0 (decide (p0 = (1 : Int)))
theorem F118_spec {k : Nat} {p0 : Int} {r : Int} (h : F118 k p0 = some r) : Spec Try.prog 118 [(eI64 p0)] (eI64 r) := by
  rw [F118.eq_1] at h
  refine Spec.intro (res := [.tmp 2]) Try.func118 rfl rfl rfl (Nat.le_of_ble_eq_true rfl) ?_
  refine AW.sr ?_
  refine AO.ag rfl rfl ?_
  refine AO.nK [0] ?_
  refine AW.seq ?_
  refine AW.sr ?_
  refine AO.mv rfl rfl ?_
  refine AO.nK [3] ?_
  refine AW.block ?_
  refine AW.seq_mid (fun ρ H => ∃ (b2 : Bool), ρ = [(3, (eI64 p0)), (4, (eBool b2))] ∧ H = [] ∧ F118_c2 k p0 b2 = some r) ?_ ?_
  ·refine AW.sr ?_
   refine AO.c (x := eBool (decide (p0 = (0 : Int)))) (Calm.int rfl rfl rfl rfl) ?_
   refine AO.ag rfl rfl ?_
   refine AO.nK [3, 4] ?_
   rcases of_ite h with ⟨hc11, h⟩ | ⟨hc11, h⟩
   ·refine AW.condP _ rfl hc11 ?_
    refine AW.sK [3, 4] ?_
    exact ⟨decide (p0 = (0 : Int)), rfl, rfl, h⟩
   ·refine AW.condN _ rfl hc11 ?_
    refine AW.reg ?_
    refine AO.c (x := eBool (decide (p0 = (1 : Int)))) (Calm.int rfl rfl rfl rfl) ?_
    refine AO.ag rfl rfl ?_
    refine AO.nK [3, 4] ?_
    exact ⟨decide (p0 = (1 : Int)), rfl, rfl, h⟩
  ·rintro _ _ ⟨b2, rfl, rfl, h⟩
   rw [F118_c2.eq_1] at h
   rcases of_ite h with ⟨hc3, h⟩ | ⟨hc3, h⟩
   ·refine AW.condT' _ rfl hc3 ?_
    refine AW.sr ?_
    refine AO.ag rfl rfl ?_
    refine AO.nK [2] ?_
    refine AW.rK [2] ?_
    have hr := Option.some.inj h
    subst hr
    exact ⟨[(eI64 (0 : Int))], ⟨rfl, rfl, trivial⟩, rfl⟩
   ·refine AW.condF' _ rfl hc3 ?_
    refine AW.seq_mid (fun ρ H => ∃ (b4 : Bool), ρ = [(3, (eI64 p0)), (7, (eBool b4))] ∧ H = [] ∧ F118_c1 k p0 b4 = some r) ?_ ?_
    ·refine AW.sr ?_
     refine AO.c (x := eBool (decide (p0 = (4 : Int)))) (Calm.int rfl rfl rfl rfl) ?_
     refine AO.ag rfl rfl ?_
     refine AO.nK [3, 7] ?_
     rcases of_ite h with ⟨hc9, h⟩ | ⟨hc9, h⟩
     ·refine AW.condP _ rfl hc9 ?_
      refine AW.sK [3, 7] ?_
      exact ⟨decide (p0 = (4 : Int)), rfl, rfl, h⟩
     ·refine AW.condN _ rfl hc9 ?_
      refine AW.sr ?_
      refine AO.c (x := eBool (decide (p0 = (5 : Int)))) (Calm.int rfl rfl rfl rfl) ?_
      refine AO.ag rfl rfl ?_
      refine AO.nK [3, 7] ?_
      rcases of_ite h with ⟨hc10, h⟩ | ⟨hc10, h⟩
      ·refine AW.condP _ rfl hc10 ?_
       refine AW.sK [3, 7] ?_
       exact ⟨decide (p0 = (5 : Int)), rfl, rfl, h⟩
      ·refine AW.condN _ rfl hc10 ?_
       refine AW.reg ?_
       refine AO.c (x := eBool (decide (p0 = (6 : Int)))) (Calm.int rfl rfl rfl rfl) ?_
       refine AO.ag rfl rfl ?_
       refine AO.nK [3, 7] ?_
       exact ⟨decide (p0 = (6 : Int)), rfl, rfl, h⟩
    ·rintro _ _ ⟨b4, rfl, rfl, h⟩
     rw [F118_c1.eq_1] at h
     rcases of_ite h with ⟨hc5, h⟩ | ⟨hc5, h⟩
     ·refine AW.condT' _ rfl hc5 ?_
      refine AW.sr ?_
      refine AO.ag rfl rfl ?_
      refine AO.nK [2] ?_
      refine AW.rK [2] ?_
      have hr := Option.some.inj h
      subst hr
      exact ⟨[(eI64 (1 : Int))], ⟨rfl, rfl, trivial⟩, rfl⟩
     ·refine AW.condF' _ rfl hc5 ?_
      refine AW.seq_mid (fun ρ H => ∃ (b6 : Bool), ρ = [(11, (eBool b6))] ∧ H = [] ∧ F118_c0 k b6 = some r) ?_ ?_
      ·refine AW.sr ?_
       refine AO.c (x := eBool (decide (p0 = (2 : Int)))) (Calm.int rfl rfl rfl rfl) ?_
       refine AO.ag rfl rfl ?_
       refine AO.nK [3, 11] ?_
       rcases of_ite h with ⟨hc8, h⟩ | ⟨hc8, h⟩
       ·refine AW.condP _ rfl hc8 ?_
        refine AW.sK [11] ?_
        exact ⟨decide (p0 = (2 : Int)), rfl, rfl, h⟩
       ·refine AW.condN _ rfl hc8 ?_
        refine AW.reg ?_
        refine AO.c (x := eBool (decide (p0 = (3 : Int)))) (Calm.int rfl rfl rfl rfl) ?_
        refine AO.ag rfl rfl ?_
        refine AO.nK [11] ?_
        exact ⟨decide (p0 = (3 : Int)), rfl, rfl, h⟩
      ·rintro _ _ ⟨b6, rfl, rfl, h⟩
       rw [F118_c0.eq_1] at h
       rcases of_ite h with ⟨hc7, h⟩ | ⟨hc7, h⟩
       ·refine AW.condT' _ rfl hc7 ?_
        refine AW.sr ?_
        refine AO.ag rfl rfl ?_
        refine AO.nK [2] ?_
        refine AW.rK [2] ?_
        have hr := Option.some.inj h
        subst hr
        exact ⟨[(eI64 (2 : Int))], ⟨rfl, rfl, trivial⟩, rfl⟩
       ·refine AW.condF' _ rfl hc7 ?_
        refine AW.sK [] ?_
        refine AW.sr ?_
        refine AO.ag rfl rfl ?_
        refine AO.nK [2] ?_
        refine AW.rK [2] ?_
        have hr := Option.some.inj h
        subst hr
        exact ⟨[(eI64 (-1 : Int))], ⟨rfl, rfl, trivial⟩, rfl⟩
end Go.Avl.T7
/- bosket/rex.Join; printed by avmain.py. -/
namespace Go.Avl.T7
open Go Go.RowKit Go.Proofs Go.Avl
set_option linter.unusedVariables false
set_option maxRecDepth 100000
set_option maxHeartbeats 4000000
attribute [local irreducible] AW AO AQ Spec SpecH Calm

def F117_c0 (k : Nat) (p0 : Int) (x9 : (List S131)) : Option (List S131) :=
  if (x9 ++ ([(S131.mk p0 (Vector.replicate 4 (0 : Int)))] : List S131)).length * 40 ≤ 140737488355328 then some ((x9 ++ ([(S131.mk p0 (Vector.replicate 4 (0 : Int)))] : List S131)))
  else none
def F117_l1 (k : Nat) (p0 : Int) (p1 : (List (List S131))) : Nat → (List S131) → Int → Option (List S131)
  | 0, _, _ => none
  | j + 1, x14, x15 =>
    if x15 < (p1.length : Int) then if 0 ≤ x15 ∧ x15 < (p1.length : Int) then if (x14 ++ (lget p1 x15)).length * 40 ≤ 140737488355328 then (F117_l1 k p0 p1 j) (x14 ++ (lget p1 x15)) (w64 (x15 + (1 : Int)))
    else none
    else none
    else F117_c0 k p0 x14
def F117 (k : Nat) (p0 : Int) (p1 : (List (List S131))) : Option (List S131) :=
  Option.bind (α := Bool) ((F118 k p0).bind fun t5 =>
  if t5 ≠ (p1.length : Int) then some (true)
  else some (decide ((p1.length : Int) = (0 : Int)))) fun b3 =>
  if b3 = true then some ([])
  else F117_l1 k p0 p1 k ([] : List S131) (0 : Int)
theorem F117_spec {k : Nat} {p0 : Int} {p1 : (List (List S131))} {r : (List S131)} (h : F117 k p0 p1 = some r) : Spec Try.prog 117 [(eI64 p0), (.fz 1 (p1.map e68))] (e68 r) := by
  rw [F117.eq_1] at h
  refine Spec.intro (res := [.tmp 4]) Try.func117 rfl rfl rfl (Nat.le_of_ble_eq_true rfl) ?_
  refine AW.sr ?_
  refine AO.ag rfl rfl ?_
  refine AO.nK [0, 1] ?_
  refine AW.seq ?_
  refine AW.seq ?_
  obtain ⟨b3, hq4, h⟩ := of_bind h
  refine AW.regM [(0, (eI64 p0)), (1, (.fz 1 (p1.map e68))), (17, (eBool b3))] [] ?_ ?_
  ·refine AO.mv rfl rfl ?_
   obtain ⟨t5, et5, hq4⟩ := of_bind hq4
   refine AO.callS [(eI64 p0)] (eI64 t5) 9 rfl (by decide) ok118 rfl rfl rfl ⟨rfl, rfl, trivial⟩ (F118_spec et5) ?_
   refine AO.mv rfl rfl ?_
   refine AO.c (Calm.lenL rfl rfl Try.underlying132) ?_
   refine AO.c (x := eBool (decide (t5 ≠ (p1.length : Int)))) (Calm.int rfl rfl rfl rfl) ?_
   refine AO.mv rfl rfl ?_
   rcases of_ite hq4 with ⟨hc6, hq4⟩ | ⟨hc6, hq4⟩
   ·refine AO.sF rfl rfl (bD (decide_eq_true hc6)) ?_
    refine AO.sF rfl rfl (bD (decide_eq_true hc6)) ?_
    refine AO.sF rfl rfl (bD (decide_eq_true hc6)) ?_
    refine AO.c (Calm.pickT rfl (bD (decide_eq_true hc6)) rfl) ?_
    cases hq4
    refine AO.nilE ⟨rfl, rfl⟩ ?_ ?_
    · exact ⟨rfl, rfl, rfl, trivial⟩
    · exact (Sub.refl _)
   ·refine AO.cG rfl rfl (bD (decide_eq_false hc6)) (Calm.move rfl rfl) ?_
    refine AO.cG rfl rfl (bD (decide_eq_false hc6)) (Calm.lenL rfl rfl Try.underlying132) ?_
    refine AO.cG (x := eBool (decide ((p1.length : Int) = (0 : Int)))) rfl rfl (bD (decide_eq_false hc6)) (Calm.int rfl rfl rfl rfl) ?_
    refine AO.c (Calm.pickF rfl (bD (decide_eq_false hc6)) rfl) ?_
    cases hq4
    refine AO.nilE ⟨rfl, rfl⟩ ?_ ?_
    · exact ⟨rfl, rfl, rfl, trivial⟩
    · exact (Sub.refl _)
  ·rcases of_ite h with ⟨hc7, h⟩ | ⟨hc7, h⟩
   ·refine AW.condT' _ rfl hc7 ?_
    refine AW.sr ?_
    refine AO.ag rfl rfl ?_
    refine AO.nK [4] ?_
    refine AW.coeC 4 (y' := (.fz 5 (([] : List S131).map e131))) rfl Coe.nil ?_
    refine AW.rK [4] ?_
    have hr := Option.some.inj h
    subst hr
    exact ⟨[(.fz 5 (([] : List S131).map e131))], ⟨rfl, rfl, trivial⟩, rfl⟩
   ·refine AW.condF' _ rfl hc7 ?_
    refine AW.sK [0, 1] ?_
    refine AW.sr ?_
    refine AO.ag rfl rfl ?_
    refine AO.nK [0, 1, 5] ?_
    refine AW.seq_mid (fun ρ H => ∃ (n8 : Nat) (x9 : (List S131)), ρ = [(0, (eI64 p0)), (5, (.own n8 0 x9.length))] ∧ H = [(n8, (.mem (.ar 5 (x9.map e131))))] ∧ F117_c0 k p0 x9 = some r) ?_ ?_
    ·refine AW.sr ?_
     refine AO.mv rfl rfl ?_
     refine AO.c (Calm.lenL rfl rfl Try.underlying132) ?_
     refine AO.mv rfl rfl ?_
     refine AO.nK [0, 5, 18, 19, 20] ?_
     refine AW.block ?_
     refine AW.nilOwn 5 5 rfl fun n22 => ?_
     refine AW.wK [0, 5, 18, 19, 20] ?_
     refine AW.loop (fun kq ρ H => ∃ (n13 : Nat) (x14 : (List S131)) (x15 : Int), ρ = [(0, (eI64 p0)), (5, (.own n13 0 x14.length)), (18, (.fz 1 (p1.map e68))), (19, (eI64 (p1.length : Int))), (20, (eI64 x15))] ∧ H = [(n13, (.mem (.ar 5 (x14.map e131))))] ∧ F117_l1 k p0 p1 kq x14 x15 = some r) k ⟨n22, ([] : List S131), (0 : Int), rfl, rfl, h⟩ ?_
     rintro kq17 _ _ ⟨n13, x14, x15, rfl, rfl, h⟩
     cases kq17 with
     | zero => rw [F117_l1.eq_1] at h; cases h
     | succ kq17 =>
     rw [F117_l1.eq_2] at h
     generalize hrec16 : F117_l1 k p0 p1 kq17 = rec16 at h
     refine AW.sr ?_
     refine AO.c (x := eBool (decide (x15 < (p1.length : Int)))) (Calm.int rfl rfl rfl rfl) ?_
     refine AO.nK [0, 5, 18, 19, 20, 21] ?_
     refine AW.seq ?_
     rcases of_ite h with ⟨hc18, h⟩ | ⟨hc18, h⟩
     ·refine AW.condP _ rfl hc18 ?_
      refine AW.sK [0, 5, 18, 19, 20] ?_
      refine AW.seq ?_
      refine AW.block ?_
      refine AW.sr ?_
      obtain ⟨hg19, h⟩ := of_guard h
      refine AO.c (Calm.idxL (f := e68) rfl rfl rfl hg19 Try.underlying132 sz68) ?_
      refine AO.c (Calm.loadRp rfl rfl ag68 sz68) ?_
      refine AO.ag rfl rfl ?_
      refine AO.nK [0, 5, 7, 18, 19, 20] ?_
      refine AW.reg ?_
      refine AO.mv rfl rfl ?_
      refine AO.mv rfl rfl ?_
      obtain ⟨hg21, h⟩ := of_guard h
      refine AO.appendL (l := x14) (m := (lget p1 x15)) 0 26 rfl (by decide) rfl rfl rfl rfl rfl Src.fz Try.underlying68 Try.underlying68 sz131 by131 zr131 rfl hg21 (by decide) fun n20 => ?_
      refine AO.ag rfl rfl ?_
      refine AO.nK [0, 5, 18, 19, 20] ?_
      refine AW.reg ?_
      refine AO.c (x := eI64 (w64 (x15 + (1 : Int)))) (Calm.int rfl rfl rfl rfl) ?_
      refine AO.mv rfl rfl ?_
      refine AO.nK [0, 5, 18, 19, 20] ?_
      exact ⟨kq17, Nat.lt_succ_self _, n20, (x14 ++ (lget p1 x15)), (w64 (x15 + (1 : Int))), rfl, rfl, by rw [hrec16]; exact h⟩
     ·refine AW.condN _ rfl hc18 ?_
      refine AW.eK [0, 5] ?_
      exact ⟨n13, x14, rfl, rfl, h⟩
    ·rintro _ _ ⟨n8, x9, rfl, rfl, h⟩
     rw [F117_c0.eq_1] at h
     refine AW.sr ?_
     refine AO.mv rfl rfl ?_
     refine AO.mv rfl rfl ?_
     refine AO.c (x := .st [(1, (eI64 p0)), (4, (.ar 1 ((Vector.replicate 4 (0 : Int)).toList.map eU64)))]) (Calm.build (qs := [(0, (eI64 p0))]) rfl ⟨rfl, rfl, rfl, trivial⟩ Try.underlying131 rfl zr131 lay131 (.cons rfl rfl rfl rfl (Put.cast (Put.fld0 Put.here) rfl) .nil) rfl) ?_
     refine AO.lit (Z := (.st [(1, (eI64 (0 : Int))), (4, (.ar 1 ((Vector.replicate 4 (0 : Int)).toList.map eU64)))])) (xs := (([(S131.mk p0 (Vector.replicate 4 (0 : Int)))] : List S131).map e131)) (qs := [(0, (e131 (S131.mk p0 (Vector.replicate 4 (0 : Int)))))]) rfl 31 rfl (by decide) rfl ⟨rfl, rfl, rfl, trivial⟩ Try.underlying68 sz131 zr131 lay131 rfl (by decide) (litOK (z := 5) [(e131 (S131.mk p0 (Vector.replicate 4 (0 : Int))))] rfl ⟨⟨rfl, rfl⟩, trivial⟩) rfl fun n10 => ?_
     obtain ⟨hg12, h⟩ := of_guard h
     refine AO.appendL (l := x9) (m := ([(S131.mk p0 (Vector.replicate 4 (0 : Int)))] : List S131)) 1 32 rfl (by decide) rfl rfl rfl rfl rfl (Src.ownL (f := e131) (l := ([(S131.mk p0 (Vector.replicate 4 (0 : Int)))] : List S131)) 0 rfl) Try.underlying68 Try.underlying68 sz131 by131 zr131 rfl hg12 (by decide) fun n11 => ?_
     refine AO.ag rfl rfl ?_
     refine AO.nH [4] (H' := [(n11, (.mem (.ar 5 ((x9 ++ ([(S131.mk p0 (Vector.replicate 4 (0 : Int)))] : List S131)).map e131))))]) (Sub.cons 1 rfl (Sub.nil _)) ?_
     refine AW.freezeS 0 [(4, (.fz 5 ((x9 ++ ([(S131.mk p0 (Vector.replicate 4 (0 : Int)))] : List S131)).map e131)))] rfl ⟨fz_all rfl, trivial⟩ ?_
     refine AW.rK [4] ?_
     have hr := Option.some.inj h
     subst hr
     exact ⟨[(.fz 5 ((x9 ++ ([(S131.mk p0 (Vector.replicate 4 (0 : Int)))] : List S131)).map e131))], ⟨rfl, rfl, trivial⟩, rfl⟩
end Go.Avl.T7
/- (*bosket/rex.reader).end; printed by avmain.py. -/
namespace Go.Avl.T7
open Go Go.RowKit Go.Proofs Go.Avl
set_option linter.unusedVariables false
set_option maxRecDepth 100000
set_option maxHeartbeats 4000000
attribute [local irreducible] AW AO AQ Spec SpecH Calm

def F133_c0 (k : Nat) : Option Bool :=
  some (false)
def F133_l1 (k : Nat) (p0 : S140) (p1 : ByteArray) : Nat → Int → Option Bool
  | 0, _ => none
  | j + 1, x4 =>
    if x4 < (p1.size : Int) then if 0 ≤ p0.f1 ∧ p0.f1 < (p0.f0.size : Int) then if 0 ≤ x4 ∧ x4 < (p1.size : Int) then if (byteAt p0.f0 p0.f1) = (byteAt p1 x4) then some (true)
    else (F133_l1 k p0 p1 j) (w64 (x4 + (1 : Int)))
    else none
    else none
    else F133_c0 k
def F133 (k : Nat) (p0 : S140) (p1 : ByteArray) : Option Bool :=
  if (p0.f0.size : Int) ≤ p0.f1 then some (true)
  else F133_l1 k p0 p1 k (0 : Int)
theorem F133_spec {k : Nat} {p0 : S140} {p1 : ByteArray} {r : Bool} (h : F133 k p0 p1 = some r) {q0 : Nat} {T0 : Heap} : SpecH Try.prog 133 [(.ptr q0 0), (eStr p1)] ((q0, (.mem (e140 p0))) :: T0) (fun x H' => x = eBool r ∧ Sub ((q0, (.mem (e140 p0))) :: T0) H') := by
  rw [F133.eq_1] at h
  refine SpecH.intro (res := [.tmp 4]) Try.func133 rfl rfl rfl (Nat.le_of_ble_eq_true rfl) ?_
  refine AW.sr ?_
  refine AO.ag rfl rfl ?_
  refine AO.nK [0, 1] ?_
  refine AW.seq ?_
  refine AW.seq ?_
  refine AW.regQ (by rfl) (by decide +kernel) ?_
  refine AQ.c (Calm.move rfl rfl) ?_
  refine AQ.c (Calm.nilCheck rfl rfl) ?_
  refine AQ.c (x := .ptr q0 1) (Calm.fldPtr rfl rfl Try.underlying140 rfl sz3 _ rfl) ?_
  refine AQ.c (Calm.load 0 rfl rfl rfl (At.cast (At.fldS (At.fld0 At.here)) rfl) ag3 sz3) ?_
  refine AQ.c (Calm.move rfl rfl) ?_
  refine AQ.c (Calm.nilCheck rfl rfl) ?_
  refine AQ.c (x := .ptr q0 0) (Calm.fldPtr rfl rfl Try.underlying140 rfl sz9 _ rfl) ?_
  refine AQ.c (Calm.load 0 rfl rfl rfl (At.cast (At.fld0 At.here) rfl) ag9 sz9) ?_
  refine AQ.c (Calm.lenStr rfl rfl Try.underlying9) ?_
  refine AQ.c (x := eBool (decide ((p0.f0.size : Int) ≤ p0.f1))) (Calm.int rfl rfl rfl rfl) ?_
  refine AQ.nK [0, 1, 15] ?_
  rcases of_ite h with ⟨hc3, h⟩ | ⟨hc3, h⟩
  ·refine AW.condP _ rfl hc3 ?_
   refine AW.sr ?_
   refine AO.ag rfl rfl ?_
   refine AO.nK [4] ?_
   refine AW.rK [4] ?_
   have hr := Option.some.inj h
   subst hr
   exact ⟨[(eBool true)], ⟨rfl, rfl, trivial⟩, rfl, (Sub.cons 0 rfl (Sub.refl _))⟩
  ·refine AW.condN _ rfl hc3 ?_
   refine AW.sK [0, 1] ?_
   refine AW.seq_mid (fun ρ H => ρ = [] ∧ H = ((q0, (.mem (e140 p0))) :: T0) ∧ F133_c0 k = some r) ?_ ?_
   ·refine AW.sr ?_
    refine AO.mv rfl rfl ?_
    refine AO.c (Calm.lenStr rfl rfl Try.underlying9) ?_
    refine AO.mv rfl rfl ?_
    refine AO.nK [0, 1, 17, 18] ?_
    refine AW.block ?_
    refine AW.wK [0, 1, 17, 18] ?_
    refine AW.loop (fun kq ρ H => ∃ (x4 : Int), ρ = [(0, (.ptr q0 0)), (1, (eStr p1)), (17, (eI64 (p1.size : Int))), (18, (eI64 x4))] ∧ H = ((q0, (.mem (e140 p0))) :: T0) ∧ F133_l1 k p0 p1 kq x4 = some r) k ⟨(0 : Int), rfl, rfl, h⟩ ?_
    rintro kq6 _ _ ⟨x4, rfl, rfl, h⟩
    cases kq6 with
    | zero => rw [F133_l1.eq_1] at h; cases h
    | succ kq6 =>
    rw [F133_l1.eq_2] at h
    generalize hrec5 : F133_l1 k p0 p1 kq6 = rec5 at h
    refine AW.sr ?_
    refine AO.c (x := eBool (decide (x4 < (p1.size : Int)))) (Calm.int rfl rfl rfl rfl) ?_
    refine AO.nK [0, 1, 17, 18, 19] ?_
    refine AW.seq ?_
    rcases of_ite h with ⟨hc7, h⟩ | ⟨hc7, h⟩
    ·refine AW.condP _ rfl hc7 ?_
     refine AW.sK [0, 1, 17, 18] ?_
     refine AW.seq ?_
     refine AW.block ?_
     refine AW.sr ?_
     refine AO.mv rfl rfl ?_
     refine AO.ag rfl rfl ?_
     refine AO.nK [0, 1, 5, 17, 18] ?_
     refine AW.seq ?_
     refine AW.regQ (by rfl) (by decide +kernel) ?_
     refine AQ.c (Calm.move rfl rfl) ?_
     refine AQ.c (Calm.nilCheck rfl rfl) ?_
     refine AQ.c (x := .ptr q0 0) (Calm.fldPtr rfl rfl Try.underlying140 rfl sz9 _ rfl) ?_
     refine AQ.c (Calm.load 0 rfl rfl rfl (At.cast (At.fld0 At.here) rfl) ag9 sz9) ?_
     refine AQ.c (Calm.move rfl rfl) ?_
     refine AQ.c (Calm.nilCheck rfl rfl) ?_
     refine AQ.c (x := .ptr q0 1) (Calm.fldPtr rfl rfl Try.underlying140 rfl sz3 _ rfl) ?_
     refine AQ.c (Calm.load 0 rfl rfl rfl (At.cast (At.fldS (At.fld0 At.here)) rfl) ag3 sz3) ?_
     obtain ⟨hg8, h⟩ := of_guard h
     refine AQ.c (x := eU8 (byteAt p0.f0 p0.f1)) (Calm.idxS rfl rfl rfl hg8 Try.underlying9) ?_
     refine AQ.c (Calm.move rfl rfl) ?_
     refine AQ.c (Calm.move rfl rfl) ?_
     obtain ⟨hg9, h⟩ := of_guard h
     refine AQ.c (x := eU8 (byteAt p1 x4)) (Calm.idxS rfl rfl rfl hg9 Try.underlying9) ?_
     refine AQ.c (x := eBool (decide ((byteAt p0.f0 p0.f1) = (byteAt p1 x4)))) (Calm.int rfl rfl rfl rfl) ?_
     refine AQ.nK [0, 1, 17, 18, 33] ?_
     rcases of_ite h with ⟨hc10, h⟩ | ⟨hc10, h⟩
     ·refine AW.condP _ rfl hc10 ?_
      refine AW.sr ?_
      refine AO.ag rfl rfl ?_
      refine AO.nK [4] ?_
      refine AW.rK [4] ?_
      have hr := Option.some.inj h
      subst hr
      exact ⟨[(eBool true)], ⟨rfl, rfl, trivial⟩, rfl, (Sub.cons 0 rfl (Sub.refl _))⟩
     ·refine AW.condN _ rfl hc10 ?_
      refine AW.sK [0, 1, 17, 18] ?_
      refine AW.reg ?_
      refine AO.c (x := eI64 (w64 (x4 + (1 : Int)))) (Calm.int rfl rfl rfl rfl) ?_
      refine AO.mv rfl rfl ?_
      refine AO.nK [0, 1, 17, 18] ?_
      exact ⟨kq6, Nat.lt_succ_self _, (w64 (x4 + (1 : Int))), rfl, rfl, by rw [hrec5]; exact h⟩
    ·refine AW.condN _ rfl hc7 ?_
     refine AW.eK [] ?_
     exact ⟨rfl, rfl, h⟩
   ·rintro _ _ ⟨rfl, rfl, h⟩
    rw [F133_c0.eq_1] at h
    refine AW.sr ?_
    refine AO.ag rfl rfl ?_
    refine AO.nK [4] ?_
    refine AW.rK [4] ?_
    have hr := Option.some.inj h
    subst hr
    exact ⟨[(eBool false)], ⟨rfl, rfl, trivial⟩, rfl, (Sub.cons 0 rfl (Sub.refl _))⟩
end Go.Avl.T7
/- bosket/byteset.Full; printed by avmain.py. -/
namespace Go.Avl.T7
open Go Go.RowKit Go.Proofs Go.Avl
set_option linter.unusedVariables false
set_option maxRecDepth 100000
set_option maxHeartbeats 4000000
attribute [local irreducible] AW AO AQ Spec SpecH Calm

def F142 (k : Nat) : Option (Vector Int 4) :=
  some ((vset (vset (vset (vset (Vector.replicate 4 (0 : Int)) (0 : Int) (18446744073709551615 : Int)) (1 : Int) (18446744073709551615 : Int)) (2 : Int) (18446744073709551615 : Int)) (3 : Int) (18446744073709551615 : Int)))
theorem F142_spec {k : Nat}  {r : (Vector Int 4)} (h : F142 k = some r) : Spec Try.prog 142 [] (e62 r) := by
  rw [F142.eq_1] at h
  refine Spec.intro (res := [.cell 0 62]) Try.func142 rfl rfl rfl (Nat.le_of_ble_eq_true rfl) ?_
  refine AW.sr ?_
  refine AO.alloc rfl 0 rfl (by decide) rfl zr62 lay62 fun n1 => ?_
  refine AO.nK [0] ?_
  refine AW.sr ?_
  refine AO.c (x := .ar 1 ((vset (vset (vset (vset (Vector.replicate 4 (0 : Int)) (0 : Int) (18446744073709551615 : Int)) (1 : Int) (18446744073709551615 : Int)) (2 : Int) (18446744073709551615 : Int)) (3 : Int) (18446744073709551615 : Int)).toList.map eU64)) (Calm.buildAr (qs := [(0, (eU64 (18446744073709551615 : Int))), (1, (eU64 (18446744073709551615 : Int))), (2, (eU64 (18446744073709551615 : Int))), (3, (eU64 (18446744073709551615 : Int)))]) rfl ⟨rfl, rfl, rfl, rfl, rfl, rfl, rfl, rfl, rfl, rfl, rfl, rfl, trivial⟩ Try.underlying62 sz60 zr62 lay62 (.cons rfl rfl rfl rfl (Put.cast (Put.vidx (0 : Int) (18446744073709551615 : Int) (by decide) (by decide) Put.here) rfl) (.cons rfl rfl rfl rfl (Put.cast (Put.vidx (1 : Int) (18446744073709551615 : Int) (by decide) (by decide) Put.here) rfl) (.cons rfl rfl rfl rfl (Put.cast (Put.vidx (2 : Int) (18446744073709551615 : Int) (by decide) (by decide) Put.here) rfl) (.cons rfl rfl rfl rfl (Put.cast (Put.vidx (3 : Int) (18446744073709551615 : Int) (by decide) (by decide) Put.here) rfl) .nil)))) rfl) ?_
  refine AO.store (X' := (.ar 1 ((vset (vset (vset (vset (Vector.replicate 4 (0 : Int)) (0 : Int) (18446744073709551615 : Int)) (1 : Int) (18446744073709551615 : Int)) (2 : Int) (18446744073709551615 : Int)) (3 : Int) (18446744073709551615 : Int)).toList.map eU64))) 0 rfl rfl rfl rfl rfl rfl (Put.cast Put.here rfl) rfl (by simp [AV.size]) (by rw [sz62]; simp [AV.size]) rfl ?_
  refine AO.nK [0] ?_
  refine AW.rK [0] ?_
  have hr := Option.some.inj h
  subst hr
  exact ⟨[(.ar 1 ((vset (vset (vset (vset (Vector.replicate 4 (0 : Int)) (0 : Int) (18446744073709551615 : Int)) (1 : Int) (18446744073709551615 : Int)) (2 : Int) (18446744073709551615 : Int)) (3 : Int) (18446744073709551615 : Int)).toList.map eU64))], ⟨⟨_, 0, rfl, rfl, ag62, (by rw [sz62]; simp [AV.size])⟩, trivial⟩, rfl⟩
end Go.Avl.T7
/- bosket/escape.value; printed by avmain.py. -/
namespace Go.Avl.T7
open Go Go.RowKit Go.Proofs Go.Avl
set_option linter.unusedVariables false
set_option maxRecDepth 100000
set_option maxHeartbeats 4000000
attribute [local irreducible] AW AO AQ Spec SpecH Calm

def F150 (k : Nat) (p0 : Int) : Option Int :=
  Option.bind (α := Bool) (if (48 : Int) ≤ p0 then some (decide (p0 ≤ (57 : Int)))
  else some (false)) fun b2 =>
  if b2 = true then some ((w64 (w8 (p0 - (48 : Int)))))
  else Option.bind (α := Bool) (if (97 : Int) ≤ p0 then some (decide (p0 ≤ (102 : Int)))
  else some (false)) fun b6 =>
  if b6 = true then some ((w64 ((w64 (w8 (p0 - (97 : Int)))) + (10 : Int))))
  else some ((-1 : Int))
theorem F150_spec {k : Nat} {p0 : Int} {r : Int} (h : F150 k p0 = some r) : Spec Try.prog 150 [(eU8 p0)] (eI64 r) := by
  rw [F150.eq_1] at h
  refine Spec.intro (res := [.tmp 2]) Try.func150 rfl rfl rfl (Nat.le_of_ble_eq_true rfl) ?_
  refine AW.sr ?_
  refine AO.ag rfl rfl ?_
  refine AO.nK [0] ?_
  refine AW.seq ?_
  refine AW.block ?_
  refine AW.seq ?_
  obtain ⟨b2, hq3, h⟩ := of_bind h
  refine AW.regM [(0, (eU8 p0)), (3, (eBool b2))] [] ?_ ?_
  ·refine AO.mv rfl rfl ?_
   refine AO.c (x := eBool (decide ((48 : Int) ≤ p0))) (Calm.int rfl rfl rfl rfl) ?_
   refine AO.mv rfl rfl ?_
   rcases of_ite hq3 with ⟨hc4, hq3⟩ | ⟨hc4, hq3⟩
   ·refine AO.cG rfl rfl (bD (decide_eq_true hc4)) (Calm.move rfl rfl) ?_
    refine AO.cG (x := eBool (decide (p0 ≤ (57 : Int)))) rfl rfl (bD (decide_eq_true hc4)) (Calm.int rfl rfl rfl rfl) ?_
    refine AO.c (Calm.pickT rfl (bD (decide_eq_true hc4)) rfl) ?_
    refine AO.ag rfl rfl ?_
    cases hq3
    refine AO.nilE ⟨rfl, rfl⟩ ?_ ?_
    · exact ⟨rfl, rfl, trivial⟩
    · exact (Sub.refl _)
   ·refine AO.sT rfl rfl (bD (decide_eq_false hc4)) ?_
    refine AO.sT rfl rfl (bD (decide_eq_false hc4)) ?_
    refine AO.c (Calm.pickF rfl (bD (decide_eq_false hc4)) rfl) ?_
    refine AO.ag rfl rfl ?_
    cases hq3
    refine AO.nilE ⟨rfl, rfl⟩ ?_ ?_
    · exact ⟨rfl, rfl, trivial⟩
    · exact (Sub.refl _)
  ·rcases of_ite h with ⟨hc5, h⟩ | ⟨hc5, h⟩
   ·refine AW.condT' _ rfl hc5 ?_
    refine AW.sr ?_
    refine AO.mv rfl rfl ?_
    refine AO.c (x := eU8 (w8 (p0 - (48 : Int)))) (Calm.int rfl rfl rfl rfl) ?_
    refine AO.c (x := eI64 (w64 (w8 (p0 - (48 : Int))))) (Calm.conv rfl rfl Try.underlying5 Try.underlying3) ?_
    refine AO.ag rfl rfl ?_
    refine AO.nK [2] ?_
    refine AW.rK [2] ?_
    have hr := Option.some.inj h
    subst hr
    exact ⟨[(eI64 (w64 (w8 (p0 - (48 : Int)))))], ⟨rfl, rfl, trivial⟩, rfl⟩
   ·refine AW.condF' _ rfl hc5 ?_
    refine AW.seq ?_
    obtain ⟨b6, hq7, h⟩ := of_bind h
    refine AW.regM [(0, (eU8 p0)), (13, (eBool b6))] [] ?_ ?_
    ·refine AO.mv rfl rfl ?_
     refine AO.c (x := eBool (decide ((97 : Int) ≤ p0))) (Calm.int rfl rfl rfl rfl) ?_
     refine AO.mv rfl rfl ?_
     rcases of_ite hq7 with ⟨hc8, hq7⟩ | ⟨hc8, hq7⟩
     ·refine AO.cG rfl rfl (bD (decide_eq_true hc8)) (Calm.move rfl rfl) ?_
      refine AO.cG (x := eBool (decide (p0 ≤ (102 : Int)))) rfl rfl (bD (decide_eq_true hc8)) (Calm.int rfl rfl rfl rfl) ?_
      refine AO.c (Calm.pickT rfl (bD (decide_eq_true hc8)) rfl) ?_
      refine AO.ag rfl rfl ?_
      cases hq7
      refine AO.nilE ⟨rfl, rfl⟩ ?_ ?_
      · exact ⟨rfl, rfl, trivial⟩
      · exact (Sub.refl _)
     ·refine AO.sT rfl rfl (bD (decide_eq_false hc8)) ?_
      refine AO.sT rfl rfl (bD (decide_eq_false hc8)) ?_
      refine AO.c (Calm.pickF rfl (bD (decide_eq_false hc8)) rfl) ?_
      refine AO.ag rfl rfl ?_
      cases hq7
      refine AO.nilE ⟨rfl, rfl⟩ ?_ ?_
      · exact ⟨rfl, rfl, trivial⟩
      · exact (Sub.refl _)
    ·rcases of_ite h with ⟨hc9, h⟩ | ⟨hc9, h⟩
     ·refine AW.condT' _ rfl hc9 ?_
      refine AW.sr ?_
      refine AO.mv rfl rfl ?_
      refine AO.c (x := eU8 (w8 (p0 - (97 : Int)))) (Calm.int rfl rfl rfl rfl) ?_
      refine AO.c (x := eI64 (w64 (w8 (p0 - (97 : Int))))) (Calm.conv rfl rfl Try.underlying5 Try.underlying3) ?_
      refine AO.c (x := eI64 (w64 ((w64 (w8 (p0 - (97 : Int)))) + (10 : Int)))) (Calm.int rfl rfl rfl rfl) ?_
      refine AO.ag rfl rfl ?_
      refine AO.nK [2] ?_
      refine AW.rK [2] ?_
      have hr := Option.some.inj h
      subst hr
      exact ⟨[(eI64 (w64 ((w64 (w8 (p0 - (97 : Int)))) + (10 : Int))))], ⟨rfl, rfl, trivial⟩, rfl⟩
     ·refine AW.condF' _ rfl hc9 ?_
      refine AW.sK [] ?_
      refine AW.sr ?_
      refine AO.ag rfl rfl ?_
      refine AO.nK [2] ?_
      refine AW.rK [2] ?_
      have hr := Option.some.inj h
      subst hr
      exact ⟨[(eI64 (-1 : Int))], ⟨rfl, rfl, trivial⟩, rfl⟩
end Go.Avl.T7
