/- Parts: T7B, T7f91, T7f69, T7f116, T7f118, T7f117, T7f133, T7f142, T7f150, T7f148, T7f144, T7f146, T7f145, T7f149, T7f147, T7f119, T7f143, T7f61. -/
import Derived.Test.YtpkgpmmcbpfenaaAv3
import Derived.Test.YtpkgpmmcbpfenaaProg
namespace Go.Avl.T7
open Go Go.RowKit Go.Proofs Go.Avl
set_option linter.unusedVariables false
set_option maxRecDepth 100000
set_option maxHeartbeats 4000000
structure S140 where
 f0:ByteArray
 f1:Int
 f2:Int
deriving Inhabited,DecidableEq
abbrev e140 (x:S140):AV:=.st [(1,(eStr x.f0)),(1,(eI64 x.f1)),(1,(eI64 x.f2))]
abbrev e62 (v:Vector Int 4):AV:=.ar 1 (v.toList.map eU64)
structure S131 where
 f0:Int
 f1:(Vector Int 4)
deriving Inhabited,DecidableEq
abbrev e131 (x:S131):AV:=.st [(1,(eI64 x.f0)),(4,(.ar 1 (x.f1.toList.map eU64)))]
abbrev e68 (l:List S131):AV:=.fz 5 (l.map e131)
structure S152 where
 f0:Int
 f1:Int
 f2:(Vector Int 4)
 f3:Bool
deriving Inhabited,DecidableEq
abbrev e152 (x:S152):AV:=.st [(1,(eI64 x.f0)),(1,(eI64 x.f1)),(4,(.ar 1 (x.f2.toList.map eU64))),(1,(eBool x.f3))]
structure S121 where
 f0:Int
 f1:(List S152)
 f2:Int
 f3:Int
deriving Inhabited,DecidableEq
abbrev e121 (x:S121):AV:=.st [(1,(eI64 x.f0)),(1,(.fz 7 (x.f1.map e152))),(1,(eI64 x.f2)),(1,(eI64 x.f3))]
structure S146 where
 f0:S121
deriving Inhabited,DecidableEq
structure S150 where
 f0:Int
 f1:Int
deriving Inhabited,DecidableEq
abbrev e150 (x:S150):AV:=.st [(1,(eI64 x.f0)),(1,(eI64 x.f1))]
abbrev e158 (l:List (Vector Int 4)):AV:=.fz 4 (l.map e62)
abbrev e52 (v:Vector Int 256):AV:=.ar 1 (v.toList.map eU8)
abbrev e98 (l:List Bool):AV:=.fz 1 (l.map eBool)
abbrev e35 (l:List Int):AV:=.fz 1 (l.map eI64)
structure S55 where
 f0:(Vector Int 256)
 f1:(List (List Int))
 f2:(List Int)
deriving Inhabited,DecidableEq
abbrev e55 (x:S55):AV:=.st [(256,(.ar 1 (x.f0.toList.map eU8))),(1,(.fz 1 (x.f1.map e35))),(1,(.fz 1 (x.f2.map eI64)))]
structure S156 where
 f0:S121
 f1:(List Int)
 f2:(List Int)
 f3:(List (ByteArray×Int))
 f4:(List (List Bool))
 f5:S55
deriving Inhabited,DecidableEq
structure S82 where
 f0:ByteArray
 f1:Int
 f2:ByteArray
deriving Inhabited,DecidableEq
abbrev e82 (x:S82):AV:=.st [(1,(eStr x.f0)),(1,(eI64 x.f1)),(1,(eStr x.f2))]
abbrev e132 (l:List (List S131)):AV:=.fz 1 (l.map e68)
abbrev e107 (l:List (List Bool)):AV:=.fz 1 (l.map e98)
theorem ok91:FnOK Try.prog 91:=FnOK.mk Try.func91 rfl rfl
theorem sz3:tySize Try.prog 3=some 1:=by rfl
theorem ag3:tyAgg Try.prog 3=some false:=by rfl
theorem sz9:tySize Try.prog 9=some 1:=by rfl
theorem ag9:tyAgg Try.prog 9=some false:=by rfl
theorem zr62:tyZero Try.prog 62=some ((List.replicate 4 (.int .u64 0))):=by rfl
theorem lay62:∀ g,Sim g (.ar 1 ((Vector.replicate 4 (0:Int)).toList.map eU64)) ((List.replicate 4 (.int .u64 0))):=fun g=>(lay_vec1 (lay_fl rfl))
theorem sz60:tySize Try.prog 60=some 1:=by rfl
theorem sz62:tySize Try.prog 62=some 4:=by rfl
theorem ag62:tyAgg Try.prog 62=some true:=by rfl
theorem ok150:FnOK Try.prog 150:=FnOK.mk Try.func150 rfl rfl
theorem ok148:FnOK Try.prog 148:=FnOK.mk Try.func148 rfl rfl
theorem ag60:tyAgg Try.prog 60=some false:=by rfl
theorem ok142:FnOK Try.prog 142:=FnOK.mk Try.func142 rfl rfl
theorem ok149:FnOK Try.prog 149:=FnOK.mk Try.func149 rfl rfl
theorem eqa62 (x y:(Vector Int 4)):EqOK Try.prog 2 62 (.ar 1 (x.toList.map eU64)) (.ar 1 (y.toList.map eU64)) (decide (x=y)):=EqOK.vec (m:=1) Try.underlying62 (fun a b=>EqOK.int Try.underlying60) (fun _=>ag60) (fun _=>sz60) (fun _=>rfl) (by rfl) ⟨_,rfl⟩ x y
theorem eg62:Try.prog.eqGuardType Try.prog.depth 62=false:=by decide+kernel
theorem ok116:FnOK Try.prog 116:=FnOK.mk Try.func116 rfl rfl
theorem ok133:FnOK Try.prog 133:=FnOK.mk Try.func133 rfl rfl
theorem ok144:FnOK Try.prog 144:=FnOK.mk Try.func144 rfl rfl
theorem ok146:FnOK Try.prog 146:=FnOK.mk Try.func146 rfl rfl
theorem ok145:FnOK Try.prog 145:=FnOK.mk Try.func145 rfl rfl
theorem ok147:FnOK Try.prog 147:=FnOK.mk Try.func147 rfl rfl
theorem zr131:tyZero Try.prog 131=some (([.int .i64 0]++((List.replicate 4 (.int .u64 0))++[]))):=by rfl
theorem lay131:∀ g,Sim g (.st [(1,(eI64 (0:Int))),(4,(.ar 1 ((Vector.replicate 4 (0:Int)).toList.map eU64)))]) (([.int .i64 0]++((List.replicate 4 (.int .u64 0))++[]))):=fun g=>(Sim.stCons (lay_fl rfl) rfl (Sim.stCons (lay_vec1 (lay_fl rfl)) rfl Sim.stNil))
theorem sz131:tySize Try.prog 131=some 5:=by rfl
theorem ok119:FnOK Try.prog 119:=FnOK.mk Try.func119 rfl rfl
theorem sz5:tySize Try.prog 5=some 1:=by rfl
theorem ag5:tyAgg Try.prog 5=some false:=by rfl
theorem ok118:FnOK Try.prog 118:=FnOK.mk Try.func118 rfl rfl
theorem sz68:tySize Try.prog 68=some 1:=by rfl
theorem ag68:tyAgg Try.prog 68=some false:=by rfl
theorem by131:tyBytes Try.prog 131=some 40:=by rfl
theorem ok115:FnOK Try.prog 115:=FnOK.mk Try.func115 rfl rfl
theorem zr68:tyZero Try.prog 68=some ([.slice none 0 0]):=by rfl
theorem lay68:∀ g,Sim g (.fl (.slice none 0 0)) ([.slice none 0 0]):=fun g=>(lay_fl rfl)
theorem ok117:FnOK Try.prog 117:=FnOK.mk Try.func117 rfl rfl
theorem ok132:FnOK Try.prog 132:=FnOK.mk Try.func132 rfl rfl
theorem ok140:FnOK Try.prog 140:=FnOK.mk Try.func140 rfl rfl
theorem ok92:FnOK Try.prog 92:=FnOK.mk Try.func92 rfl rfl
theorem ok143:FnOK Try.prog 143:=FnOK.mk Try.func143 rfl rfl
theorem zr5:tyZero Try.prog 5=some ([.int .u8 0]):=by rfl
theorem lay5:∀ g,Sim g (eU8 (0:Int)) ([.int .u8 0]):=fun g=>(lay_fl rfl)
theorem ok61:FnOK Try.prog 61:=FnOK.mk Try.func61 rfl rfl
theorem zr140:tyZero Try.prog 140=some (([.string ByteArray.empty]++([.int .i64 0]++([.int .i64 0]++[])))):=by rfl
theorem lay140:∀ g,Sim g (.st [(1,(eStr ByteArray.empty)),(1,(eI64 (0:Int))),(1,(eI64 (0:Int)))]) (([.string ByteArray.empty]++([.int .i64 0]++([.int .i64 0]++[])))):=fun g=>(Sim.stCons (lay_fl rfl) rfl (Sim.stCons (lay_fl rfl) rfl (Sim.stCons (lay_fl rfl) rfl Sim.stNil)))
theorem ag131:tyAgg Try.prog 131=some true:=by rfl
theorem sz121:tySize Try.prog 121=some 4:=by rfl
theorem zr150:tyZero Try.prog 150=some (([.int .i64 0]++([.int .i64 0]++[]))):=by rfl
theorem lay150:∀ g,Sim g (.st [(1,(eI64 (0:Int))),(1,(eI64 (0:Int)))]) (([.int .i64 0]++([.int .i64 0]++[]))):=fun g=>(Sim.stCons (lay_fl rfl) rfl (Sim.stCons (lay_fl rfl) rfl Sim.stNil))
theorem ok134:FnOK Try.prog 134:=FnOK.mk Try.func134 rfl rfl
theorem sz150:tySize Try.prog 150=some 2:=by rfl
theorem ag150:tyAgg Try.prog 150=some true:=by rfl
theorem sz119:tySize Try.prog 119=some 1:=by rfl
theorem ag119:tyAgg Try.prog 119=some false:=by rfl
theorem zr152:tyZero Try.prog 152=some (([.int .i64 0]++([.int .i64 0]++((List.replicate 4 (.int .u64 0))++([.bool false]++[]))))):=by rfl
theorem lay152:∀ g,Sim g (.st [(1,(eI64 (0:Int))),(1,(eI64 (0:Int))),(4,(.ar 1 ((Vector.replicate 4 (0:Int)).toList.map eU64))),(1,(eBool false))]) (([.int .i64 0]++([.int .i64 0]++((List.replicate 4 (.int .u64 0))++([.bool false]++[]))))):=fun g=>(Sim.stCons (lay_fl rfl) rfl (Sim.stCons (lay_fl rfl) rfl (Sim.stCons (lay_vec1 (lay_fl rfl)) rfl (Sim.stCons (lay_fl rfl) rfl Sim.stNil))))
theorem sz152:tySize Try.prog 152=some 7:=by rfl
theorem by152:tyBytes Try.prog 152=some 56:=by rfl
theorem ok120:FnOK Try.prog 120:=FnOK.mk Try.func120 rfl rfl
theorem ok121:FnOK Try.prog 121:=FnOK.mk Try.func121 rfl rfl
theorem by150:tyBytes Try.prog 150=some 16:=by rfl
theorem zr121:tyZero Try.prog 121=some (([.int .i64 0]++([.slice none 0 0]++([.int .i64 0]++([.int .i64 0]++[]))))):=by rfl
theorem lay121:∀ g,Sim g (.st [(1,(eI64 (0:Int))),(1,(.fl (.slice none 0 0))),(1,(eI64 (0:Int))),(1,(eI64 (0:Int)))]) (([.int .i64 0]++([.slice none 0 0]++([.int .i64 0]++([.int .i64 0]++[]))))):=fun g=>(Sim.stCons (lay_fl rfl) rfl (Sim.stCons (lay_fl rfl) rfl (Sim.stCons (lay_fl rfl) rfl (Sim.stCons (lay_fl rfl) rfl Sim.stNil))))
theorem ok93:FnOK Try.prog 93:=FnOK.mk Try.func93 rfl rfl
theorem ag121:tyAgg Try.prog 121=some true:=by rfl
theorem zr146:tyZero Try.prog 146=some ((([.int .i64 0]++([.slice none 0 0]++([.int .i64 0]++([.int .i64 0]++[]))))++[])):=by rfl
theorem lay146:∀ g,Sim g (.st [(4,(.st [(1,(eI64 (0:Int))),(1,(.fl (.slice none 0 0))),(1,(eI64 (0:Int))),(1,(eI64 (0:Int)))]))]) ((([.int .i64 0]++([.slice none 0 0]++([.int .i64 0]++([.int .i64 0]++[]))))++[])):=fun g=>(Sim.stCons (Sim.stCons (lay_fl rfl) rfl (Sim.stCons (lay_fl rfl) rfl (Sim.stCons (lay_fl rfl) rfl (Sim.stCons (lay_fl rfl) rfl Sim.stNil)))) rfl Sim.stNil)
theorem ok94:FnOK Try.prog 94:=FnOK.mk Try.func94 rfl rfl
theorem ag152:tyAgg Try.prog 152=some true:=by rfl
theorem sz4:tySize Try.prog 4=some 1:=by rfl
theorem ag4:tyAgg Try.prog 4=some false:=by rfl
theorem by62:tyBytes Try.prog 62=some 32:=by rfl
theorem by5:tyBytes Try.prog 5=some 1:=by rfl
theorem ok125:FnOK Try.prog 125:=FnOK.mk Try.func125 rfl rfl
theorem zr52:tyZero Try.prog 52=some ((List.replicate 256 (.int .u8 0))):=by rfl
theorem lay52:∀ g,Sim g (.ar 1 ((Vector.replicate 256 (0:Int)).toList.map eU8)) ((List.replicate 256 (.int .u8 0))):=fun g=>(lay_vec1 (lay_fl rfl))
theorem ok122:FnOK Try.prog 122:=FnOK.mk Try.func122 rfl rfl
theorem zr3:tyZero Try.prog 3=some ([.int .i64 0]):=by rfl
theorem mz3:∀ g,∃ zv,((Try.prog.info? 3).bind (·.zero))=some zv∧V1 g (eI64 (0:Int)) zv:=fun g=>⟨_,rfl,rfl⟩
theorem ag52:tyAgg Try.prog 52=some true:=by rfl
theorem sz52:tySize Try.prog 52=some 256:=by rfl
theorem by4:tyBytes Try.prog 4=some 1:=by rfl
theorem zr4:tyZero Try.prog 4=some ([.bool false]):=by rfl
theorem lay4:∀ g,Sim g (eBool false) ([.bool false]):=fun g=>(lay_fl rfl)
theorem sz35:tySize Try.prog 35=some 1:=by rfl
theorem ag35:tyAgg Try.prog 35=some false:=by rfl
theorem ok135:FnOK Try.prog 135:=FnOK.mk Try.func135 rfl rfl
theorem ok123:FnOK Try.prog 123:=FnOK.mk Try.func123 rfl rfl
theorem sz109:tySize Try.prog 109=some 1:=by rfl
theorem ag109:tyAgg Try.prog 109=some false:=by rfl
theorem sz107:tySize Try.prog 107=some 1:=by rfl
theorem ag107:tyAgg Try.prog 107=some false:=by rfl
theorem sz98:tySize Try.prog 98=some 1:=by rfl
theorem zr98:tyZero Try.prog 98=some ([.slice none 0 0]):=by rfl
theorem lay98:∀ g,Sim g (.fl (.slice none 0 0)) ([.slice none 0 0]):=fun g=>(lay_fl rfl)
theorem by98:tyBytes Try.prog 98=some 24:=by rfl
theorem sz55:tySize Try.prog 55=some 258:=by rfl
theorem ok124:FnOK Try.prog 124:=FnOK.mk Try.func124 rfl rfl
theorem lay3:∀ g,Sim g (eI64 (0:Int)) ([.int .i64 0]):=fun g=>(lay_fl rfl)
theorem by3:tyBytes Try.prog 3=some 8:=by rfl
theorem zr55:tyZero Try.prog 55=some (((List.replicate 256 (.int .u8 0))++([.slice none 0 0]++([.slice none 0 0]++[])))):=by rfl
theorem lay55:∀ g,Sim g (.st [(256,(.ar 1 ((Vector.replicate 256 (0:Int)).toList.map eU8))),(1,(.fl (.slice none 0 0))),(1,(.fl (.slice none 0 0)))]) (((List.replicate 256 (.int .u8 0))++([.slice none 0 0]++([.slice none 0 0]++[])))):=fun g=>(Sim.stCons (lay_vec1 (lay_fl rfl)) rfl (Sim.stCons (lay_fl rfl) rfl (Sim.stCons (lay_fl rfl) rfl Sim.stNil)))
theorem ok95:FnOK Try.prog 95:=FnOK.mk Try.func95 rfl rfl
theorem ag55:tyAgg Try.prog 55=some true:=by rfl
theorem zr156:tyZero Try.prog 156=some ((([.int .i64 0]++([.slice none 0 0]++([.int .i64 0]++([.int .i64 0]++[]))))++([.slice none 0 0]++([.slice none 0 0]++([.map none]++([.slice none 0 0]++(((List.replicate 256 (.int .u8 0))++([.slice none 0 0]++([.slice none 0 0]++[])))++[]))))))):=by rfl
theorem lay156:∀ g,Sim g (.st [(4,(.st [(1,(eI64 (0:Int))),(1,(.fl (.slice none 0 0))),(1,(eI64 (0:Int))),(1,(eI64 (0:Int)))])),(1,(.fl (.slice none 0 0))),(1,(.fl (.slice none 0 0))),(1,(.fl (.map none))),(1,(.fl (.slice none 0 0))),(258,(.st [(256,(.ar 1 ((Vector.replicate 256 (0:Int)).toList.map eU8))),(1,(.fl (.slice none 0 0))),(1,(.fl (.slice none 0 0)))]))]) ((([.int .i64 0]++([.slice none 0 0]++([.int .i64 0]++([.int .i64 0]++[]))))++([.slice none 0 0]++([.slice none 0 0]++([.map none]++([.slice none 0 0]++(((List.replicate 256 (.int .u8 0))++([.slice none 0 0]++([.slice none 0 0]++[])))++[]))))))):=fun g=>(Sim.stCons (Sim.stCons (lay_fl rfl) rfl (Sim.stCons (lay_fl rfl) rfl (Sim.stCons (lay_fl rfl) rfl (Sim.stCons (lay_fl rfl) rfl Sim.stNil)))) rfl (Sim.stCons (lay_fl rfl) rfl (Sim.stCons (lay_fl rfl) rfl (Sim.stCons (lay_fl rfl) rfl (Sim.stCons (lay_fl rfl) rfl (Sim.stCons (Sim.stCons (lay_vec1 (lay_fl rfl)) rfl (Sim.stCons (lay_fl rfl) rfl (Sim.stCons (lay_fl rfl) rfl Sim.stNil))) rfl Sim.stNil))))))
theorem ok97:FnOK Try.prog 97:=FnOK.mk Try.func97 rfl rfl
theorem ok96:FnOK Try.prog 96:=FnOK.mk Try.func96 rfl rfl
theorem sz102:tySize Try.prog 102=some 1:=by rfl
theorem ag102:tyAgg Try.prog 102=some false:=by rfl
theorem ok99:FnOK Try.prog 99:=FnOK.mk Try.func99 rfl rfl
theorem ok98:FnOK Try.prog 98:=FnOK.mk Try.func98 rfl rfl
theorem ag98:tyAgg Try.prog 98=some false:=by rfl
theorem ok100:FnOK Try.prog 100:=FnOK.mk Try.func100 rfl rfl
theorem sz53:tySize Try.prog 53=some 1:=by rfl
theorem ag53:tyAgg Try.prog 53=some false:=by rfl
theorem zr35:tyZero Try.prog 35=some ([.slice none 0 0]):=by rfl
theorem lay35:∀ g,Sim g (.fl (.slice none 0 0)) ([.slice none 0 0]):=fun g=>(lay_fl rfl)
theorem by35:tyBytes Try.prog 35=some 24:=by rfl
theorem ok76:FnOK Try.prog 76:=FnOK.mk Try.func76 rfl rfl
theorem ok73:FnOK Try.prog 73:=FnOK.mk Try.func73 rfl rfl
theorem ok74:FnOK Try.prog 74:=FnOK.mk Try.func74 rfl rfl
theorem ok77:FnOK Try.prog 77:=FnOK.mk Try.func77 rfl rfl
theorem ok129:FnOK Try.prog 129:=FnOK.mk Try.func129 rfl rfl
theorem ok113:FnOK Try.prog 113:=FnOK.mk Try.func113 rfl rfl
theorem ok112:FnOK Try.prog 112:=FnOK.mk Try.func112 rfl rfl
theorem ok69:FnOK Try.prog 69:=FnOK.mk Try.func69 rfl rfl
theorem ok62:FnOK Try.prog 62:=FnOK.mk Try.func62 rfl rfl
theorem ok89:FnOK Try.prog 89:=FnOK.mk Try.func89 rfl rfl
theorem sz82:tySize Try.prog 82=some 3:=by rfl
theorem ag82:tyAgg Try.prog 82=some true:=by rfl
theorem zr82:tyZero Try.prog 82=some (([.string ByteArray.empty]++([.int .i64 0]++([.string ByteArray.empty]++[])))):=by rfl
theorem lay82:∀ g,Sim g (.st [(1,(eStr ByteArray.empty)),(1,(eI64 (0:Int))),(1,(eStr ByteArray.empty))]) (([.string ByteArray.empty]++([.int .i64 0]++([.string ByteArray.empty]++[])))):=fun g=>(Sim.stCons (lay_fl rfl) rfl (Sim.stCons (lay_fl rfl) rfl (Sim.stCons (lay_fl rfl) rfl Sim.stNil)))
theorem ok67:FnOK Try.prog 67:=FnOK.mk Try.func67 rfl rfl
theorem ok101:FnOK Try.prog 101:=FnOK.mk Try.func101 rfl rfl
theorem ok102:FnOK Try.prog 102:=FnOK.mk Try.func102 rfl rfl
theorem ok103:FnOK Try.prog 103:=FnOK.mk Try.func103 rfl rfl
theorem ok104:FnOK Try.prog 104:=FnOK.mk Try.func104 rfl rfl
theorem ok127:FnOK Try.prog 127:=FnOK.mk Try.func127 rfl rfl
theorem ok126:FnOK Try.prog 126:=FnOK.mk Try.func126 rfl rfl
theorem ok78:FnOK Try.prog 78:=FnOK.mk Try.func78 rfl rfl
theorem ok106:FnOK Try.prog 106:=FnOK.mk Try.func106 rfl rfl
theorem ok105:FnOK Try.prog 105:=FnOK.mk Try.func105 rfl rfl
theorem ok107:FnOK Try.prog 107:=FnOK.mk Try.func107 rfl rfl
theorem ok80:FnOK Try.prog 80:=FnOK.mk Try.func80 rfl rfl
theorem ok79:FnOK Try.prog 79:=FnOK.mk Try.func79 rfl rfl
theorem ok81:FnOK Try.prog 81:=FnOK.mk Try.func81 rfl rfl
theorem ok82:FnOK Try.prog 82:=FnOK.mk Try.func82 rfl rfl
theorem ok39:FnOK Try.prog 39:=FnOK.mk Try.func39 rfl rfl
theorem by121:tyBytes Try.prog 121=some 48:=by rfl
theorem ok75:FnOK Try.prog 75:=FnOK.mk Try.func75 rfl rfl
theorem ok63:FnOK Try.prog 63:=FnOK.mk Try.func63 rfl rfl
theorem ok60:FnOK Try.prog 60:=FnOK.mk Try.func60 rfl rfl
theorem ok58:FnOK Try.prog 58:=FnOK.mk Try.func58 rfl rfl
theorem ok55:FnOK Try.prog 55:=FnOK.mk Try.func55 rfl rfl
theorem ok35:FnOK Try.prog 35:=FnOK.mk Try.func35 rfl rfl
theorem ok34:FnOK Try.prog 34:=FnOK.mk Try.func34 rfl rfl
theorem ok29:FnOK Try.prog 29:=FnOK.mk Try.func29 rfl rfl
theorem ok85:FnOK Try.prog 85:=FnOK.mk Try.func85 rfl rfl
theorem ok139:FnOK Try.prog 139:=FnOK.mk Try.func139 rfl rfl
theorem ok130:FnOK Try.prog 130:=FnOK.mk Try.func130 rfl rfl
theorem ok141:FnOK Try.prog 141:=FnOK.mk Try.func141 rfl rfl
theorem ok131:FnOK Try.prog 131:=FnOK.mk Try.func131 rfl rfl
theorem ok138:FnOK Try.prog 138:=FnOK.mk Try.func138 rfl rfl
theorem ok109:FnOK Try.prog 109:=FnOK.mk Try.func109 rfl rfl
theorem ok136:FnOK Try.prog 136:=FnOK.mk Try.func136 rfl rfl
theorem ok83:FnOK Try.prog 83:=FnOK.mk Try.func83 rfl rfl
theorem ok108:FnOK Try.prog 108:=FnOK.mk Try.func108 rfl rfl
theorem ok128:FnOK Try.prog 128:=FnOK.mk Try.func128 rfl rfl
theorem ok137:FnOK Try.prog 137:=FnOK.mk Try.func137 rfl rfl
theorem ok64:FnOK Try.prog 64:=FnOK.mk Try.func64 rfl rfl
theorem ok57:FnOK Try.prog 57:=FnOK.mk Try.func57 rfl rfl
theorem ok56:FnOK Try.prog 56:=FnOK.mk Try.func56 rfl rfl
theorem ok110:FnOK Try.prog 110:=FnOK.mk Try.func110 rfl rfl
theorem ok111:FnOK Try.prog 111:=FnOK.mk Try.func111 rfl rfl
theorem by68:tyBytes Try.prog 68=some 24:=by rfl
theorem ok84:FnOK Try.prog 84:=FnOK.mk Try.func84 rfl rfl
theorem ok65:FnOK Try.prog 65:=FnOK.mk Try.func65 rfl rfl
theorem ok86:FnOK Try.prog 86:=FnOK.mk Try.func86 rfl rfl
theorem ok87:FnOK Try.prog 87:=FnOK.mk Try.func87 rfl rfl
theorem ok88:FnOK Try.prog 88:=FnOK.mk Try.func88 rfl rfl
theorem ok66:FnOK Try.prog 66:=FnOK.mk Try.func66 rfl rfl
theorem ok26:FnOK Try.prog 26:=FnOK.mk Try.func26 rfl rfl
theorem ok32:FnOK Try.prog 32:=FnOK.mk Try.func32 rfl rfl
theorem ok33:FnOK Try.prog 33:=FnOK.mk Try.func33 rfl rfl
theorem ok28:FnOK Try.prog 28:=FnOK.mk Try.func28 rfl rfl
theorem ok36:FnOK Try.prog 36:=FnOK.mk Try.func36 rfl rfl
theorem ok27:FnOK Try.prog 27:=FnOK.mk Try.func27 rfl rfl
theorem ok37:FnOK Try.prog 37:=FnOK.mk Try.func37 rfl rfl
instance:TyA Try.prog 3 false 1:=⟨ag3,sz3⟩
instance:TyA Try.prog 4 false 1:=⟨ag4,sz4⟩
instance:TyA Try.prog 5 false 1:=⟨ag5,sz5⟩
instance:TyA Try.prog 9 false 1:=⟨ag9,sz9⟩
instance:TyA Try.prog 35 false 1:=⟨ag35,sz35⟩
instance:TyA Try.prog 52 true 256:=⟨ag52,sz52⟩
instance:TyA Try.prog 53 false 1:=⟨ag53,sz53⟩
instance:TyA Try.prog 55 true 258:=⟨ag55,sz55⟩
instance:TyA Try.prog 60 false 1:=⟨ag60,sz60⟩
instance:TyA Try.prog 62 true 4:=⟨ag62,sz62⟩
instance:TyA Try.prog 68 false 1:=⟨ag68,sz68⟩
instance:TyA Try.prog 82 true 3:=⟨ag82,sz82⟩
instance:TyA Try.prog 98 false 1:=⟨ag98,sz98⟩
instance:TyA Try.prog 102 false 1:=⟨ag102,sz102⟩
instance:TyA Try.prog 107 false 1:=⟨ag107,sz107⟩
instance:TyA Try.prog 109 false 1:=⟨ag109,sz109⟩
instance:TyA Try.prog 119 false 1:=⟨ag119,sz119⟩
instance:TyA Try.prog 121 true 4:=⟨ag121,sz121⟩
instance:TyA Try.prog 131 true 5:=⟨ag131,sz131⟩
instance:TyA Try.prog 150 true 2:=⟨ag150,sz150⟩
instance:TyA Try.prog 152 true 7:=⟨ag152,sz152⟩
abbrev Z0 (a:List AV):AV:=(.st [(256,(.ar 1 a)),(1,(.fl (.slice none 0 0))),(1,(.fl (.slice none 0 0)))])
abbrev Z1 (a:Nat) (b:Int) (c:Nat) (d:Nat) (f:Int) (g:Int):Nat×Mem:=(a,(.mem (.st [(4,(.st [(1,(eI64 b)),(1,(.own c 0 d)),(1,(eI64 f)),(1,(eI64 g))]))])))
abbrev Z2 (a:Nat) (b:S121) (c:List Int) (d:List Int) (f:Nat) (g:Nat) (i:Nat) (j:List AV) (l:Nat) (m:Nat) (n:Nat) (o:Nat):Nat×Mem:=(a,(.mem (.st [(4,(e121 b)),(1,(.fz 1 (c.map eI64))),(1,(.fz 1 (d.map eU8))),(1,(.mp f)),(1,(.own g 0 i)),(258,(.st [(256,(.ar 1 j)),(1,(.own l 0 m)),(1,(.own n 0 o))]))])))
abbrev Z3 (a:List Int):Mem:=(.mem (.ar 1 (a.map eI64)))
abbrev Z4 (a:Nat) (b:Int) (c:List S152) (d:Int) (f:Int) (g:List Int) (i:List Int) (j:Nat) (l:Nat) (m:Nat) (n:List AV) (o:Nat) (p:Nat) (q:Nat) (s:Nat):Nat×Mem:=(a,(.mem (.st [(4,(.st [(1,(eI64 b)),(1,(.fz 7 (c.map e152))),(1,(eI64 d)),(1,(eI64 f))])),(1,(.fz 1 (g.map eI64))),(1,(.fz 1 (i.map eU8))),(1,(.mp j)),(1,(.own l 0 m)),(258,(.st [(256,(.ar 1 n)),(1,(.own o 0 p)),(1,(.own q 0 s))]))])))
abbrev Z5 (a:Nat) (b:List (List Int)):Nat×Mem:=(a,(.mem (.ar 1 (b.map e35))))
abbrev Z6 (a:Nat) (b:List AV) (c:Nat) (d:Nat) (f:Nat) (g:Nat):Nat×Mem:=(a,(.mem (.st [(256,(.ar 1 b)),(1,(.own c 0 d)),(1,(.own f 0 g))])))
abbrev Z7 (a:Int):AV:=(.st [(1,(eI64 a)),(1,(.fl (.slice none 0 0))),(1,(eI64 a)),(1,(eI64 a))])
abbrev Z8 (a:Nat) (b:List S152):Nat×Mem:=(a,(.mem (.ar 7 (b.map e152))))
abbrev Z9 (a:Nat) (b:List Bool):Nat×Mem:=(a,(.mem (.ar 1 (b.map eBool))))
abbrev Z10 (a:Nat) (b:List S150):Nat×Mem:=(a,(.mem (.ar 2 (b.map e150))))
abbrev Z11 (a:List S131):AV:=(.fz 5 (a.map e131))
abbrev Z12 (a:Nat) (b:List (List Bool)):Nat×Mem:=(a,(.mem (.ar 1 (b.map e98))))
abbrev Z13 (a:Nat) (b:List AV):Nat×Mem:=(a,(.mem (.ar 1 b)))
abbrev Z14 (a:Nat) (b:List AV) (c:Nat) (d:Nat) (f:List Int):Nat×Mem:=(a,(.mem (.st [(256,(.ar 1 b)),(1,(.own c 0 d)),(1,(.fz 1 (f.map eI64)))])))
abbrev Z15 (a:Nat) (b:List AV):Nat×Mem:=(a,(.mem (Z0 b)))
abbrev Z16 (a:List AV) (b:List (List Int)) (c:List Int):AV:=(.st [(256,(.ar 1 a)),(1,(.fz 1 (b.map e35))),(1,(.fz 1 (c.map eI64)))])
abbrev Z17 (a:Nat) (b:ByteArray) (c:Int) (d:Int):Nat×Mem:=(a,(.mem (.st [(1,(eStr b)),(1,(eI64 c)),(1,(eI64 d))])))
abbrev Z18 (a:Int):Mem:=(.mem (.st [(1,(eI64 a)),(1,(eI64 a))]))
abbrev Z19 (a:Nat) (b:S150):Nat×Mem:=(a,(.mem (e150 b)))
abbrev Z20 (a:List AV) (b:List Int):AV:=(.st [(256,(.ar 1 a)),(1,(.fl (.slice none 0 0))),(1,(.fz 1 (b.map eI64)))])
abbrev Z21 (a:Int) (b:List AV):AV:=(.st [(1,(eI64 a)),(4,(.ar 1 b))])
abbrev Z22 (a:List AV) (b:List (List Int)):AV:=(.st [(256,(.ar 1 a)),(1,(.fz 1 (b.map e35))),(1,(.fl (.slice none 0 0)))])
abbrev Z23 (a:List Int):AV:=(.fz 1 (a.map eI64))
abbrev Z24 (a:Nat) (b:S140):Nat×Mem:=(a,(.mem (e140 b)))
abbrev Z25 (a:List S131):AV:=(nz 5 (a.map e131))
abbrev Z26 (a:Int) (b:Nat) (c:Nat) (d:Int):Mem:=(.mem (.st [(1,(eI64 a)),(1,(.own b 0 c)),(1,(eI64 d)),(1,(eI64 d))]))
abbrev Z27 (a:Int) (b:Int) (c:List AV) (d:Bool):AV:=(.st [(1,(eI64 a)),(1,(eI64 b)),(4,(.ar 1 c)),(1,(eBool d))])
abbrev Z28 (a:Nat) (b:Nat):AV:=(.own a 0 b)
abbrev Z29 (a:List Bool):AV:=(.fz 1 (a.map eBool))
abbrev Z30 (a:Int) (b:List S152) (c:Int) (d:Int):AV:=(.st [(1,(eI64 a)),(1,(.fz 7 (b.map e152))),(1,(eI64 c)),(1,(eI64 d))])
abbrev Z31 (a:Nat) (b:Int):Nat×Mem:=(a,(.mem (Z7 b)))
abbrev Z32 (a:Nat) (b:List Int):Nat×Mem:=(a,(.mem (.ar 1 (b.map eU8))))
end Go.Avl.T7
namespace Go.Avl.T7
open Go Go.RowKit Go.Proofs Go.Avl
set_option linter.unusedVariables false
set_option maxRecDepth 100000
set_option maxHeartbeats 4000000
attribute [local irreducible] AW AO AQ Spec SpecH Calm
def F91_c0 (k:Nat):Option Int:=
 some ((0:Int))
def F91_c1 (k:Nat):Option Int:=
 some ((4:Int))
def F91_c2 (k:Nat):Option Int:=
 some ((3:Int))
def F91_c3 (k:Nat):Option Int:=
 some ((2:Int))
def F91_c4 (k:Nat):Option Int:=
 some ((1:Int))
def F91_c5 (k:Nat) (p0:Int) (b2:Bool):Option Int:=
 if b2=true then F91_c4 k
 else Option.bind (α:=Bool) (if(48:Int)≤p0 then some (decide (p0≤(57:Int)))
 else some (false)) fun b4=>
 if b4=true then F91_c3 k
 else Option.bind (α:=Bool) (if(97:Int)≤p0 then some (decide (p0≤(122:Int)))
 else some (false)) fun b8=>
 if b8=true then F91_c2 k
 else Option.bind (α:=Bool) (if(65:Int)≤p0 then some (decide (p0≤(90:Int)))
 else some (false)) fun b12=>
 if b12=true then F91_c2 k
 else if p0=(95:Int)then F91_c2 k
 else Option.bind (α:=Bool) (if(32:Int)<p0 then some (decide (p0≤(126:Int)))
 else some (false)) fun b17=>
 if b17=true then F91_c1 k
 else F91_c0 k
def F91 (k:Nat) (p0:Int):Option Int:=
 if p0=(32:Int)then F91_c5 k p0 (decide (p0=(32:Int)))
 else if p0=(9:Int)then F91_c5 k p0 (decide (p0=(9:Int)))
 else if p0=(10:Int)then F91_c5 k p0 (decide (p0=(10:Int)))
 else F91_c5 k p0 (decide (p0=(13:Int)))
theorem F91_spec {k:Nat} {p0:Int} {r:Int} (h:F91 k p0=some r):Spec Try.prog 91 [(eU8 p0)] (eI64 r):=by
 rw[F91.eq_1]at h
 refine Spec.intro (res:=[.tmp 2]) Try.func91 rfl rfl rfl (Nat.le_of_ble_eq_true rfl) ?_
 refine .a 3 ?_
 refine .nK [0] ?_
 refine .seq_mid (fun ρ H=>ρ=[]∧H=[]∧F91_c0 k=some r) ?_ ?_
 ·refine .a 1 ?_
  refine .seq_mid (fun ρ H=>ρ=[]∧H=[]∧F91_c1 k=some r) ?_ ?_
  ·refine .a 1 ?_
   refine .seq_mid (fun ρ H=>ρ=[]∧H=[]∧F91_c2 k=some r) ?_ ?_
   ·refine .a 3 ?_
    refine .seq_mid (fun ρ H=>ρ=[]∧H=[]∧F91_c3 k=some r) ?_ ?_
    ·refine .a 1 ?_
     refine .seq_mid (fun ρ H=>ρ=[]∧H=[]∧F91_c4 k=some r) ?_ ?_
     ·refine .a 3 ?_
      refine .seq_mid (fun ρ H=>∃ (b2:Bool),ρ=[(0,(eU8 p0)),(3,(eBool b2))]∧H=[]∧F91_c5 k p0 b2=some r) ?_ ?_
      ·refine .a 6 ?_
       rcases oi h with⟨c21,h⟩|⟨c21,h⟩
       ·refine .a 1 ?_
        refine .sK [0,3] ?_
        exact⟨decide (p0=(32:Int)),rfl,rfl,h⟩
       refine .a 7 ?_
       rcases oi h with⟨c22,h⟩|⟨c22,h⟩
       ·refine .a 1 ?_
        refine .sK [0,3] ?_
        exact⟨decide (p0=(9:Int)),rfl,rfl,h⟩
       refine .a 7 ?_
       rcases oi h with⟨c23,h⟩|⟨c23,h⟩
       ·refine .a 1 ?_
        refine .sK [0,3] ?_
        exact⟨decide (p0=(10:Int)),rfl,rfl,h⟩
       refine .a 5 ?_
       refine .nK [0,3] ?_
       exact⟨decide (p0=(13:Int)),rfl,rfl,h⟩
      rintro _ _ ⟨b2,rfl,rfl,h⟩
      rw[F91_c5.eq_1]at h
      rcases oi h with⟨c3,h⟩|⟨c3,h⟩
      ·refine .a 1 ?_
       refine .eK [] ?_
       exact⟨rfl,rfl,h⟩
      refine .a 4 ?_
      obtain⟨b4,q5,h⟩:=ob h
      refine .regM [(0,(eU8 p0)),(12,(eBool b4))] [] ?_ ?_
      ·refine .a 3 ?_
       rcases oi q5 with⟨c6,q5⟩|⟨c6,q5⟩
       ·refine .a 4 ?_
        cases q5
        refine .nilE ⟨rfl,rfl⟩ ?_ ?_
        ·exact⟨rfl,rfl,trivial⟩
        exact(.refl _)
       refine .a 4 ?_
       cases q5
       refine .nilE ⟨rfl,rfl⟩ ?_ ?_
       ·exact⟨rfl,rfl,trivial⟩
       exact(.refl _)
      rcases oi h with⟨c7,h⟩|⟨c7,h⟩
      ·refine .a 1 ?_
       refine .eK [] ?_
       exact⟨rfl,rfl,h⟩
      refine .a 4 ?_
      obtain⟨b8,q9,h⟩:=ob h
      refine .regM [(0,(eU8 p0)),(19,(eBool b8))] [] ?_ ?_
      ·refine .a 3 ?_
       rcases oi q9 with⟨c10,q9⟩|⟨c10,q9⟩
       ·refine .a 4 ?_
        cases q9
        refine .nilE ⟨rfl,rfl⟩ ?_ ?_
        ·exact⟨rfl,rfl,trivial⟩
        exact(.refl _)
       refine .a 4 ?_
       cases q9
       refine .nilE ⟨rfl,rfl⟩ ?_ ?_
       ·exact⟨rfl,rfl,trivial⟩
       exact(.refl _)
      rcases oi h with⟨c11,h⟩|⟨c11,h⟩
      ·refine .a 1 ?_
       refine .eK [] ?_
       exact⟨rfl,rfl,h⟩
      refine .a 4 ?_
      obtain⟨b12,q13,h⟩:=ob h
      refine .regM [(0,(eU8 p0)),(26,(eBool b12))] [] ?_ ?_
      ·refine .a 3 ?_
       rcases oi q13 with⟨c14,q13⟩|⟨c14,q13⟩
       ·refine .a 4 ?_
        cases q13
        refine .nilE ⟨rfl,rfl⟩ ?_ ?_
        ·exact⟨rfl,rfl,trivial⟩
        exact(.refl _)
       refine .a 4 ?_
       cases q13
       refine .nilE ⟨rfl,rfl⟩ ?_ ?_
       ·exact⟨rfl,rfl,trivial⟩
       exact(.refl _)
      rcases oi h with⟨c15,h⟩|⟨c15,h⟩
      ·refine .a 1 ?_
       refine .eK [] ?_
       exact⟨rfl,rfl,h⟩
      refine .a 9 ?_
      rcases oi h with⟨c16,h⟩|⟨c16,h⟩
      ·refine .a 1 ?_
       refine .eK [] ?_
       exact⟨rfl,rfl,h⟩
      refine .a 3 ?_
      obtain⟨b17,q18,h⟩:=ob h
      refine .regM [(36,(eBool b17))] [] ?_ ?_
      ·refine .a 3 ?_
       rcases oi q18 with⟨c19,q18⟩|⟨c19,q18⟩
       ·refine .a 4 ?_
        cases q18
        refine .nilE ⟨rfl,rfl⟩ ?_ ?_
        ·exact⟨rfl,trivial⟩
        exact(.refl _)
       refine .a 4 ?_
       cases q18
       refine .nilE ⟨rfl,rfl⟩ ?_ ?_
       ·exact⟨rfl,trivial⟩
       exact(.refl _)
      rcases oi h with⟨c20,h⟩|⟨c20,h⟩
      ·refine .a 1 ?_
       refine .eK [] ?_
       exact⟨rfl,rfl,h⟩
      refine .a 1 ?_
      refine .sK [] ?_
      refine .eK [] ?_
      exact⟨rfl,rfl,h⟩
     rintro _ _ ⟨rfl,rfl,h⟩
     rw[F91_c4.eq_1]at h
     refine .a 4 ?_
     refine .nK [2] ?_
     refine .rK [2] ?_
     cases h
     exact⟨[(eI64 (1:Int))],⟨rfl,rfl,trivial⟩,rfl⟩
    rintro _ _ ⟨rfl,rfl,h⟩
    rw[F91_c3.eq_1]at h
    refine .a 4 ?_
    refine .nK [2] ?_
    refine .rK [2] ?_
    cases h
    exact⟨[(eI64 (2:Int))],⟨rfl,rfl,trivial⟩,rfl⟩
   rintro _ _ ⟨rfl,rfl,h⟩
   rw[F91_c2.eq_1]at h
   refine .a 4 ?_
   refine .nK [2] ?_
   refine .rK [2] ?_
   cases h
   exact⟨[(eI64 (3:Int))],⟨rfl,rfl,trivial⟩,rfl⟩
  rintro _ _ ⟨rfl,rfl,h⟩
  rw[F91_c1.eq_1]at h
  refine .a 4 ?_
  refine .nK [2] ?_
  refine .rK [2] ?_
  cases h
  exact⟨[(eI64 (4:Int))],⟨rfl,rfl,trivial⟩,rfl⟩
 rintro _ _ ⟨rfl,rfl,h⟩
 rw[F91_c0.eq_1]at h
 refine .a 3 ?_
 refine .nK [2] ?_
 refine .rK [2] ?_
 cases h
 exact⟨[(eI64 (0:Int))],⟨rfl,rfl,trivial⟩,rfl⟩
def F69_c0 (k:Nat):Option Bool:=
 some (true)
def F69_l1 (k:Nat) (p0:ByteArray):Nat→Int→Option Bool
 | 0,_=>none
 | j+1,x9=>
   if x9<(p0.size:Int)then if 0≤x9∧x9<(p0.size:Int)then(F91 k (byteAt p0 x9)).bind fun t14=>
   Option.bind (α:=Bool) (if t14≠(2:Int)then some (decide (t14≠(3:Int)))
   else some (false)) fun b15=>
   if b15=true then some (false)
   else(F69_l1 k p0 j) (w64 (x9+(1:Int)))
   else none
   else F69_c0 k
def F69 (k:Nat) (p0:ByteArray):Option Bool:=
 Option.bind (α:=Bool) (if(40:Int)<(p0.size:Int)then some (true)
 else if p0=(ByteArray.mk #[])then some (true)
 else if 0≤(0:Int)∧(0:Int)<(p0.size:Int)then(F91 k (byteAt p0 (0:Int))).bind fun t7=>
 some (decide (t7≠(3:Int)))
 else none) fun b2=>
 if b2=true then some (false)
 else F69_l1 k p0 k (0:Int)
theorem F69_spec {k:Nat} {p0:ByteArray} {r:Bool} (h:F69 k p0=some r):Spec Try.prog 69 [(eStr p0)] (eBool r):=by
 rw[F69.eq_1]at h
 refine Spec.intro (res:=[.tmp 2]) Try.func69 rfl rfl rfl (Nat.le_of_ble_eq_true rfl) ?_
 refine .a 6 ?_
 obtain⟨b2,q3,h⟩:=ob h
 refine .regM [(0,(eStr p0)),(17,(eBool b2))] [] ?_ ?_
 ·refine .a 4 ?_
  rcases oi q3 with⟨c4,q3⟩|⟨c4,q3⟩
  ·refine .a 9 ?_
   cases q3
   refine .nilE ⟨rfl,rfl⟩ ?_ ?_
   ·exact⟨rfl,rfl,trivial⟩
   exact(.refl _)
  refine .a 4 ?_
  rcases oi q3 with⟨c5,q3⟩|⟨c5,q3⟩
  ·refine .a 5 ?_
   cases q3
   refine .nilE ⟨rfl,rfl⟩ ?_ ?_
   ·exact⟨rfl,rfl,trivial⟩
   exact(.refl _)
  refine .a 1 ?_
  obtain⟨g6,q3⟩:=of_guard q3
  refine .a 1 ?_
  obtain⟨t7,et7,q3⟩:=ob q3
  refine .callG 7 false 12 [(eU8 (byteAt p0 (0:Int)))] (eI64 t7) 15 rfl (by decide) ok91 rfl rfl (bD (decide_eq_false c5)) rfl rfl ⟨rfl,rfl,trivial⟩ (F91_spec et7) ?_
  refine .a 2 ?_
  cases q3
  refine .nilE ⟨rfl,rfl⟩ ?_ ?_
  ·exact⟨rfl,rfl,trivial⟩
  exact(.refl _)
 rcases oi h with⟨c8,h⟩|⟨c8,h⟩
 ·refine .a 4 ?_
  refine .nK [2] ?_
  refine .rK [2] ?_
  have hr:=Option.some.inj h
  subst hr
  exact⟨[(eBool false)],⟨rfl,rfl,trivial⟩,rfl⟩
 refine .a 1 ?_
 refine .sK [0] ?_
 refine .seq_mid (fun ρ H=>ρ=[]∧H=[]∧F69_c0 k=some r) ?_ ?_
 ·refine .a 7 ?_
  refine .wK [0,19,20] ?_
  refine .loop (fun kq ρ H=>∃ (x9:Int),ρ=[(0,(eStr p0)),(19,(eI64 (p0.size:Int))),(20,(eI64 x9))]∧H=[]∧F69_l1 k p0 kq x9=some r) k ⟨(0:Int),rfl,rfl,h⟩ ?_
  rintro kq11 _ _ ⟨x9,rfl,rfl,h⟩
  cases kq11 with
  | zero=>rw[F69_l1.eq_1]at h;cases h
  | succ kq11=>
  rw[F69_l1.eq_2]at h
  generalize hrec10:F69_l1 k p0 kq11=rec10 at h
  refine .a 5 ?_
  rcases oi h with⟨c12,h⟩|⟨c12,h⟩
  ·refine .a 13 ?_
   obtain⟨g13,h⟩:=of_guard h
   refine .a 1 ?_
   obtain⟨t14,et14,h⟩:=ob h
   refine .callS [(eU8 (byteAt p0 x9))] (eI64 t14) 26 rfl (by decide) ok91 rfl rfl rfl ⟨rfl,rfl,trivial⟩ (F91_spec et14) ?_
   refine .a 3 ?_
   obtain⟨b15,q16,h⟩:=ob h
   refine .regM [(0,(eStr p0)),(19,(eI64 (p0.size:Int))),(20,(eI64 x9)),(32,(eBool b15))] [] ?_ ?_
   ·refine .a 3 ?_
    rcases oi q16 with⟨c17,q16⟩|⟨c17,q16⟩
    ·refine .a 3 ?_
     cases q16
     refine .nilE ⟨rfl,rfl⟩ ?_ ?_
     ·exact⟨rfl,rfl,rfl,rfl,trivial⟩
     exact(.refl _)
    refine .a 3 ?_
    cases q16
    refine .nilE ⟨rfl,rfl⟩ ?_ ?_
    ·exact⟨rfl,rfl,rfl,rfl,trivial⟩
    exact(.refl _)
   rcases oi h with⟨c18,h⟩|⟨c18,h⟩
   ·refine .a 4 ?_
    refine .nK [2] ?_
    refine .rK [2] ?_
    have hr:=Option.some.inj h
    subst hr
    exact⟨[(eBool false)],⟨rfl,rfl,trivial⟩,rfl⟩
   refine .a 5 ?_
   refine .nK [0,19,20] ?_
   exact⟨kq11,Nat.lt_succ_self _,(w64 (x9+(1:Int))),rfl,rfl,by rw[hrec10];exact h⟩
  refine .a 1 ?_
  refine .eK [] ?_
  exact⟨rfl,rfl,h⟩
 rintro _ _ ⟨rfl,rfl,h⟩
 rw[F69_c0.eq_1]at h
 refine .a 3 ?_
 refine .nK [2] ?_
 refine .rK [2] ?_
 have hr:=Option.some.inj h
 subst hr
 exact⟨[(eBool true)],⟨rfl,rfl,trivial⟩,rfl⟩
def F116 (k:Nat) (p0:S140) (p1:Int):Option (Bool×S140):=
 Option.bind (α:=Bool) (if p0.f1<(p0.f0.size:Int)then if 0≤p0.f1∧p0.f1<(p0.f0.size:Int)then some (decide ((byteAt p0.f0 p0.f1)=p1))
 else none
 else some (false)) fun b3=>
 if b3=true then some (true,(S140.mk p0.f0 (w64 (p0.f1+(1:Int))) p0.f2))
 else some (false,p0)
theorem F116_spec {k:Nat} {p0:S140} {p1:Int} {r:(Bool×S140)} (h:F116 k p0 p1=some r) {q0:Nat} {T0:Heap}:SpecH Try.prog 116 [(.ptr q0 0),(eU8 p1)] ((q0,(.mem (e140 p0)))::T0) (fun x H'=>x=(eBool r.1)∧Sub ((q0,(.mem (e140 r.2)))::T0) H'):=by
 rw[F116.eq_1]at h
 refine SpecH.intro (res:=[.tmp 4]) Try.func116 rfl rfl rfl (Nat.le_of_ble_eq_true rfl) ?_
 refine .a 6 ?_
 obtain⟨b3,q4,h⟩:=ob h
 refine .regQM (by rfl) (by decide+kernel) [(0,(.ptr q0 0)),(27,(eBool b3))] ?_ ?_
 ·refine .a 11 ?_
  rcases oi q4 with⟨c5,q4⟩|⟨c5,q4⟩
  ·refine .a 8 ?_
   obtain⟨g6,q4⟩:=of_guard q4
   refine .a 4 ?_
   cases q4
   refine .nilE rfl ?_
   exact⟨rfl,rfl,trivial⟩
  refine .a 12 ?_
  cases q4
  refine .nilE rfl ?_
  exact⟨rfl,rfl,trivial⟩
 rcases oi h with⟨c7,h⟩|⟨c7,h⟩
 ·refine .a 10 ?_
  refine .store 0 rfl rfl rfl rfl rfl rfl (.cast (.fldS (.fld0 .here)) rfl) rfl rfl sz3 rfl ?_
  refine .a 4 ?_
  refine .nK [4] ?_
  refine .rK [4] ?_
  have hr:=Option.some.inj h
  subst hr
  exact⟨[(eBool true)],⟨rfl,rfl,trivial⟩,rfl,(.cons 0 rfl (.refl _))⟩
 refine .a 5 ?_
 refine .nK [4] ?_
 refine .rK [4] ?_
 have hr:=Option.some.inj h
 subst hr
 exact⟨[(eBool false)],⟨rfl,rfl,trivial⟩,rfl,(.cons 0 rfl (.refl _))⟩
def F118_c0 (k:Nat) (b6:Bool):Option Int:=
 if b6=true then some ((2:Int))
 else some ((-1:Int))
def F118_c1 (k:Nat) (p0:Int) (b4:Bool):Option Int:=
 if b4=true then some ((1:Int))
 else if p0=(2:Int)then F118_c0 k (decide (p0=(2:Int)))
 else F118_c0 k (decide (p0=(3:Int)))
def F118_c2 (k:Nat) (p0:Int) (b2:Bool):Option Int:=
 if b2=true then some ((0:Int))
 else if p0=(4:Int)then F118_c1 k p0 (decide (p0=(4:Int)))
 else if p0=(5:Int)then F118_c1 k p0 (decide (p0=(5:Int)))
 else F118_c1 k p0 (decide (p0=(6:Int)))
def F118 (k:Nat) (p0:Int):Option Int:=
 if p0=(0:Int)then F118_c2 k p0 (decide (p0=(0:Int)))
 else F118_c2 k p0 (decide (p0=(1:Int)))
theorem F118_spec {k:Nat} {p0:Int} {r:Int} (h:F118 k p0=some r):Spec Try.prog 118 [(eI64 p0)] (eI64 r):=by
 rw[F118.eq_1]at h
 refine Spec.intro (res:=[.tmp 2]) Try.func118 rfl rfl rfl (Nat.le_of_ble_eq_true rfl) ?_
 refine .a 10 ?_
 refine .seq_mid (fun ρ H=>∃ (b2:Bool),ρ=[(3,(eI64 p0)),(4,(eBool b2))]∧H=[]∧F118_c2 k p0 b2=some r) ?_ ?_
 ·refine .a 5 ?_
  rcases oi h with⟨c11,h⟩|⟨c11,h⟩
  ·refine .a 1 ?_
   refine .sK [3,4] ?_
   exact⟨decide (p0=(0:Int)),rfl,rfl,h⟩
  refine .a 4 ?_
  refine .nK [3,4] ?_
  exact⟨decide (p0=(1:Int)),rfl,rfl,h⟩
 rintro _ _ ⟨b2,rfl,rfl,h⟩
 rw[F118_c2.eq_1]at h
 rcases oi h with⟨c3,h⟩|⟨c3,h⟩
 ·refine .a 4 ?_
  refine .nK [2] ?_
  refine .rK [2] ?_
  cases h
  exact⟨[(eI64 (0:Int))],⟨rfl,rfl,trivial⟩,rfl⟩
 refine .a 1 ?_
 refine .seq_mid (fun ρ H=>∃ (b4:Bool),ρ=[(3,(eI64 p0)),(7,(eBool b4))]∧H=[]∧F118_c1 k p0 b4=some r) ?_ ?_
 ·refine .a 5 ?_
  rcases oi h with⟨c9,h⟩|⟨c9,h⟩
  ·refine .a 1 ?_
   refine .sK [3,7] ?_
   exact⟨decide (p0=(4:Int)),rfl,rfl,h⟩
  refine .a 6 ?_
  rcases oi h with⟨c10,h⟩|⟨c10,h⟩
  ·refine .a 1 ?_
   refine .sK [3,7] ?_
   exact⟨decide (p0=(5:Int)),rfl,rfl,h⟩
  refine .a 4 ?_
  refine .nK [3,7] ?_
  exact⟨decide (p0=(6:Int)),rfl,rfl,h⟩
 rintro _ _ ⟨b4,rfl,rfl,h⟩
 rw[F118_c1.eq_1]at h
 rcases oi h with⟨c5,h⟩|⟨c5,h⟩
 ·refine .a 4 ?_
  refine .nK [2] ?_
  refine .rK [2] ?_
  cases h
  exact⟨[(eI64 (1:Int))],⟨rfl,rfl,trivial⟩,rfl⟩
 refine .a 1 ?_
 refine .seq_mid (fun ρ H=>∃ (b6:Bool),ρ=[(11,(eBool b6))]∧H=[]∧F118_c0 k b6=some r) ?_ ?_
 ·refine .a 5 ?_
  rcases oi h with⟨c8,h⟩|⟨c8,h⟩
  ·refine .a 1 ?_
   refine .sK [11] ?_
   exact⟨decide (p0=(2:Int)),rfl,rfl,h⟩
  refine .a 4 ?_
  refine .nK [11] ?_
  exact⟨decide (p0=(3:Int)),rfl,rfl,h⟩
 rintro _ _ ⟨b6,rfl,rfl,h⟩
 rw[F118_c0.eq_1]at h
 rcases oi h with⟨c7,h⟩|⟨c7,h⟩
 ·refine .a 4 ?_
  refine .nK [2] ?_
  refine .rK [2] ?_
  cases h
  exact⟨[(eI64 (2:Int))],⟨rfl,rfl,trivial⟩,rfl⟩
 refine .a 5 ?_
 refine .nK [2] ?_
 refine .rK [2] ?_
 cases h
 exact⟨[(eI64 (-1:Int))],⟨rfl,rfl,trivial⟩,rfl⟩
def F117_c0 (k:Nat) (p0:Int) (x9:(List S131)):Option (List S131):=
 if(x9++([(S131.mk p0 (Vector.replicate 4 (0:Int)))]:List S131)).length*40≤140737488355328 then some ((x9++([(S131.mk p0 (Vector.replicate 4 (0:Int)))]:List S131)))
 else none
def F117_l1 (k:Nat) (p0:Int) (p1:(List (List S131))):Nat→(List S131)→Int→Option (List S131)
 | 0,_,_=>none
 | j+1,x14,x15=>
   if x15<(p1.length:Int)then if 0≤x15∧x15<(p1.length:Int)then if(x14++(lget p1 x15)).length*40≤140737488355328 then(F117_l1 k p0 p1 j) (x14++(lget p1 x15)) (w64 (x15+(1:Int)))
   else none
   else none
   else F117_c0 k p0 x14
def F117 (k:Nat) (p0:Int) (p1:(List (List S131))):Option (List S131):=
 Option.bind (α:=Bool) ((F118 k p0).bind fun t5=>
 if t5≠(p1.length:Int)then some (true)
 else some (decide ((p1.length:Int)=(0:Int)))) fun b3=>
 if b3=true then some ([])
 else F117_l1 k p0 p1 k ([]:List S131) (0:Int)
theorem F117_spec {k:Nat} {p0:Int} {p1:(List (List S131))} {r:(List S131)} (h:F117 k p0 p1=some r):Spec Try.prog 117 [(eI64 p0),(.fz 1 (p1.map e68))] (e68 r):=by
 rw[F117.eq_1]at h
 refine Spec.intro (res:=[.tmp 4]) Try.func117 rfl rfl rfl (Nat.le_of_ble_eq_true rfl) ?_
 refine .a 6 ?_
 obtain⟨b3,q4,h⟩:=ob h
 refine .regM [(0,(eI64 p0)),(1,(.fz 1 (p1.map e68))),(17,(eBool b3))] [] ?_ ?_
 ·refine .a 1 ?_
  obtain⟨t5,et5,q4⟩:=ob q4
  refine .callS [(eI64 p0)] (eI64 t5) 9 rfl (by decide) ok118 rfl rfl rfl ⟨rfl,rfl,trivial⟩ (F118_spec et5) ?_
  refine .a 4 ?_
  rcases oi q4 with⟨c6,q4⟩|⟨c6,q4⟩
  ·refine .a 4 ?_
   cases q4
   refine .nilE ⟨rfl,rfl⟩ ?_ ?_
   ·exact⟨rfl,rfl,rfl,trivial⟩
   exact(.refl _)
  refine .a 4 ?_
  cases q4
  refine .nilE ⟨rfl,rfl⟩ ?_ ?_
  ·exact⟨rfl,rfl,rfl,trivial⟩
  exact(.refl _)
 rcases oi h with⟨c7,h⟩|⟨c7,h⟩
 ·refine .a 4 ?_
  refine .nK [4] ?_
  refine .coeC 4 (y':=(Z11 ([]:List S131))) rfl Coe.nil ?_
  refine .rK [4] ?_
  cases h
  exact⟨[(Z11 ([]:List S131))],⟨rfl,rfl,trivial⟩,rfl⟩
 refine .a 5 ?_
 refine .nK [0,1,5] ?_
 refine .seq_mid (fun ρ H=>∃ (n8:Nat) (x9:(List S131)),ρ=[(0,(eI64 p0)),(5,(.own n8 0 x9.length))]∧H=[(n8,(.mem (.ar 5 (x9.map e131))))]∧F117_c0 k p0 x9=some r) ?_ ?_
 ·refine .a 7 ?_
  refine .nilOwn 5 5 rfl fun n22=>?_
  refine .wK [0,5,18,19,20] ?_
  refine .loop (fun kq ρ H=>∃ (n13:Nat) (x14:(List S131)) (x15:Int),ρ=[(0,(eI64 p0)),(5,(.own n13 0 x14.length)),(18,(.fz 1 (p1.map e68))),(19,(eI64 (p1.length:Int))),(20,(eI64 x15))]∧H=[(n13,(.mem (.ar 5 (x14.map e131))))]∧F117_l1 k p0 p1 kq x14 x15=some r) k ⟨n22,([]:List S131),(0:Int),rfl,rfl,h⟩ ?_
  rintro kq17 _ _ ⟨n13,x14,x15,rfl,rfl,h⟩
  cases kq17 with
  | zero=>rw[F117_l1.eq_1]at h;cases h
  | succ kq17=>
  rw[F117_l1.eq_2]at h
  generalize hrec16:F117_l1 k p0 p1 kq17=rec16 at h
  refine .a 5 ?_
  rcases oi h with⟨c18,h⟩|⟨c18,h⟩
  ·refine .a 6 ?_
   obtain⟨g19,h⟩:=of_guard h
   refine .a 7 ?_
   obtain⟨g21,h⟩:=of_guard h
   refine .appendL (l:=x14) (m:=(lget p1 x15)) 0 26 rfl (by decide) rfl rfl rfl rfl rfl Src.fz Try.underlying68 Try.underlying68 sz131 by131 zr131 rfl g21 (by decide) fun n20=>?_
   refine .a 5 ?_
   refine .nK [0,5,18,19,20] ?_
   exact⟨kq17,Nat.lt_succ_self _,n20,(x14++(lget p1 x15)),(w64 (x15+(1:Int))),rfl,rfl,by rw[hrec16];exact h⟩
  refine .a 1 ?_
  refine .eK [0,5] ?_
  exact⟨n13,x14,rfl,rfl,h⟩
 rintro _ _ ⟨n8,x9,rfl,rfl,h⟩
 rw[F117_c0.eq_1]at h
 refine .a 4 ?_
 refine .c (x:=(Z21 p0 ((Vector.replicate 4 (0:Int)).toList.map eU64))) (.build (qs:=[(0,(eI64 p0))]) rfl ⟨rfl,rfl,rfl,trivial⟩ Try.underlying131 rfl zr131 lay131 (.cons rfl rfl rfl rfl (.cast (.fld0 .here) rfl) .nil) rfl) ?_
 refine .lit (Z:=(Z21 (0:Int) ((Vector.replicate 4 (0:Int)).toList.map eU64))) (xs:=(([(S131.mk p0 (Vector.replicate 4 (0:Int)))]:List S131).map e131)) (qs:=[(0,(e131 (S131.mk p0 (Vector.replicate 4 (0:Int)))))]) rfl 31 rfl (by decide) rfl ⟨rfl,rfl,rfl,trivial⟩ Try.underlying68 sz131 zr131 lay131 rfl (by decide) (litOK (z:=5) [(e131 (S131.mk p0 (Vector.replicate 4 (0:Int))))] rfl ⟨⟨rfl,rfl⟩,trivial⟩) rfl fun n10=>?_
 obtain⟨g12,h⟩:=of_guard h
 refine .appendL (l:=x9) (m:=([(S131.mk p0 (Vector.replicate 4 (0:Int)))]:List S131)) 1 32 rfl (by decide) rfl rfl rfl rfl rfl (Src.ownL (f:=e131) (l:=([(S131.mk p0 (Vector.replicate 4 (0:Int)))]:List S131)) 0 rfl) Try.underlying68 Try.underlying68 sz131 by131 zr131 rfl g12 (by decide) fun n11=>?_
 refine .a 1 ?_
 refine .nS [4] [1] ?_
 refine .freezeS 0 [(4,(Z11 (x9++([(S131.mk p0 (Vector.replicate 4 (0:Int)))]:List S131))))] rfl ⟨fz_all rfl,trivial⟩ ?_
 refine .rK [4] ?_
 cases h
 exact⟨[(Z11 (x9++([(S131.mk p0 (Vector.replicate 4 (0:Int)))]:List S131)))],⟨rfl,rfl,trivial⟩,rfl⟩
def F133_c0 (k:Nat):Option Bool:=
 some (false)
def F133_l1 (k:Nat) (p0:S140) (p1:ByteArray):Nat→Int→Option Bool
 | 0,_=>none
 | j+1,x4=>
   if x4<(p1.size:Int)then if 0≤p0.f1∧p0.f1<(p0.f0.size:Int)then if 0≤x4∧x4<(p1.size:Int)then if(byteAt p0.f0 p0.f1)=(byteAt p1 x4)then some (true)
   else(F133_l1 k p0 p1 j) (w64 (x4+(1:Int)))
   else none
   else none
   else F133_c0 k
def F133 (k:Nat) (p0:S140) (p1:ByteArray):Option Bool:=
 if(p0.f0.size:Int)≤p0.f1 then some (true)
 else F133_l1 k p0 p1 k (0:Int)
theorem F133_spec {k:Nat} {p0:S140} {p1:ByteArray} {r:Bool} (h:F133 k p0 p1=some r) {q0:Nat} {T0:Heap}:SpecH Try.prog 133 [(.ptr q0 0),(eStr p1)] ((q0,(.mem (e140 p0)))::T0) (fun x H'=>x=eBool r∧Sub ((q0,(.mem (e140 p0)))::T0) H'):=by
 rw[F133.eq_1]at h
 refine SpecH.intro (res:=[.tmp 4]) Try.func133 rfl rfl rfl (Nat.le_of_ble_eq_true rfl) ?_
 refine .a 6 ?_
 refine .regQ (by rfl) (by decide+kernel) ?_
 refine .a 11 ?_
 rcases oi h with⟨c3,h⟩|⟨c3,h⟩
 ·refine .a 4 ?_
  refine .nK [4] ?_
  refine .rK [4] ?_
  have hr:=Option.some.inj h
  subst hr
  exact⟨[(eBool true)],⟨rfl,rfl,trivial⟩,rfl,(.cons 0 rfl (.refl _))⟩
 refine .a 1 ?_
 refine .sK [0,1] ?_
 refine .seq_mid (fun ρ H=>ρ=[]∧H=((q0,(.mem (e140 p0)))::T0)∧F133_c0 k=some r) ?_ ?_
 ·refine .a 7 ?_
  refine .wK [0,1,17,18] ?_
  refine .loop (fun kq ρ H=>∃ (x4:Int),ρ=[(0,(.ptr q0 0)),(1,(eStr p1)),(17,(eI64 (p1.size:Int))),(18,(eI64 x4))]∧H=((q0,(.mem (e140 p0)))::T0)∧F133_l1 k p0 p1 kq x4=some r) k ⟨(0:Int),rfl,rfl,h⟩ ?_
  rintro kq6 _ _ ⟨x4,rfl,rfl,h⟩
  cases kq6 with
  | zero=>rw[F133_l1.eq_1]at h;cases h
  | succ kq6=>
  rw[F133_l1.eq_2]at h
  generalize hrec5:F133_l1 k p0 p1 kq6=rec5 at h
  refine .a 5 ?_
  rcases oi h with⟨c7,h⟩|⟨c7,h⟩
  ·refine .a 10 ?_
   refine .regQ (by rfl) (by decide+kernel) ?_
   refine .a 8 ?_
   obtain⟨g8,h⟩:=of_guard h
   refine .a 3 ?_
   obtain⟨g9,h⟩:=of_guard h
   refine .a 3 ?_
   rcases oi h with⟨c10,h⟩|⟨c10,h⟩
   ·refine .a 4 ?_
    refine .nK [4] ?_
    refine .rK [4] ?_
    have hr:=Option.some.inj h
    subst hr
    exact⟨[(eBool true)],⟨rfl,rfl,trivial⟩,rfl,(.cons 0 rfl (.refl _))⟩
   refine .a 5 ?_
   refine .nK [0,1,17,18] ?_
   exact⟨kq6,Nat.lt_succ_self _,(w64 (x4+(1:Int))),rfl,rfl,by rw[hrec5];exact h⟩
  refine .a 1 ?_
  refine .eK [] ?_
  exact⟨rfl,rfl,h⟩
 rintro _ _ ⟨rfl,rfl,h⟩
 rw[F133_c0.eq_1]at h
 refine .a 3 ?_
 refine .nK [4] ?_
 refine .rK [4] ?_
 have hr:=Option.some.inj h
 subst hr
 exact⟨[(eBool false)],⟨rfl,rfl,trivial⟩,rfl,(.cons 0 rfl (.refl _))⟩
def F142 (k:Nat):Option (Vector Int 4):=
 some ((vset (vset (vset (vset (Vector.replicate 4 (0:Int)) (0:Int) (18446744073709551615:Int)) (1:Int) (18446744073709551615:Int)) (2:Int) (18446744073709551615:Int)) (3:Int) (18446744073709551615:Int)))
theorem F142_spec {k:Nat} {r:(Vector Int 4)} (h:F142 k=some r):Spec Try.prog 142 [] (e62 r):=by
 rw[F142.eq_1]at h
 refine Spec.intro (res:=[.cell 0 62]) Try.func142 rfl rfl rfl (Nat.le_of_ble_eq_true rfl) ?_
 refine .sr ?_
 refine .alloc rfl 0 rfl (by decide) rfl zr62 lay62 fun n1=>?_
 refine .a 3 ?_
 refine .c (x:=.ar 1 ((vset (vset (vset (vset (Vector.replicate 4 (0:Int)) (0:Int) (18446744073709551615:Int)) (1:Int) (18446744073709551615:Int)) (2:Int) (18446744073709551615:Int)) (3:Int) (18446744073709551615:Int)).toList.map eU64)) (.buildAr (qs:=[(0,(eU64 (18446744073709551615:Int))),(1,(eU64 (18446744073709551615:Int))),(2,(eU64 (18446744073709551615:Int))),(3,(eU64 (18446744073709551615:Int)))]) rfl ⟨rfl,rfl,rfl,rfl,rfl,rfl,rfl,rfl,rfl,rfl,rfl,rfl,trivial⟩ Try.underlying62 sz60 zr62 lay62 (.cons rfl rfl rfl rfl (.cast (.vidx (0:Int) (18446744073709551615:Int) (by decide) (by decide) .here) rfl) (.cons rfl rfl rfl rfl (.cast (.vidx (1:Int) (18446744073709551615:Int) (by decide) (by decide) .here) rfl) (.cons rfl rfl rfl rfl (.cast (.vidx (2:Int) (18446744073709551615:Int) (by decide) (by decide) .here) rfl) (.cons rfl rfl rfl rfl (.cast (.vidx (3:Int) (18446744073709551615:Int) (by decide) (by decide) .here) rfl) .nil)))) rfl) ?_
 refine .store 0 rfl rfl rfl rfl rfl rfl (.cast .here rfl) rfl (by simp[AV.size]) (by rw[sz62];simp[AV.size]) rfl ?_
 refine .nK [0] ?_
 refine .rK [0] ?_
 cases h
 exact⟨[(.ar 1 ((vset (vset (vset (vset (Vector.replicate 4 (0:Int)) (0:Int) (18446744073709551615:Int)) (1:Int) (18446744073709551615:Int)) (2:Int) (18446744073709551615:Int)) (3:Int) (18446744073709551615:Int)).toList.map eU64))],⟨⟨_,0,rfl,rfl,ag62,(by rw[sz62];simp[AV.size])⟩,trivial⟩,rfl⟩
def F150 (k:Nat) (p0:Int):Option Int:=
 Option.bind (α:=Bool) (if(48:Int)≤p0 then some (decide (p0≤(57:Int)))
 else some (false)) fun b2=>
 if b2=true then some ((w64 (w8 (p0 - (48:Int)))))
 else Option.bind (α:=Bool) (if(97:Int)≤p0 then some (decide (p0≤(102:Int)))
 else some (false)) fun b6=>
 if b6=true then some ((w64 ((w64 (w8 (p0 - (97:Int))))+(10:Int))))
 else some ((-1:Int))
theorem F150_spec {k:Nat} {p0:Int} {r:Int} (h:F150 k p0=some r):Spec Try.prog 150 [(eU8 p0)] (eI64 r):=by
 rw[F150.eq_1]at h
 refine Spec.intro (res:=[.tmp 2]) Try.func150 rfl rfl rfl (Nat.le_of_ble_eq_true rfl) ?_
 refine .a 7 ?_
 obtain⟨b2,q3,h⟩:=ob h
 refine .regM [(0,(eU8 p0)),(3,(eBool b2))] [] ?_ ?_
 ·refine .a 3 ?_
  rcases oi q3 with⟨c4,q3⟩|⟨c4,q3⟩
  ·refine .a 4 ?_
   cases q3
   refine .nilE ⟨rfl,rfl⟩ ?_ ?_
   ·exact⟨rfl,rfl,trivial⟩
   exact(.refl _)
  refine .a 4 ?_
  cases q3
  refine .nilE ⟨rfl,rfl⟩ ?_ ?_
  ·exact⟨rfl,rfl,trivial⟩
  exact(.refl _)
 rcases oi h with⟨c5,h⟩|⟨c5,h⟩
 ·refine .a 7 ?_
  refine .nK [2] ?_
  refine .rK [2] ?_
  cases h
  exact⟨[(eI64 (w64 (w8 (p0 - (48:Int)))))],⟨rfl,rfl,trivial⟩,rfl⟩
 refine .a 2 ?_
 obtain⟨b6,q7,h⟩:=ob h
 refine .regM [(0,(eU8 p0)),(13,(eBool b6))] [] ?_ ?_
 ·refine .a 3 ?_
  rcases oi q7 with⟨c8,q7⟩|⟨c8,q7⟩
  ·refine .a 4 ?_
   cases q7
   refine .nilE ⟨rfl,rfl⟩ ?_ ?_
   ·exact⟨rfl,rfl,trivial⟩
   exact(.refl _)
  refine .a 4 ?_
  cases q7
  refine .nilE ⟨rfl,rfl⟩ ?_ ?_
  ·exact⟨rfl,rfl,trivial⟩
  exact(.refl _)
 rcases oi h with⟨c9,h⟩|⟨c9,h⟩
 ·refine .a 8 ?_
  refine .nK [2] ?_
  refine .rK [2] ?_
  cases h
  exact⟨[(eI64 (w64 ((w64 (w8 (p0 - (97:Int))))+(10:Int))))],⟨rfl,rfl,trivial⟩,rfl⟩
 refine .a 5 ?_
 refine .nK [2] ?_
 refine .rK [2] ?_
 cases h
 exact⟨[(eI64 (-1:Int))],⟨rfl,rfl,trivial⟩,rfl⟩
def F148_c0 (k:Nat) (p0:ByteArray):Option (Int×Int×Bool):=
 Option.bind (α:=Bool) (if(48:Int)≤(byteAt p0 (1:Int))then if(byteAt p0 (1:Int))≤(57:Int)then some (true)
 else if(97:Int)≤(byteAt p0 (1:Int))then if(byteAt p0 (1:Int))≤(122:Int)then some (true)
 else if(65:Int)≤(byteAt p0 (1:Int))then if(byteAt p0 (1:Int))≤(90:Int)then some (true)
 else if(byteAt p0 (1:Int))<(32:Int)then some (true)
 else some (decide ((126:Int)<(byteAt p0 (1:Int))))
 else if(byteAt p0 (1:Int))<(32:Int)then some (true)
 else some (decide ((126:Int)<(byteAt p0 (1:Int))))
 else if(65:Int)≤(byteAt p0 (1:Int))then if(byteAt p0 (1:Int))≤(90:Int)then some (true)
 else if(byteAt p0 (1:Int))<(32:Int)then some (true)
 else some (decide ((126:Int)<(byteAt p0 (1:Int))))
 else if(byteAt p0 (1:Int))<(32:Int)then some (true)
 else some (decide ((126:Int)<(byteAt p0 (1:Int))))
 else if(97:Int)≤(byteAt p0 (1:Int))then if(byteAt p0 (1:Int))≤(122:Int)then some (true)
 else if(65:Int)≤(byteAt p0 (1:Int))then if(byteAt p0 (1:Int))≤(90:Int)then some (true)
 else if(byteAt p0 (1:Int))<(32:Int)then some (true)
 else some (decide ((126:Int)<(byteAt p0 (1:Int))))
 else if(byteAt p0 (1:Int))<(32:Int)then some (true)
 else some (decide ((126:Int)<(byteAt p0 (1:Int))))
 else if(65:Int)≤(byteAt p0 (1:Int))then if(byteAt p0 (1:Int))≤(90:Int)then some (true)
 else if(byteAt p0 (1:Int))<(32:Int)then some (true)
 else some (decide ((126:Int)<(byteAt p0 (1:Int))))
 else if(byteAt p0 (1:Int))<(32:Int)then some (true)
 else some (decide ((126:Int)<(byteAt p0 (1:Int))))) fun b8=>
 if b8=true then some ((0:Int),(0:Int),false)
 else some ((byteAt p0 (1:Int)),(2:Int),true)
def F148_c1 (k:Nat):Option (Int×Int×Bool):=
 some ((0:Int),(0:Int),false)
def F148_c2 (k:Nat) (p0:ByteArray):Option (Int×Int×Bool):=
 Option.bind (α:=Bool) (if(4:Int)≤(p0.size:Int)then if 0≤(2:Int)∧(2:Int)<(p0.size:Int)then(F150 k (byteAt p0 (2:Int))).bind fun t37=>
 if(0:Int)≤t37 then if 0≤(3:Int)∧(3:Int)<(p0.size:Int)then(F150 k (byteAt p0 (3:Int))).bind fun t40=>
 some (decide ((0:Int)≤t40))
 else none
 else some (false)
 else none
 else some (false)) fun b33=>
 if b33=true then if 0≤(2:Int)∧(2:Int)<(p0.size:Int)then(F150 k (byteAt p0 (2:Int))).bind fun t43=>
 if 0≤(3:Int)∧(3:Int)<(p0.size:Int)then(F150 k (byteAt p0 (3:Int))).bind fun t45=>
 some ((w8 (bits .or .i64 (IntKind.i64.wrap (t43*2 ^ (min (4:Int).toNat IntKind.i64.bits))) t45)),(4:Int),true)
 else none
 else none
 else F148_c1 k
def F148_c3 (k:Nat):Option (Int×Int×Bool):=
 some ((13:Int),(2:Int),true)
def F148_c4 (k:Nat):Option (Int×Int×Bool):=
 some ((9:Int),(2:Int),true)
def F148_c5 (k:Nat):Option (Int×Int×Bool):=
 some ((10:Int),(2:Int),true)
def F148 (k:Nat) (p0:ByteArray):Option (Int×Int×Bool):=
 if p0=(ByteArray.mk #[])then some ((0:Int),(0:Int),false)
 else if 0≤(0:Int)∧(0:Int)<(p0.size:Int)then if(byteAt p0 (0:Int))≠(92:Int)then if 0≤(0:Int)∧(0:Int)<(p0.size:Int)then some ((byteAt p0 (0:Int)),(1:Int),true)
 else none
 else if(p0.size:Int)<(2:Int)then some ((0:Int),(0:Int),false)
 else if 0≤(1:Int)∧(1:Int)<(p0.size:Int)then if(byteAt p0 (1:Int))=(110:Int)then F148_c5 k
 else if(byteAt p0 (1:Int))=(116:Int)then F148_c4 k
 else if(byteAt p0 (1:Int))=(114:Int)then F148_c3 k
 else if(byteAt p0 (1:Int))=(120:Int)then F148_c2 k p0
 else if(byteAt p0 (1:Int))=(0:Int)then F148_c1 k
 else F148_c0 k p0
 else none
 else none
theorem F148_spec {k:Nat} {p0:ByteArray} {r:(Int×Int×Bool)} (h:F148 k p0=some r):Spec Try.prog 148 [(eStr p0)] (.tup [(eU8 r.1),(eI64 r.2.1),(eBool r.2.2)]):=by
 rw[F148.eq_1]at h
 refine Spec.intro (res:=[.tmp 2,.tmp 3,.tmp 4]) Try.func148 rfl rfl rfl (Nat.le_of_ble_eq_true rfl) ?_
 refine .a 14 ?_
 rcases oi h with⟨c2,h⟩|⟨c2,h⟩
 ·refine .a 6 ?_
  refine .nK [2,3,4] ?_
  refine .rK [2,3,4] ?_
  have hr:=Option.some.inj h
  subst hr
  exact⟨[(eU8 (0:Int)),(eI64 (0:Int)),(eBool false)],⟨rfl,rfl,rfl,rfl,rfl,rfl,trivial⟩,rfl⟩
 refine .a 4 ?_
 obtain⟨g3,h⟩:=of_guard h
 refine .a 4 ?_
 rcases oi h with⟨c4,h⟩|⟨c4,h⟩
 ·refine .a 4 ?_
  obtain⟨g5,h⟩:=of_guard h
  refine .a 4 ?_
  refine .nK [2,3,4] ?_
  refine .rK [2,3,4] ?_
  have hr:=Option.some.inj h
  subst hr
  exact⟨[(eU8 (byteAt p0 (0:Int))),(eI64 (1:Int)),(eBool true)],⟨rfl,rfl,rfl,rfl,rfl,rfl,trivial⟩,rfl⟩
 refine .a 8 ?_
 rcases oi h with⟨c6,h⟩|⟨c6,h⟩
 ·refine .a 6 ?_
  refine .nK [2,3,4] ?_
  refine .rK [2,3,4] ?_
  have hr:=Option.some.inj h
  subst hr
  exact⟨[(eU8 (0:Int)),(eI64 (0:Int)),(eBool false)],⟨rfl,rfl,rfl,rfl,rfl,rfl,trivial⟩,rfl⟩
 refine .a 5 ?_
 obtain⟨g7,h⟩:=of_guard h
 refine .a 2 ?_
 refine .nK [0,5] ?_
 refine .seq_mid (fun ρ H=>ρ=[(5,(eU8 (byteAt p0 (1:Int))))]∧H=[]∧F148_c0 k p0=some r) ?_ ?_
 ·refine .a 5 ?_
  refine .seq_mid (fun ρ H=>ρ=[]∧H=[]∧F148_c1 k=some r) ?_ ?_
  ·refine .a 1 ?_
   refine .seq_mid (fun ρ H=>ρ=[(0,(eStr p0))]∧H=[]∧F148_c2 k p0=some r) ?_ ?_
   ·refine .a 1 ?_
    refine .seq_mid (fun ρ H=>ρ=[]∧H=[]∧F148_c3 k=some r) ?_ ?_
    ·refine .a 1 ?_
     refine .seq_mid (fun ρ H=>ρ=[]∧H=[]∧F148_c4 k=some r) ?_ ?_
     ·refine .a 1 ?_
      refine .seq_mid (fun ρ H=>ρ=[]∧H=[]∧F148_c5 k=some r) ?_ ?_
      ·refine .a 8 ?_
       rcases oi h with⟨c46,h⟩|⟨c46,h⟩
       ·refine .a 1 ?_
        refine .eK [] ?_
        exact⟨rfl,rfl,h⟩
       refine .a 8 ?_
       rcases oi h with⟨c47,h⟩|⟨c47,h⟩
       ·refine .a 1 ?_
        refine .eK [] ?_
        exact⟨rfl,rfl,h⟩
       refine .a 8 ?_
       rcases oi h with⟨c48,h⟩|⟨c48,h⟩
       ·refine .a 1 ?_
        refine .eK [] ?_
        exact⟨rfl,rfl,h⟩
       refine .a 8 ?_
       rcases oi h with⟨c49,h⟩|⟨c49,h⟩
       ·refine .a 1 ?_
        refine .eK [0] ?_
        exact⟨rfl,rfl,h⟩
       refine .a 7 ?_
       rcases oi h with⟨c50,h⟩|⟨c50,h⟩
       ·refine .a 1 ?_
        refine .eK [] ?_
        exact⟨rfl,rfl,h⟩
       refine .a 1 ?_
       refine .sK [5] ?_
       refine .eK [5] ?_
       exact⟨rfl,rfl,h⟩
      rintro _ _ ⟨rfl,rfl,h⟩
      rw[F148_c5.eq_1]at h
      refine .a 6 ?_
      refine .nK [2,3,4] ?_
      refine .rK [2,3,4] ?_
      have hr:=Option.some.inj h
      subst hr
      exact⟨[(eU8 (10:Int)),(eI64 (2:Int)),(eBool true)],⟨rfl,rfl,rfl,rfl,rfl,rfl,trivial⟩,rfl⟩
     rintro _ _ ⟨rfl,rfl,h⟩
     rw[F148_c4.eq_1]at h
     refine .a 6 ?_
     refine .nK [2,3,4] ?_
     refine .rK [2,3,4] ?_
     have hr:=Option.some.inj h
     subst hr
     exact⟨[(eU8 (9:Int)),(eI64 (2:Int)),(eBool true)],⟨rfl,rfl,rfl,rfl,rfl,rfl,trivial⟩,rfl⟩
    rintro _ _ ⟨rfl,rfl,h⟩
    rw[F148_c3.eq_1]at h
    refine .a 6 ?_
    refine .nK [2,3,4] ?_
    refine .rK [2,3,4] ?_
    have hr:=Option.some.inj h
    subst hr
    exact⟨[(eU8 (13:Int)),(eI64 (2:Int)),(eBool true)],⟨rfl,rfl,rfl,rfl,rfl,rfl,trivial⟩,rfl⟩
   rintro _ _ ⟨rfl,rfl,h⟩
   rw[F148_c2.eq_1]at h
   refine .seq ?_
   obtain⟨b33,q34,h⟩:=ob h
   refine .regM [(0,(eStr p0)),(46,(eBool b33))] [] ?_ ?_
   ·refine .a 4 ?_
    rcases oi q34 with⟨c35,q34⟩|⟨c35,q34⟩
    ·refine .a 1 ?_
     obtain⟨g36,q34⟩:=of_guard q34
     refine .a 1 ?_
     obtain⟨t37,et37,q34⟩:=ob q34
     refine .callG 3 true 35 [(eU8 (byteAt p0 (2:Int)))] (eI64 t37) 38 rfl (by decide) ok150 rfl rfl (bD (decide_eq_true c35)) rfl rfl ⟨rfl,rfl,trivial⟩ (F150_spec et37) ?_
     refine .a 3 ?_
     rcases oi q34 with⟨c38,q34⟩|⟨c38,q34⟩
     ·refine .a 1 ?_
      obtain⟨g39,q34⟩:=of_guard q34
      refine .a 1 ?_
      obtain⟨t40,et40,q34⟩:=ob q34
      refine .callG 9 true 41 [(eU8 (byteAt p0 (3:Int)))] (eI64 t40) 44 rfl (by decide) ok150 rfl rfl (bD (decide_eq_true c38)) rfl rfl ⟨rfl,rfl,trivial⟩ (F150_spec et40) ?_
      refine .a 2 ?_
      cases q34
      refine .nilE ⟨rfl,rfl⟩ ?_ ?_
      ·exact⟨rfl,rfl,trivial⟩
      exact(.refl _)
     refine .a 5 ?_
     cases q34
     refine .nilE ⟨rfl,rfl⟩ ?_ ?_
     ·exact⟨rfl,rfl,trivial⟩
     exact(.refl _)
    refine .a 11 ?_
    cases q34
    refine .nilE ⟨rfl,rfl⟩ ?_ ?_
    ·exact⟨rfl,rfl,trivial⟩
    exact(.refl _)
   rcases oi h with⟨c41,h⟩|⟨c41,h⟩
   ·refine .a 2 ?_
    refine .regQ (by rfl) (by decide+kernel) ?_
    refine .a 1 ?_
    obtain⟨g42,h⟩:=of_guard h
    refine .a 1 ?_
    obtain⟨t43,et43,h⟩:=ob h
    refine .c (.call (args:=[(eU8 (byteAt p0 (2:Int)))]) rfl rfl ok150 ⟨rfl,rfl,trivial⟩ rfl (F150_spec et43)) ?_
    refine .c (x:=eI64 (IntKind.i64.wrap (t43*2 ^ (min (4:Int).toNat IntKind.i64.bits)))) (.shl rfl rfl rfl (by decide)) ?_
    refine .a 1 ?_
    obtain⟨g44,h⟩:=of_guard h
    refine .a 1 ?_
    obtain⟨t45,et45,h⟩:=ob h
    refine .c (.call (args:=[(eU8 (byteAt p0 (3:Int)))]) rfl rfl ok150 ⟨rfl,rfl,trivial⟩ rfl (F150_spec et45)) ?_
    refine .a 5 ?_
    refine .nK [2,3,4] ?_
    refine .rK [2,3,4] ?_
    have hr:=Option.some.inj h
    subst hr
    exact⟨[(eU8 (w8 (bits .or .i64 (IntKind.i64.wrap (t43*2 ^ (min (4:Int).toNat IntKind.i64.bits))) t45))),(eI64 (4:Int)),(eBool true)],⟨rfl,rfl,rfl,rfl,rfl,rfl,trivial⟩,rfl⟩
   refine .a 1 ?_
   refine .sK [] ?_
   exact⟨rfl,rfl,h⟩
  rintro _ _ ⟨rfl,rfl,h⟩
  rw[F148_c1.eq_1]at h
  refine .a 6 ?_
  refine .nK [2,3,4] ?_
  refine .rK [2,3,4] ?_
  have hr:=Option.some.inj h
  subst hr
  exact⟨[(eU8 (0:Int)),(eI64 (0:Int)),(eBool false)],⟨rfl,rfl,rfl,rfl,rfl,rfl,trivial⟩,rfl⟩
 rintro _ _ ⟨rfl,rfl,h⟩
 rw[F148_c0.eq_1]at h
 refine .a 2 ?_
 obtain⟨b8,q9,h⟩:=ob h
 refine .regM [(5,(eU8 (byteAt p0 (1:Int)))),(85,(eBool b8))] [] ?_ ?_
 ·refine .a 3 ?_
  rcases oi q9 with⟨c10,q9⟩|⟨c10,q9⟩
  ·refine .a 4 ?_
   rcases oi q9 with⟨c11,q9⟩|⟨c11,q9⟩
   ·refine .a 23 ?_
    cases q9
    refine .nilE ⟨rfl,rfl⟩ ?_ ?_
    ·exact⟨rfl,rfl,trivial⟩
    exact(.refl _)
   refine .a 3 ?_
   rcases oi q9 with⟨c12,q9⟩|⟨c12,q9⟩
   ·refine .a 5 ?_
    rcases oi q9 with⟨c13,q9⟩|⟨c13,q9⟩
    ·refine .a 15 ?_
     cases q9
     refine .nilE ⟨rfl,rfl⟩ ?_ ?_
     ·exact⟨rfl,rfl,trivial⟩
     exact(.refl _)
    refine .a 3 ?_
    rcases oi q9 with⟨c14,q9⟩|⟨c14,q9⟩
    ·refine .a 5 ?_
     rcases oi q9 with⟨c15,q9⟩|⟨c15,q9⟩
     ·refine .a 7 ?_
      cases q9
      refine .nilE ⟨rfl,rfl⟩ ?_ ?_
      ·exact⟨rfl,rfl,trivial⟩
      exact(.refl _)
     refine .a 4 ?_
     rcases oi q9 with⟨c16,q9⟩|⟨c16,q9⟩
     ·refine .a 3 ?_
      cases q9
      refine .nilE ⟨rfl,rfl⟩ ?_ ?_
      ·exact⟨rfl,rfl,trivial⟩
      exact(.refl _)
     refine .a 3 ?_
     cases q9
     refine .nilE ⟨rfl,rfl⟩ ?_ ?_
     ·exact⟨rfl,rfl,trivial⟩
     exact(.refl _)
    refine .a 9 ?_
    rcases oi q9 with⟨c17,q9⟩|⟨c17,q9⟩
    ·refine .a 3 ?_
     cases q9
     refine .nilE ⟨rfl,rfl⟩ ?_ ?_
     ·exact⟨rfl,rfl,trivial⟩
     exact(.refl _)
    refine .a 3 ?_
    cases q9
    refine .nilE ⟨rfl,rfl⟩ ?_ ?_
    ·exact⟨rfl,rfl,trivial⟩
    exact(.refl _)
   refine .a 8 ?_
   rcases oi q9 with⟨c18,q9⟩|⟨c18,q9⟩
   ·refine .a 5 ?_
    rcases oi q9 with⟨c19,q9⟩|⟨c19,q9⟩
    ·refine .a 7 ?_
     cases q9
     refine .nilE ⟨rfl,rfl⟩ ?_ ?_
     ·exact⟨rfl,rfl,trivial⟩
     exact(.refl _)
    refine .a 4 ?_
    rcases oi q9 with⟨c20,q9⟩|⟨c20,q9⟩
    ·refine .a 3 ?_
     cases q9
     refine .nilE ⟨rfl,rfl⟩ ?_ ?_
     ·exact⟨rfl,rfl,trivial⟩
     exact(.refl _)
    refine .a 3 ?_
    cases q9
    refine .nilE ⟨rfl,rfl⟩ ?_ ?_
    ·exact⟨rfl,rfl,trivial⟩
    exact(.refl _)
   refine .a 9 ?_
   rcases oi q9 with⟨c21,q9⟩|⟨c21,q9⟩
   ·refine .a 3 ?_
    cases q9
    refine .nilE ⟨rfl,rfl⟩ ?_ ?_
    ·exact⟨rfl,rfl,trivial⟩
    exact(.refl _)
   refine .a 3 ?_
   cases q9
   refine .nilE ⟨rfl,rfl⟩ ?_ ?_
   ·exact⟨rfl,rfl,trivial⟩
   exact(.refl _)
  refine .a 7 ?_
  rcases oi q9 with⟨c22,q9⟩|⟨c22,q9⟩
  ·refine .a 5 ?_
   rcases oi q9 with⟨c23,q9⟩|⟨c23,q9⟩
   ·refine .a 15 ?_
    cases q9
    refine .nilE ⟨rfl,rfl⟩ ?_ ?_
    ·exact⟨rfl,rfl,trivial⟩
    exact(.refl _)
   refine .a 3 ?_
   rcases oi q9 with⟨c24,q9⟩|⟨c24,q9⟩
   ·refine .a 5 ?_
    rcases oi q9 with⟨c25,q9⟩|⟨c25,q9⟩
    ·refine .a 7 ?_
     cases q9
     refine .nilE ⟨rfl,rfl⟩ ?_ ?_
     ·exact⟨rfl,rfl,trivial⟩
     exact(.refl _)
    refine .a 4 ?_
    rcases oi q9 with⟨c26,q9⟩|⟨c26,q9⟩
    ·refine .a 3 ?_
     cases q9
     refine .nilE ⟨rfl,rfl⟩ ?_ ?_
     ·exact⟨rfl,rfl,trivial⟩
     exact(.refl _)
    refine .a 3 ?_
    cases q9
    refine .nilE ⟨rfl,rfl⟩ ?_ ?_
    ·exact⟨rfl,rfl,trivial⟩
    exact(.refl _)
   refine .a 9 ?_
   rcases oi q9 with⟨c27,q9⟩|⟨c27,q9⟩
   ·refine .a 3 ?_
    cases q9
    refine .nilE ⟨rfl,rfl⟩ ?_ ?_
    ·exact⟨rfl,rfl,trivial⟩
    exact(.refl _)
   refine .a 3 ?_
   cases q9
   refine .nilE ⟨rfl,rfl⟩ ?_ ?_
   ·exact⟨rfl,rfl,trivial⟩
   exact(.refl _)
  refine .a 8 ?_
  rcases oi q9 with⟨c28,q9⟩|⟨c28,q9⟩
  ·refine .a 5 ?_
   rcases oi q9 with⟨c29,q9⟩|⟨c29,q9⟩
   ·refine .a 7 ?_
    cases q9
    refine .nilE ⟨rfl,rfl⟩ ?_ ?_
    ·exact⟨rfl,rfl,trivial⟩
    exact(.refl _)
   refine .a 4 ?_
   rcases oi q9 with⟨c30,q9⟩|⟨c30,q9⟩
   ·refine .a 3 ?_
    cases q9
    refine .nilE ⟨rfl,rfl⟩ ?_ ?_
    ·exact⟨rfl,rfl,trivial⟩
    exact(.refl _)
   refine .a 3 ?_
   cases q9
   refine .nilE ⟨rfl,rfl⟩ ?_ ?_
   ·exact⟨rfl,rfl,trivial⟩
   exact(.refl _)
  refine .a 9 ?_
  rcases oi q9 with⟨c31,q9⟩|⟨c31,q9⟩
  ·refine .a 3 ?_
   cases q9
   refine .nilE ⟨rfl,rfl⟩ ?_ ?_
   ·exact⟨rfl,rfl,trivial⟩
   exact(.refl _)
  refine .a 3 ?_
  cases q9
  refine .nilE ⟨rfl,rfl⟩ ?_ ?_
  ·exact⟨rfl,rfl,trivial⟩
  exact(.refl _)
 rcases oi h with⟨c32,h⟩|⟨c32,h⟩
 ·refine .a 6 ?_
  refine .nK [2,3,4] ?_
  refine .rK [2,3,4] ?_
  have hr:=Option.some.inj h
  subst hr
  exact⟨[(eU8 (0:Int)),(eI64 (0:Int)),(eBool false)],⟨rfl,rfl,rfl,rfl,rfl,rfl,trivial⟩,rfl⟩
 refine .a 8 ?_
 refine .nK [2,3,4] ?_
 refine .rK [2,3,4] ?_
 have hr:=Option.some.inj h
 subst hr
 exact⟨[(eU8 (byteAt p0 (1:Int))),(eI64 (2:Int)),(eBool true)],⟨rfl,rfl,rfl,rfl,rfl,rfl,trivial⟩,rfl⟩
def F144 (k:Nat) (p0:S140):Option (Int×Bool×S140):=
 if 0≤p0.f1∧p0.f1≤(p0.f0.size:Int)∧(p0.f0.size:Int)≤(p0.f0.size:Int)then(F148 k (p0.f0.extract p0.f1.toNat (p0.f0.size:Int).toNat)).bind fun t3=>
 some (t3.1,t3.2.2,(S140.mk p0.f0 (w64 (p0.f1+t3.2.1)) p0.f2))
 else none
theorem F144_spec {k:Nat} {p0:S140} {r:(Int×Bool×S140)} (h:F144 k p0=some r) {q0:Nat} {T0:Heap}:SpecH Try.prog 144 [(.ptr q0 0)] ((q0,(.mem (e140 p0)))::T0) (fun x H'=>x=.tup [(eU8 r.1),(eBool r.2.1)]∧Sub ((q0,(.mem (e140 r.2.2)))::T0) H'):=by
 rw[F144.eq_1]at h
 refine SpecH.intro (res:=[.tmp 2,.tmp 3]) Try.func144 rfl rfl rfl (Nat.le_of_ble_eq_true rfl) ?_
 refine .a 6 ?_
 refine .regQ (by rfl) (by decide+kernel) ?_
 refine .a 8 ?_
 obtain⟨g2,h⟩:=of_guard h
 refine .c (x:=eStr (p0.f0.extract p0.f1.toNat (p0.f0.size:Int).toNat)) (.sliceS rfl rfl rfl rfl g2 Try.underlying9) ?_
 obtain⟨t3,et3,h⟩:=ob h
 refine .c (.call (args:=[(eStr (p0.f0.extract p0.f1.toNat (p0.f0.size:Int).toNat))]) rfl rfl ok148 ⟨rfl,rfl,trivial⟩ rfl (F148_spec et3)) ?_
 refine .a 18 ?_
 refine .store 0 rfl rfl rfl rfl rfl rfl (.cast (.fldS (.fld0 .here)) rfl) rfl rfl sz3 rfl ?_
 refine .a 7 ?_
 refine .nK [2,3] ?_
 refine .rK [2,3] ?_
 cases h
 exact⟨[(eU8 t3.1),(eBool t3.2.2)],⟨rfl,rfl,rfl,rfl,trivial⟩,rfl,(.cons 0 rfl (.refl _))⟩
def F146_c0 (k:Nat) (x5:(Vector Int 4)):Option (Vector Int 4):=
 some (x5)
def F146_l1 (k:Nat) (p1:Int):Nat→(Vector Int 4)→Int→Option (Vector Int 4)
 | 0,_,_=>none
 | j+1,x6,x7=>
   if x7≤(w64 p1)then if 0≤(IntKind.i64.wrap (x7.tdiv (64:Int)))∧(IntKind.i64.wrap (x7.tdiv (64:Int)))<(4:Int)then if 0≤(u64 (x7.tmod (64:Int)))then if 0≤(IntKind.i64.wrap (x7.tdiv (64:Int)))∧(IntKind.i64.wrap (x7.tdiv (64:Int)))<(4:Int)then(F146_l1 k p1 j) (vset x6 (IntKind.i64.wrap (x7.tdiv (64:Int))) (bits .or .u64 (vget x6 (IntKind.i64.wrap (x7.tdiv (64:Int)))) (IntKind.u64.wrap ((1:Int)*2 ^ (min (u64 (x7.tmod (64:Int))).toNat IntKind.u64.bits))))) (w64 (x7+(1:Int)))
   else none
   else none
   else none
   else F146_c0 k x6
def F146 (k:Nat) (p0:Int) (p1:Int):Option (Vector Int 4):=
 F146_l1 k p1 k (Vector.replicate 4 (0:Int)) (w64 p0)
theorem F146_spec {k:Nat} {p0:Int} {p1:Int} {r:(Vector Int 4)} (h:F146 k p0 p1=some r):Spec Try.prog 146 [(eU8 p0),(eU8 p1)] (e62 r):=by
 rw[F146.eq_1]at h
 refine Spec.intro (res:=[.cell 4 62]) Try.func146 rfl rfl rfl (Nat.le_of_ble_eq_true rfl) ?_
 refine .sr ?_
 refine .alloc rfl 4 rfl (by decide) rfl zr62 lay62 fun n3=>?_
 refine .a 3 ?_
 refine .alloc rfl 5 rfl (by decide) rfl zr62 lay62 fun n4=>?_
 refine .nS [0,1,4,5] [1,0] ?_
 refine .seq_mid (fun ρ H=>∃ (x5:(Vector Int 4)),ρ=[(4,(.ptr n3 0)),(5,(.ptr n4 0))]∧H=[(Z13 n3 ((Vector.replicate 4 (0:Int)).toList.map eU64)),(Z13 n4 (x5.toList.map eU64))]∧F146_c0 k x5=some r) ?_ ?_
 ·refine .a 7 ?_
  refine .wK [1,4,5,6] ?_
  refine .loop (fun kq ρ H=>∃ (x6:(Vector Int 4)) (x7:Int),ρ=[(1,(eU8 p1)),(4,(.ptr n3 0)),(5,(.ptr n4 0)),(6,(eI64 x7))]∧H=[(Z13 n3 ((Vector.replicate 4 (0:Int)).toList.map eU64)),(Z13 n4 (x6.toList.map eU64))]∧F146_l1 k p1 kq x6 x7=some r) k ⟨(Vector.replicate 4 (0:Int)),(w64 p0),rfl,rfl,h⟩ ?_
  rintro kq9 _ _ ⟨x6,x7,rfl,rfl,h⟩
  cases kq9 with
  | zero=>rw[F146_l1.eq_1]at h;cases h
  | succ kq9=>
  rw[F146_l1.eq_2]at h
  generalize hrec8:F146_l1 k p1 kq9=rec8 at h
  refine .a 8 ?_
  rcases oi h with⟨c10,h⟩|⟨c10,h⟩
  ·refine .a 6 ?_
   refine .c (x:=eI64 (IntKind.i64.wrap (x7.tdiv (64:Int)))) (.quo rfl rfl rfl (by decide)) ?_
   obtain⟨g11,h⟩:=of_guard h
   refine .c (.idxP rfl rfl rfl g11 Try.underlying62 sz60) ?_
   refine .c (.load 1 rfl rfl rfl (.cast (.vidx (IntKind.i64.wrap (x7.tdiv (64:Int))) g11.1 g11.2 .here) (by omega)) ag60 sz60) ?_
   refine .mv rfl rfl ?_
   refine .c (x:=eI64 (x7.tmod (64:Int))) (.rem rfl rfl rfl (by decide)) ?_
   refine .a 1 ?_
   obtain⟨g12,h⟩:=of_guard h
   refine .c (x:=eU64 (IntKind.u64.wrap ((1:Int)*2 ^ (min (u64 (x7.tmod (64:Int))).toNat IntKind.u64.bits)))) (.shl rfl rfl rfl g12) ?_
   refine .a 1 ?_
   obtain⟨g13,h⟩:=of_guard h
   refine .c (.idxP rfl rfl rfl g13 Try.underlying62 sz60) ?_
   refine .store 1 rfl rfl rfl rfl rfl rfl (.cast (.vidx (IntKind.i64.wrap (x7.tdiv (64:Int))) (bits .or .u64 (vget x6 (IntKind.i64.wrap (x7.tdiv (64:Int)))) (IntKind.u64.wrap ((1:Int)*2 ^ (min (u64 (x7.tmod (64:Int))).toNat IntKind.u64.bits)))) g13.1 g13.2 .here) (by omega)) rfl rfl sz60 rfl ?_
   refine .a 5 ?_
   refine .nK [1,4,5,6] ?_
   exact⟨kq9,Nat.lt_succ_self _,(vset x6 (IntKind.i64.wrap (x7.tdiv (64:Int))) (bits .or .u64 (vget x6 (IntKind.i64.wrap (x7.tdiv (64:Int)))) (IntKind.u64.wrap ((1:Int)*2 ^ (min (u64 (x7.tmod (64:Int))).toNat IntKind.u64.bits))))),(w64 (x7+(1:Int))),rfl,rfl,by rw[hrec8];exact h⟩
  refine .a 1 ?_
  refine .eK [4,5] ?_
  exact⟨x6,rfl,rfl,h⟩
 rintro _ _ ⟨x5,rfl,rfl,h⟩
 rw[F146_c0.eq_1]at h
 refine .a 3 ?_
 refine .store 0 rfl rfl rfl rfl rfl rfl (.cast .here rfl) rfl (by simp[AV.size]) (by rw[sz62];simp[AV.size]) rfl ?_
 refine .nS [4] [0] ?_
 refine .rK [4] ?_
 have hr:=Option.some.inj h
 subst hr
 exact⟨[(.ar 1 (x5.toList.map eU64))],⟨⟨_,0,rfl,rfl,ag62,(by rw[sz62];simp[AV.size])⟩,trivial⟩,rfl⟩
def F145_c0 (k:Nat) (x6:(Vector Int 4)):Option (Vector Int 4):=
 some (x6)
def F145_l1 (k:Nat) (p1:(Vector Int 4)):Nat→(Vector Int 4)→Int→Option (Vector Int 4)
 | 0,_,_=>none
 | j+1,x7,x8=>
   if x8<(4:Int)then if 0≤x8∧x8<(4:Int)then if 0≤x8∧x8<(4:Int)then if 0≤x8∧x8<(4:Int)then(F145_l1 k p1 j) (vset x7 x8 (bits .or .u64 (vget x7 x8) (vget p1 x8))) (w64 (x8+(1:Int)))
   else none
   else none
   else none
   else F145_c0 k x7
def F145 (k:Nat) (p0:(Vector Int 4)) (p1:(Vector Int 4)):Option (Vector Int 4):=
 F145_l1 k p1 k p0 (0:Int)
theorem F145_spec {k:Nat} {p0:(Vector Int 4)} {p1:(Vector Int 4)} {r:(Vector Int 4)} (h:F145 k p0 p1=some r):Spec Try.prog 145 [(.ar 1 (p0.toList.map eU64)),(.ar 1 (p1.toList.map eU64))] (e62 r):=by
 rw[F145.eq_1]at h
 refine Spec.intro (res:=[.cell 4 62]) Try.func145 rfl rfl rfl (Nat.le_of_ble_eq_true rfl) ?_
 refine .sr ?_
 refine .box rfl 2 rfl (by decide) rfl rfl rfl fun n3=>?_
 refine .box rfl 3 rfl (by decide) rfl rfl rfl fun n4=>?_
 refine .alloc rfl 4 rfl (by decide) rfl zr62 lay62 fun n5=>?_
 refine .nS [2,3,4] [2,1,0] ?_
 refine .seq_mid (fun ρ H=>∃ (x6:(Vector Int 4)),ρ=[(2,(.ptr n3 0)),(4,(.ptr n5 0))]∧H=[(Z13 n3 (x6.toList.map eU64)),(Z13 n5 ((Vector.replicate 4 (0:Int)).toList.map eU64))]∧F145_c0 k x6=some r) ?_ ?_
 ·refine .a 5 ?_
  refine .wK [2,3,4,6] ?_
  refine .loop (fun kq ρ H=>∃ (x7:(Vector Int 4)) (x8:Int),ρ=[(2,(.ptr n3 0)),(3,(.ptr n4 0)),(4,(.ptr n5 0)),(6,(eI64 x8))]∧H=[(Z13 n3 (x7.toList.map eU64)),(Z13 n4 (p1.toList.map eU64)),(Z13 n5 ((Vector.replicate 4 (0:Int)).toList.map eU64))]∧F145_l1 k p1 kq x7 x8=some r) k ⟨p0,(0:Int),rfl,rfl,h⟩ ?_
  rintro kq10 _ _ ⟨x7,x8,rfl,rfl,h⟩
  cases kq10 with
  | zero=>rw[F145_l1.eq_1]at h;cases h
  | succ kq10=>
  rw[F145_l1.eq_2]at h
  generalize hrec9:F145_l1 k p1 kq10=rec9 at h
  refine .a 5 ?_
  rcases oi h with⟨c11,h⟩|⟨c11,h⟩
  ·refine .a 9 ?_
   obtain⟨g12,h⟩:=of_guard h
   obtain⟨g13,h⟩:=of_guard h
   obtain⟨g14,h⟩:=of_guard h
   refine .regAnyL rfl rfl (by rfl) (by decide+kernel) (by decide+kernel) [(eI64 x8),(.ptr n3 (0+x8.toNat*1)),(eU64 (vget x7 x8)),(eI64 x8),(.ptr n4 (0+x8.toNat*1)),(eU64 (vget p1 x8)),(eU64 (bits .or .u64 (vget x7 x8) (vget p1 x8))),(.ptr n3 (0+x8.toNat*1))] [(2,(.ptr n3 0)),(3,(.ptr n4 0)),(4,(.ptr n5 0)),(5,(eI64 x8)),(6,(eI64 x8))] ⟨rfl,rfl,rfl,rfl,rfl,trivial⟩ rfl ?_ [(2,(.ptr n3 0)),(3,(.ptr n4 0)),(4,(.ptr n5 0)),(6,(eI64 x8)),(15,(eU64 (bits .or .u64 (vget x7 x8) (vget p1 x8)))),(16,(.ptr n3 (0+x8.toNat*1)))] ⟨rfl,rfl,rfl,rfl,rfl,rfl,trivial⟩ ?_
   ·refine⟨?_,?_,?_,?_,?_,?_,?_,?_,trivial⟩
    ·refine .a 1 ?_
     exact .q 9
    ·refine .a 1 ?_
     exact .q 10
    ·refine .wK [10] ?_
     refine .c (.load 0 rfl rfl rfl (.cast (.vidx x8 g12.1 g12.2 .here) (by omega)) ag60 sz60) ?_
     exact .q 11
    ·refine .a 1 ?_
     exact .q 12
    ·refine .a 1 ?_
     exact .q 13
    ·refine .wK [13] ?_
     refine .c (.load 1 rfl rfl rfl (.cast (.vidx x8 g13.1 g13.2 .here) (by omega)) ag60 sz60) ?_
     exact .q 14
    ·refine .a 1 ?_
     exact .q 15
    refine .a 1 ?_
    exact .q 16
   refine .store 0 rfl rfl rfl rfl rfl rfl (.cast (.vidx x8 (bits .or .u64 (vget x7 x8) (vget p1 x8)) g14.1 g14.2 .here) (by omega)) rfl rfl sz60 rfl ?_
   refine .a 4 ?_
   refine .nK [2,3,4,6] ?_
   exact⟨kq10,Nat.lt_succ_self _,(vset x7 x8 (bits .or .u64 (vget x7 x8) (vget p1 x8))),(w64 (x8+(1:Int))),rfl,rfl,by rw[hrec9];exact h⟩
  refine .a 1 ?_
  refine .eH [2,4] (H':=[(Z13 n3 (x7.toList.map eU64)),(Z13 n5 ((Vector.replicate 4 (0:Int)).toList.map eU64))]) (.cons 0 rfl (.cons 1 rfl (.nil _))) ?_
  exact⟨x7,rfl,rfl,h⟩
 rintro _ _ ⟨x6,rfl,rfl,h⟩
 rw[F145_c0.eq_1]at h
 refine .a 3 ?_
 refine .store 1 rfl rfl rfl rfl rfl rfl (.cast .here rfl) rfl (by simp[AV.size]) (by rw[sz62];simp[AV.size]) rfl ?_
 refine .nS [4] [1] ?_
 refine .rK [4] ?_
 have hr:=Option.some.inj h
 subst hr
 exact⟨[(.ar 1 (x6.toList.map eU64))],⟨⟨_,0,rfl,rfl,ag62,(by rw[sz62];simp[AV.size])⟩,trivial⟩,rfl⟩
def F149_c0 (k:Nat) (x6:(Vector Int 4)):Option (Vector Int 4):=
 some (x6)
def F149_l1 (k:Nat) (p1:(Vector Int 4)):Nat→(Vector Int 4)→Int→Option (Vector Int 4)
 | 0,_,_=>none
 | j+1,x7,x8=>
   if x8<(4:Int)then if 0≤x8∧x8<(4:Int)then if 0≤x8∧x8<(4:Int)then if 0≤x8∧x8<(4:Int)then(F149_l1 k p1 j) (vset x7 x8 (bits .andNot .u64 (vget x7 x8) (vget p1 x8))) (w64 (x8+(1:Int)))
   else none
   else none
   else none
   else F149_c0 k x7
def F149 (k:Nat) (p0:(Vector Int 4)) (p1:(Vector Int 4)):Option (Vector Int 4):=
 F149_l1 k p1 k p0 (0:Int)
theorem F149_spec {k:Nat} {p0:(Vector Int 4)} {p1:(Vector Int 4)} {r:(Vector Int 4)} (h:F149 k p0 p1=some r):Spec Try.prog 149 [(.ar 1 (p0.toList.map eU64)),(.ar 1 (p1.toList.map eU64))] (e62 r):=by
 rw[F149.eq_1]at h
 refine Spec.intro (res:=[.cell 4 62]) Try.func149 rfl rfl rfl (Nat.le_of_ble_eq_true rfl) ?_
 refine .sr ?_
 refine .box rfl 2 rfl (by decide) rfl rfl rfl fun n3=>?_
 refine .box rfl 3 rfl (by decide) rfl rfl rfl fun n4=>?_
 refine .alloc rfl 4 rfl (by decide) rfl zr62 lay62 fun n5=>?_
 refine .nS [2,3,4] [2,1,0] ?_
 refine .seq_mid (fun ρ H=>∃ (x6:(Vector Int 4)),ρ=[(2,(.ptr n3 0)),(4,(.ptr n5 0))]∧H=[(Z13 n3 (x6.toList.map eU64)),(Z13 n5 ((Vector.replicate 4 (0:Int)).toList.map eU64))]∧F149_c0 k x6=some r) ?_ ?_
 ·refine .a 5 ?_
  refine .wK [2,3,4,6] ?_
  refine .loop (fun kq ρ H=>∃ (x7:(Vector Int 4)) (x8:Int),ρ=[(2,(.ptr n3 0)),(3,(.ptr n4 0)),(4,(.ptr n5 0)),(6,(eI64 x8))]∧H=[(Z13 n3 (x7.toList.map eU64)),(Z13 n4 (p1.toList.map eU64)),(Z13 n5 ((Vector.replicate 4 (0:Int)).toList.map eU64))]∧F149_l1 k p1 kq x7 x8=some r) k ⟨p0,(0:Int),rfl,rfl,h⟩ ?_
  rintro kq10 _ _ ⟨x7,x8,rfl,rfl,h⟩
  cases kq10 with
  | zero=>rw[F149_l1.eq_1]at h;cases h
  | succ kq10=>
  rw[F149_l1.eq_2]at h
  generalize hrec9:F149_l1 k p1 kq10=rec9 at h
  refine .a 5 ?_
  rcases oi h with⟨c11,h⟩|⟨c11,h⟩
  ·refine .a 9 ?_
   obtain⟨g12,h⟩:=of_guard h
   obtain⟨g13,h⟩:=of_guard h
   obtain⟨g14,h⟩:=of_guard h
   refine .regAnyL rfl rfl (by rfl) (by decide+kernel) (by decide+kernel) [(eI64 x8),(.ptr n3 (0+x8.toNat*1)),(eU64 (vget x7 x8)),(eI64 x8),(.ptr n4 (0+x8.toNat*1)),(eU64 (vget p1 x8)),(eU64 (bits .andNot .u64 (vget x7 x8) (vget p1 x8))),(.ptr n3 (0+x8.toNat*1))] [(2,(.ptr n3 0)),(3,(.ptr n4 0)),(4,(.ptr n5 0)),(5,(eI64 x8)),(6,(eI64 x8))] ⟨rfl,rfl,rfl,rfl,rfl,trivial⟩ rfl ?_ [(2,(.ptr n3 0)),(3,(.ptr n4 0)),(4,(.ptr n5 0)),(6,(eI64 x8)),(15,(eU64 (bits .andNot .u64 (vget x7 x8) (vget p1 x8)))),(16,(.ptr n3 (0+x8.toNat*1)))] ⟨rfl,rfl,rfl,rfl,rfl,rfl,trivial⟩ ?_
   ·refine⟨?_,?_,?_,?_,?_,?_,?_,?_,trivial⟩
    ·refine .a 1 ?_
     exact .q 9
    ·refine .a 1 ?_
     exact .q 10
    ·refine .wK [10] ?_
     refine .c (.load 0 rfl rfl rfl (.cast (.vidx x8 g12.1 g12.2 .here) (by omega)) ag60 sz60) ?_
     exact .q 11
    ·refine .a 1 ?_
     exact .q 12
    ·refine .a 1 ?_
     exact .q 13
    ·refine .wK [13] ?_
     refine .c (.load 1 rfl rfl rfl (.cast (.vidx x8 g13.1 g13.2 .here) (by omega)) ag60 sz60) ?_
     exact .q 14
    ·refine .a 1 ?_
     exact .q 15
    refine .a 1 ?_
    exact .q 16
   refine .store 0 rfl rfl rfl rfl rfl rfl (.cast (.vidx x8 (bits .andNot .u64 (vget x7 x8) (vget p1 x8)) g14.1 g14.2 .here) (by omega)) rfl rfl sz60 rfl ?_
   refine .a 4 ?_
   refine .nK [2,3,4,6] ?_
   exact⟨kq10,Nat.lt_succ_self _,(vset x7 x8 (bits .andNot .u64 (vget x7 x8) (vget p1 x8))),(w64 (x8+(1:Int))),rfl,rfl,by rw[hrec9];exact h⟩
  refine .a 1 ?_
  refine .eH [2,4] (H':=[(Z13 n3 (x7.toList.map eU64)),(Z13 n5 ((Vector.replicate 4 (0:Int)).toList.map eU64))]) (.cons 0 rfl (.cons 1 rfl (.nil _))) ?_
  exact⟨x7,rfl,rfl,h⟩
 rintro _ _ ⟨x6,rfl,rfl,h⟩
 rw[F149_c0.eq_1]at h
 refine .a 3 ?_
 refine .store 1 rfl rfl rfl rfl rfl rfl (.cast .here rfl) rfl (by simp[AV.size]) (by rw[sz62];simp[AV.size]) rfl ?_
 refine .nS [4] [1] ?_
 refine .rK [4] ?_
 have hr:=Option.some.inj h
 subst hr
 exact⟨[(.ar 1 (x6.toList.map eU64))],⟨⟨_,0,rfl,rfl,ag62,(by rw[sz62];simp[AV.size])⟩,trivial⟩,rfl⟩
def F147 (k:Nat) (p0:(Vector Int 4)):Option (Vector Int 4):=
 (F142 k).bind fun t4=>
 (F149 k t4 p0).bind fun t5=>
 some (t5)
theorem F147_spec {k:Nat} {p0:(Vector Int 4)} {r:(Vector Int 4)} (h:F147 k p0=some r):Spec Try.prog 147 [(.ar 1 (p0.toList.map eU64))] (e62 r):=by
 rw[F147.eq_1]at h
 refine Spec.intro (res:=[.cell 2 62]) Try.func147 rfl rfl rfl (Nat.le_of_ble_eq_true rfl) ?_
 refine .sr ?_
 refine .box rfl 1 rfl (by decide) rfl rfl rfl fun n2=>?_
 refine .alloc rfl 2 rfl (by decide) rfl zr62 lay62 fun n3=>?_
 refine .nS [1,2] [1,0] ?_
 refine .seq ?_
 obtain⟨t4,et4,h⟩:=ob h
 obtain⟨t5,et5,h⟩:=ob h
 refine .regAnyL rfl rfl (by rfl) (by decide+kernel) (by decide+kernel) [(.ar 1 (t4.toList.map eU64)),(.ar 1 (p0.toList.map eU64)),(.ar 1 (t5.toList.map eU64))] [(1,(.ptr n2 0)),(2,(.ptr n3 0))] ⟨rfl,rfl,trivial⟩ rfl ?_ [(2,(.ptr n3 0)),(5,(.ar 1 (t5.toList.map eU64)))] ⟨rfl,rfl,trivial⟩ ?_
 ·refine⟨?_,?_,?_,trivial⟩
  ·refine .wK [] ?_
   refine .callS [] (.ar 1 (t4.toList.map eU64)) 3 rfl (by decide) ok142 rfl rfl rfl trivial (F142_spec et4) ?_
   exact .q 3
  ·refine .a 1 ?_
   exact .q 4
  refine .wK [3,4] ?_
  refine .callS [(.ar 1 (t4.toList.map eU64)),(.ar 1 (p0.toList.map eU64))] (.ar 1 (t5.toList.map eU64)) 5 rfl (by decide) ok149 rfl rfl rfl ⟨rfl,rfl,rfl,rfl,trivial⟩ (F149_spec et5) ?_
  exact .q 5
 refine .store 1 rfl rfl rfl rfl rfl rfl (.cast .here rfl) rfl (by simp[AV.size]) (by rw[sz62];simp[AV.size]) rfl ?_
 refine .nS [2] [1] ?_
 refine .rK [2] ?_
 have hr:=Option.some.inj h
 subst hr
 exact⟨[(.ar 1 (t5.toList.map eU64))],⟨⟨_,0,rfl,rfl,ag62,(by rw[sz62];simp[AV.size])⟩,trivial⟩,rfl⟩
def F119 (k:Nat) (p0:(Vector Int 4)):Option Bool:=
 some (decide (p0=(Vector.replicate 4 (0:Int))))
theorem F119_spec {k:Nat} {p0:(Vector Int 4)} {r:Bool} (h:F119 k p0=some r):Spec Try.prog 119 [(.ar 1 (p0.toList.map eU64))] (eBool r):=by
 rw[F119.eq_1]at h
 refine Spec.intro (res:=[.tmp 2]) Try.func119 rfl rfl rfl (Nat.le_of_ble_eq_true rfl) ?_
 refine .sr ?_
 refine .box rfl 1 rfl (by decide) rfl rfl rfl fun n2=>?_
 refine .a 5 ?_
 refine .c (x:=.ar 1 ((Vector.replicate 4 (0:Int)).toList.map eU64)) (.buildAr (qs:=[]) rfl trivial Try.underlying62 sz60 zr62 lay62 .nil rfl) ?_
 refine .c (x:=eBool (decide (p0=(Vector.replicate 4 (0:Int))))) (.eqA rfl rfl rfl eg62 (eqa62 p0 (Vector.replicate 4 (0:Int))) (by decide)) ?_
 refine .a 1 ?_
 refine .nS [2] [] ?_
 refine .rK [2] ?_
 cases h
 exact⟨[(eBool (decide (p0=(Vector.replicate 4 (0:Int)))))],⟨rfl,rfl,trivial⟩,rfl⟩
end Go.Avl.T7
namespace Go.Avl.T7
open Go Go.RowKit Go.Proofs Go.Avl
set_option linter.unusedVariables false
set_option maxRecDepth 100000
set_option maxHeartbeats 4000000
set_option linter.unusedSimpArgs false
attribute [local irreducible] AW AO AQ Spec SpecH Calm
def F143_c0 (k:Nat) (x5:ByteArray) (x6:Int) (x7:Int) (x9:(Vector Int 4)):Option ((List S131)×Bool×S140):=
 (F116 k (S140.mk x5 x6 x7) (93:Int)).bind fun t11=>
 if t11.1=true then(F119 k x9).bind fun t14=>
 some ([(S131.mk (1:Int) x9)], !t14,t11.2)
 else some ([(S131.mk (1:Int) x9)],false,t11.2)
def F143_c1 (k:Nat) (t2:(Bool×S140)) (x5:ByteArray) (x6:Int) (x7:Int) (x8:(Vector Int 4)):Option ((List S131)×Bool×S140):=
 if t2.1=true then(F147 k x8).bind fun t16=>
 F143_c0 k x5 x6 x7 t16
 else F143_c0 k x5 x6 x7 x8
def F143_c2 (k:Nat) (rec21:(ByteArray→Int→Int→(Vector Int 4)→Option ((List S131)×Bool×S140))) (x20:(Vector Int 4)) (t29:(Int×Bool×S140)) (x32:ByteArray) (x33:Int) (x34:Int) (x35:Int):Option ((List S131)×Bool×S140):=
 (F146 k t29.1 x35).bind fun t36=>
 (F145 k x20 t36).bind fun t37=>
 rec21 x32 x33 x34 t37
def F143_l3 (k:Nat) (t2:(Bool×S140)):Nat→ByteArray→Int→Int→(Vector Int 4)→Option ((List S131)×Bool×S140)
 | 0,_,_,_,_=>none
 | j+1,x17,x18,x19,x20=>
   (F133 k (S140.mk x17 x18 x19) (ByteArray.mk #[93])).bind fun t23=>
   if(!t23)=true then(F133 k (S140.mk x17 x18 x19) (ByteArray.mk #[94,45,47,34])).bind fun t26=>
   if t26=true then some ([],false,(S140.mk x17 x18 x19))
   else(F144 k (S140.mk x17 x18 x19)).bind fun t29=>
   if(!t29.2.1)=true then some ([],false,t29.2.2)
   else(F116 k t29.2.2 (45:Int)).bind fun t38=>
   if t38.1=true then(F133 k t38.2 (ByteArray.mk #[93,94,45,47,34])).bind fun t41=>
   if t41=true then some ([],false,t38.2)
   else(F144 k t38.2).bind fun t44=>
   Option.bind (α:=Bool) (if(!t44.2.1)=true then some (true)
   else some (decide (t44.1<t29.1))) fun b46=>
   if b46=true then some ([],false,t44.2.2)
   else F143_c2 k (F143_l3 k t2 j) x20 t29 t44.2.2.f0 t44.2.2.f1 t44.2.2.f2 t44.1
   else F143_c2 k (F143_l3 k t2 j) x20 t29 t38.2.f0 t38.2.f1 t38.2.f2 t29.1
   else F143_c1 k t2 x17 x18 x19 x20
def F143 (k:Nat) (p0:S140):Option ((List S131)×Bool×S140):=
 (F116 k p0 (94:Int)).bind fun t2=>
 F143_l3 k t2 k t2.2.f0 t2.2.f1 t2.2.f2 (Vector.replicate 4 (0:Int))
theorem F143_spec {k:Nat} {p0:S140} {r:((List S131)×Bool×S140)} (h:F143 k p0=some r) {q0:Nat} {T0:Heap}:SpecH Try.prog 143 [(.ptr q0 0)] ((q0,(.mem (e140 p0)))::T0) (fun x H'=>x=.tup [(.fz 5 (r.1.map e131)),(eBool r.2.1)]∧Sub ((q0,(.mem (e140 r.2.2)))::T0) H'):=by
 rw[F143.eq_1]at h
 refine SpecH.intro (res:=[.tmp 2,.tmp 3]) Try.func143 rfl rfl rfl (Nat.le_of_ble_eq_true rfl) ?_
 refine .a 8 ?_
 obtain⟨t2,et2,h⟩:=ob h
 refine .callH [(.ptr q0 0),(eU8 (94:Int))] ((q0,(.mem (e140 p0)))::T0) _ rfl rfl rfl 10 rfl (by decide) ok116 ⟨rfl,rfl,rfl,rfl,trivial⟩ (.cons 0 rfl (.refl _)) (F116_spec et2) ?_
 rintro _ _ ⟨rfl,hs3⟩
 refine .wH [0,9,10] hs3 ?_
 refine .a 4 ?_
 refine .alloc rfl 5 rfl (by decide) rfl zr62 lay62 fun n4=>?_
 refine .nH [0,4,5] (H':=((Z24 q0 t2.2)::(Z13 n4 ((Vector.replicate 4 (0:Int)).toList.map eU64))::T0)) (.cons 1 rfl (.cons 0 rfl (.refl _))) ?_
 refine .seq_mid (fun ρ H=>∃ (x5:ByteArray) (x6:Int) (x7:Int) (x8:(Vector Int 4)),ρ=[(0,(.ptr q0 0)),(4,(eBool t2.1)),(5,(.ptr n4 0))]∧H=((Z17 q0 x5 x6 x7)::(Z13 n4 (x8.toList.map eU64))::T0)∧F143_c1 k t2 x5 x6 x7 x8=some r) ?_ ?_
 ·refine .a 1 ?_
  refine .wK [0,4,5] ?_
  refine .loop (fun kq ρ H=>∃ (x17:ByteArray) (x18:Int) (x19:Int) (x20:(Vector Int 4)),ρ=[(0,(.ptr q0 0)),(4,(eBool t2.1)),(5,(.ptr n4 0))]∧H=((Z17 q0 x17 x18 x19)::(Z13 n4 (x20.toList.map eU64))::T0)∧F143_l3 k t2 kq x17 x18 x19 x20=some r) k ⟨t2.2.f0,t2.2.f1,t2.2.f2,(Vector.replicate 4 (0:Int)),rfl,rfl,h⟩ ?_
  rintro kq22 _ _ ⟨x17,x18,x19,x20,rfl,rfl,h⟩
  cases kq22 with
  | zero=>rw[F143_l3.eq_1]at h;cases h
  | succ kq22=>
  rw[F143_l3.eq_2]at h
  generalize hrec21:F143_l3 k t2 kq22=rec21 at h
  refine .a 4 ?_
  obtain⟨t23,et23,h⟩:=ob h
  refine .callH [(.ptr q0 0),(eStr (ByteArray.mk #[93]))] ((Z24 q0 (S140.mk x17 x18 x19))::(Z13 n4 (x20.toList.map eU64))::T0) _ rfl rfl rfl 12 rfl (by decide) ok133 ⟨rfl,rfl,rfl,rfl,trivial⟩ (.cons 0 rfl (.refl _)) (F133_spec et23) ?_
  rintro _ _ ⟨rfl,hs24⟩
  refine .wH [0,4,5,11,12] hs24 ?_
  refine .a 2 ?_
  rcases oi h with⟨c25,h⟩|⟨c25,h⟩
  ·refine .a 7 ?_
   obtain⟨t26,et26,h⟩:=ob h
   refine .callH [(.ptr q0 0),(eStr (ByteArray.mk #[94,45,47,34]))] ((Z24 q0 (S140.mk x17 x18 x19))::(Z13 n4 (x20.toList.map eU64))::T0) _ rfl rfl rfl 15 rfl (by decide) ok133 ⟨rfl,rfl,rfl,rfl,trivial⟩ (.cons 0 rfl (.refl _)) (F133_spec et26) ?_
   rintro _ _ ⟨rfl,hs27⟩
   refine .wH [0,4,5,14,15] hs27 ?_
   refine .a 1 ?_
   rcases oi h with⟨c28,h⟩|⟨c28,h⟩
   ·refine .a 5 ?_
    refine .nH [2,3] (H':=((Z17 q0 x17 x18 x19)::T0)) (.cons 0 rfl (.drop (.refl _))) ?_
    refine .coeC 2 (y':=(Z11 ([]:List S131))) rfl Coe.nil ?_
    refine .rK [2,3] ?_
    cases h
    exact⟨[(Z11 ([]:List S131)),(eBool false)],⟨rfl,rfl,rfl,rfl,trivial⟩,rfl,(.cons 0 rfl (.refl _))⟩
   refine .a 5 ?_
   obtain⟨t29,et29,h⟩:=ob h
   refine .callH [(.ptr q0 0)] ((Z24 q0 (S140.mk x17 x18 x19))::(Z13 n4 (x20.toList.map eU64))::T0) _ rfl rfl rfl 18 rfl (by decide) ok144 ⟨rfl,rfl,trivial⟩ (.cons 0 rfl (.refl _)) (F144_spec et29) ?_
   rintro _ _ ⟨rfl,hs30⟩
   refine .wH [0,4,5,17,18] hs30 ?_
   refine .a 12 ?_
   rcases oi h with⟨c31,h⟩|⟨c31,h⟩
   ·refine .a 5 ?_
    refine .nH [2,3] (H':=((Z24 q0 t29.2.2)::T0)) (.cons 0 rfl (.drop (.refl _))) ?_
    refine .coeC 2 (y':=(Z11 ([]:List S131))) rfl Coe.nil ?_
    refine .rK [2,3] ?_
    cases h
    exact⟨[(Z11 ([]:List S131)),(eBool false)],⟨rfl,rfl,rfl,rfl,trivial⟩,rfl,(.cons 0 rfl (.refl _))⟩
   refine .a 6 ?_
   refine .nK [0,4,5,6,8] ?_
   refine .seq_mid (fun ρ H=>∃ (x32:ByteArray) (x33:Int) (x34:Int) (x35:Int),ρ=[(0,(.ptr q0 0)),(4,(eBool t2.1)),(5,(.ptr n4 0)),(6,(eU8 t29.1)),(8,(eU8 x35))]∧H=((Z17 q0 x32 x33 x34)::(Z13 n4 (x20.toList.map eU64))::T0)∧F143_c2 k rec21 x20 t29 x32 x33 x34 x35=some r) ?_ ?_
   ·refine .a 3 ?_
    obtain⟨t38,et38,h⟩:=ob h
    refine .callH [(.ptr q0 0),(eU8 (45:Int))] ((Z24 q0 t29.2.2)::(Z13 n4 (x20.toList.map eU64))::T0) _ rfl rfl rfl 25 rfl (by decide) ok116 ⟨rfl,rfl,rfl,rfl,trivial⟩ (.cons 0 rfl (.refl _)) (F116_spec et38) ?_
    rintro _ _ ⟨rfl,hs39⟩
    refine .wH [0,4,5,6,8,24,25] hs39 ?_
    refine .a 1 ?_
    rcases oi h with⟨c40,h⟩|⟨c40,h⟩
    ·refine .a 5 ?_
     obtain⟨t41,et41,h⟩:=ob h
     refine .callH [(.ptr q0 0),(eStr (ByteArray.mk #[93,94,45,47,34]))] ((Z24 q0 t38.2)::(Z13 n4 (x20.toList.map eU64))::T0) _ rfl rfl rfl 27 rfl (by decide) ok133 ⟨rfl,rfl,rfl,rfl,trivial⟩ (.cons 0 rfl (.refl _)) (F133_spec et41) ?_
     rintro _ _ ⟨rfl,hs42⟩
     refine .wH [0,4,5,6,8,25,26,27] hs42 ?_
     refine .a 1 ?_
     rcases oi h with⟨c43,h⟩|⟨c43,h⟩
     ·refine .a 5 ?_
      refine .nH [2,3] (H':=((Z24 q0 t38.2)::T0)) (.cons 0 rfl (.drop (.refl _))) ?_
      refine .coeC 2 (y':=(Z11 ([]:List S131))) rfl Coe.nil ?_
      refine .rK [2,3] ?_
      cases h
      exact⟨[(Z11 ([]:List S131)),(eBool false)],⟨rfl,rfl,rfl,rfl,trivial⟩,rfl,(.cons 0 rfl (.refl _))⟩
     refine .a 5 ?_
     obtain⟨t44,et44,h⟩:=ob h
     refine .callH [(.ptr q0 0)] ((Z24 q0 t38.2)::(Z13 n4 (x20.toList.map eU64))::T0) _ rfl rfl rfl 30 rfl (by decide) ok144 ⟨rfl,rfl,trivial⟩ (.cons 0 rfl (.refl _)) (F144_spec et44) ?_
     rintro _ _ ⟨rfl,hs45⟩
     refine .wH [0,4,5,6,29,30] hs45 ?_
     refine .a 7 ?_
     obtain⟨b46,q47,h⟩:=ob h
     refine .regM [(0,(.ptr q0 0)),(4,(eBool t2.1)),(5,(.ptr n4 0)),(6,(eU8 t29.1)),(8,(eU8 t44.1)),(39,(eBool b46))] ((Z24 q0 t44.2.2)::(Z13 n4 (x20.toList.map eU64))::T0) ?_ ?_
     ·refine .a 3 ?_
      rcases oi q47 with⟨c48,q47⟩|⟨c48,q47⟩
      ·refine .a 4 ?_
       cases q47
       refine .nilE ⟨rfl,rfl⟩ ?_ ?_
       ·exact⟨rfl,rfl,rfl,rfl,rfl,rfl,trivial⟩
       exact(.refl _)
      refine .a 4 ?_
      cases q47
      refine .nilE ⟨rfl,rfl⟩ ?_ ?_
      ·exact⟨rfl,rfl,rfl,rfl,rfl,rfl,trivial⟩
      exact(.refl _)
     rcases oi h with⟨c49,h⟩|⟨c49,h⟩
     ·refine .a 5 ?_
      refine .nH [2,3] (H':=((Z24 q0 t44.2.2)::T0)) (.cons 0 rfl (.drop (.refl _))) ?_
      refine .coeC 2 (y':=(Z11 ([]:List S131))) rfl Coe.nil ?_
      refine .rK [2,3] ?_
      cases h
      exact⟨[(Z11 ([]:List S131)),(eBool false)],⟨rfl,rfl,rfl,rfl,trivial⟩,rfl,(.cons 0 rfl (.refl _))⟩
     refine .a 1 ?_
     refine .sK [0,4,5,6,8] ?_
     exact⟨t44.2.2.f0,t44.2.2.f1,t44.2.2.f2,t44.1,rfl,rfl,h⟩
    refine .a 1 ?_
    refine .sK [0,4,5,6,8] ?_
    exact⟨t38.2.f0,t38.2.f1,t38.2.f2,t29.1,rfl,rfl,h⟩
   rintro _ _ ⟨x32,x33,x34,x35,rfl,rfl,h⟩
   rw[F143_c2.eq_1]at h
   obtain⟨t36,et36,h⟩:=ob h
   obtain⟨t37,et37,h⟩:=ob h
   refine .regAnyL rfl rfl (by rfl) (by decide+kernel) (by decide+kernel) [(.ar 1 (x20.toList.map eU64)),(eU8 t29.1),(eU8 x35),(.ar 1 (t36.toList.map eU64)),(.ar 1 (t37.toList.map eU64))] [(0,(.ptr q0 0)),(4,(eBool t2.1)),(5,(.ptr n4 0)),(6,(eU8 t29.1)),(8,(eU8 x35))] ⟨rfl,rfl,rfl,rfl,rfl,trivial⟩ rfl ?_ [(0,(.ptr q0 0)),(4,(eBool t2.1)),(5,(.ptr n4 0)),(44,(.ar 1 (t37.toList.map eU64)))] ⟨rfl,rfl,rfl,rfl,trivial⟩ ?_
   ·refine⟨?_,?_,?_,?_,?_,trivial⟩
    ·refine .a 1 ?_
     exact .q 40
    ·refine .a 1 ?_
     exact .q 41
    ·refine .a 1 ?_
     exact .q 42
    ·refine .wK [41,42] ?_
     refine .callS [(eU8 t29.1),(eU8 x35)] (.ar 1 (t36.toList.map eU64)) 43 rfl (by decide) ok146 rfl rfl rfl ⟨rfl,rfl,rfl,rfl,trivial⟩ (F146_spec et36) ?_
     exact .q 43
    refine .wK [40,43] ?_
    refine .callS [(.ar 1 (x20.toList.map eU64)),(.ar 1 (t36.toList.map eU64))] (.ar 1 (t37.toList.map eU64)) 44 rfl (by decide) ok145 rfl rfl rfl ⟨rfl,rfl,rfl,rfl,trivial⟩ (F145_spec et37) ?_
    exact .q 44
   refine .store 1 rfl rfl rfl rfl rfl rfl (.cast .here rfl) rfl (by simp[AV.size]) (by rw[sz62];simp[AV.size]) rfl ?_
   refine .nK [0,4,5] ?_
   exact⟨kq22,Nat.lt_succ_self _,x32,x33,x34,t37,rfl,rfl,by rw[hrec21];exact h⟩
  refine .a 1 ?_
  refine .eK [0,4,5] ?_
  exact⟨x17,x18,x19,x20,rfl,rfl,h⟩
 rintro _ _ ⟨x5,x6,x7,x8,rfl,rfl,h⟩
 rw[F143_c1.eq_1]at h
 refine .seq_mid (fun ρ H=>∃ (x9:(Vector Int 4)),ρ=[(0,(.ptr q0 0)),(5,(.ptr n4 0))]∧H=((Z17 q0 x5 x6 x7)::(Z13 n4 (x9.toList.map eU64))::T0)∧F143_c0 k x5 x6 x7 x9=some r) ?_ ?_
 ·refine .a 4 ?_
  rcases oi h with⟨c15,h⟩|⟨c15,h⟩
  ·refine .a 3 ?_
   obtain⟨t16,et16,h⟩:=ob h
   refine .callS [(.ar 1 (x8.toList.map eU64))] (.ar 1 (t16.toList.map eU64)) 47 rfl (by decide) ok147 rfl rfl rfl ⟨rfl,rfl,trivial⟩ (F147_spec et16) ?_
   refine .store 1 rfl rfl rfl rfl rfl rfl (.cast .here rfl) rfl (by simp[AV.size]) (by rw[sz62];simp[AV.size]) rfl ?_
   refine .nK [0,5] ?_
   exact⟨t16,rfl,rfl,h⟩
  refine .a 1 ?_
  refine .sK [0,5] ?_
  exact⟨x8,rfl,rfl,h⟩
 rintro _ _ ⟨x9,rfl,rfl,h⟩
 rw[F143_c0.eq_1]at h
 refine .seq ?_
 obtain⟨t11,et11,h⟩:=ob h
 rcases oi h with⟨c13,h⟩|⟨c13,h⟩
 ·obtain⟨t14,et14,h⟩:=ob h
  refine .regEff (by rfl) (by decide+kernel) (fun (σ:Nat→Nat)=>([(.ar 1 (x9.toList.map eU64)),(e131 (S131.mk (1:Int) x9)),(Z11 ([(S131.mk (1:Int) x9)]:List S131)),(.ptr q0 0),(eBool t11.1),(eBool t11.1),(.ar 1 (x9.toList.map eU64)),(eBool t14),(eBool (!t14)),(eBool (!t14)),(Z11 ([(S131.mk (1:Int) x9)]:List S131)),(eBool (!t14))]:List AV)) (fun (L:Nat→Bool) (σ:Nat→Nat)=>((Z13 n4 (x9.toList.map eU64))::(bif L 4 then((Z24 q0 t11.2)::T0)else((Z17 q0 x5 x6 x7)::T0)):Heap)) [(0,(.ptr q0 0)),(5,(.ptr n4 0))] ⟨rfl,rfl,trivial⟩ (fun _=>rfl) (fun σ=>(.cons 1 rfl (.cons 0 rfl (.refl _)))) ⟨?_,?_,?_,?_,?_,?_,?_,?_,?_,?_,?_,?_,trivial⟩ (fun σ=>[(2,(Z11 ([(S131.mk (1:Int) x9)]:List S131))),(3,(eBool (!t14)))]) (fun σ=>((Z13 n4 (x9.toList.map eU64))::(Z24 q0 t11.2)::T0)) (fun σ=>⟨rfl,rfl,trivial⟩) (fun σ=>.refl _) (fun σ=>?_)
  ·refine .calm (fun _ _=>rfl) fun L σ hc hi hd=>?_
   refine .a 1 ?_
   exact .nE (d:=48) rfl ⟨⟨48,_,rfl,rfl,rfl⟩,.refl _⟩
  ·refine .calm (fun _ _=>rfl) fun L σ hc hi hd=>?_
   refine .wK [48] ?_
   refine .c (x:=(Z21 (1:Int) (x9.toList.map eU64))) (.build (qs:=[(0,(eI64 (1:Int))),(1,(.ar 1 (x9.toList.map eU64)))]) rfl ⟨rfl,rfl,rfl,rfl,rfl,rfl,trivial⟩ Try.underlying131 rfl zr131 lay131 (.cons rfl rfl rfl rfl (.cast (.fld0 .here) rfl) (.cons rfl rfl (vec_size _ _) (vec_size _ _) (.cast (.fldS (.fld0 .here)) rfl) .nil)) rfl) ?_
   exact .nE (d:=49) rfl ⟨⟨49,_,rfl,rfl,rfl⟩,.refl _⟩
  ·refine .calm (fun _ _=>rfl) fun L σ hc hi hd=>?_
   refine .wK [49] ?_
   refine .lit (Z:=(Z21 (0:Int) ((Vector.replicate 4 (0:Int)).toList.map eU64))) (xs:=(([(S131.mk (1:Int) x9)]:List S131).map e131)) (qs:=[(0,(e131 (S131.mk (1:Int) x9)))]) rfl 50 rfl (by decide) rfl ⟨rfl,rfl,rfl,trivial⟩ Try.underlying68 sz131 zr131 lay131 rfl (by decide) (litOK (z:=5) [(e131 (S131.mk (1:Int) x9))] rfl ⟨⟨rfl,rfl⟩,trivial⟩) rfl fun n10=>?_
   refine .freezeS 0 [(50,(Z11 ([(S131.mk (1:Int) x9)]:List S131)))] rfl ⟨fz_all rfl,trivial⟩ ?_
   exact .nE (d:=50) rfl ⟨⟨50,_,rfl,rfl,rfl⟩,.refl _⟩
  ·refine .calm (fun _ _=>rfl) fun L σ hc hi hd=>?_
   have m4:L 4=false:=hc.neg (i:=3) (j:=4) rfl (by rfl) hi
   refine .heq (H':=((Z13 n4 (x9.toList.map eU64))::(Z17 q0 x5 x6 x7)::T0)) (by first|rfl|simp only[m4,cond_true,cond_false]) ?_
   refine .a 1 ?_
   exact .nE (d:=51) rfl ⟨⟨51,_,rfl,rfl,rfl⟩,.of_eq (by first|rfl|simp only[m4,cond_true,cond_false]) (.refl _)⟩
  ·intro L σ hc hi hd
   refine .heq (H':=((Z13 n4 (x9.toList.map eU64))::(Z17 q0 x5 x6 x7)::T0)) (by first|rfl|simp only[hi,cond_true,cond_false]) ?_
   refine .wK [51] ?_
   refine .callH [(.ptr q0 0),(eU8 (93:Int))] ((Z24 q0 (S140.mk x5 x6 x7))::(Z13 n4 (x9.toList.map eU64))::T0) _ rfl rfl rfl 52 rfl (by decide) ok116 ⟨rfl,rfl,rfl,rfl,trivial⟩ (.cons 1 rfl (.refl _)) (F116_spec et11) ?_
   rintro _ _ ⟨rfl,hs12⟩
   refine .wH [51,52] hs12 ?_
   have a4:addL L 4 4=true:=rfl
   exact .nE (d:=52) rfl ⟨σ,(fun _ _=>rfl),(fun d' hd'=>⟨_,rfl,by cases hd';rfl⟩),.of_eq (B:=((Z13 n4 (x9.toList.map eU64))::(Z24 q0 t11.2)::T0)) (by simp only[a4,cond_true,cond_false]) (.cons 1 rfl (.cons 0 rfl (.refl _)))⟩
  ·refine .calm (fun _ _=>rfl) fun L σ hc hi hd=>?_
   refine .a 1 ?_
   exact .nE (d:=53) rfl ⟨⟨53,_,rfl,rfl,rfl⟩,.refl _⟩
  ·refine .calm (fun _ _=>rfl) fun L σ hc hi hd=>?_
   refine .a 1 ?_
   exact .nE (d:=54) rfl ⟨⟨54,_,rfl,rfl,rfl⟩,.refl _⟩
  ·refine .calm (fun _ _=>rfl) fun L σ hc hi hd=>?_
   refine .wK [53,54] ?_
   refine .callG 5 true 53 [(.ar 1 (x9.toList.map eU64))] (eBool t14) 55 rfl (by decide) ok119 rfl rfl (bD c13) rfl rfl ⟨rfl,rfl,trivial⟩ (F119_spec et14) ?_
   exact .nE (d:=55) rfl ⟨⟨55,_,rfl,rfl,rfl⟩,.refl _⟩
  ·refine .calm (fun _ _=>rfl) fun L σ hc hi hd=>?_
   refine .a 1 ?_
   exact .nE (d:=56) rfl ⟨⟨56,_,rfl,rfl,rfl⟩,.refl _⟩
  ·refine .calm (fun _ _=>rfl) fun L σ hc hi hd=>?_
   refine .a 1 ?_
   exact .nE (d:=57) rfl ⟨⟨57,_,rfl,rfl,rfl⟩,.refl _⟩
  ·refine .calm (fun _ _=>rfl) fun L σ hc hi hd=>?_
   refine .a 1 ?_
   exact .nE (d:=2) rfl ⟨⟨2,_,rfl,rfl,rfl⟩,.refl _⟩
  ·refine .calm (fun _ _=>rfl) fun L σ hc hi hd=>?_
   refine .a 1 ?_
   exact .nE (d:=3) rfl ⟨⟨3,_,rfl,rfl,rfl⟩,.refl _⟩
  refine .nH [2,3] (H':=((Z24 q0 t11.2)::T0)) (.cons 1 rfl (.drop (.refl _))) ?_
  refine .rK [2,3] ?_
  cases h
  exact⟨[(Z11 ([(S131.mk (1:Int) x9)]:List S131)),(eBool (!t14))],⟨rfl,rfl,rfl,rfl,trivial⟩,rfl,(.cons 0 rfl (.refl _))⟩
 refine .regEff (by rfl) (by decide+kernel) (fun (σ:Nat→Nat)=>([(.ar 1 (x9.toList.map eU64)),(e131 (S131.mk (1:Int) x9)),(Z11 ([(S131.mk (1:Int) x9)]:List S131)),(.ptr q0 0),(eBool t11.1),(eBool t11.1),(.fl undef),(.fl undef),(.fl undef),(eBool false),(Z11 ([(S131.mk (1:Int) x9)]:List S131)),(eBool false)]:List AV)) (fun (L:Nat→Bool) (σ:Nat→Nat)=>((Z13 n4 (x9.toList.map eU64))::(bif L 4 then((Z24 q0 t11.2)::T0)else((Z17 q0 x5 x6 x7)::T0)):Heap)) [(0,(.ptr q0 0)),(5,(.ptr n4 0))] ⟨rfl,rfl,trivial⟩ (fun _=>rfl) (fun σ=>(.cons 1 rfl (.cons 0 rfl (.refl _)))) ⟨?_,?_,?_,?_,?_,?_,?_,?_,?_,?_,?_,?_,trivial⟩ (fun σ=>[(2,(Z11 ([(S131.mk (1:Int) x9)]:List S131))),(3,(eBool false))]) (fun σ=>((Z13 n4 (x9.toList.map eU64))::(Z24 q0 t11.2)::T0)) (fun σ=>⟨rfl,rfl,trivial⟩) (fun σ=>.refl _) (fun σ=>?_)
 ·refine .calm (fun _ _=>rfl) fun L σ hc hi hd=>?_
  refine .a 1 ?_
  exact .nE (d:=48) rfl ⟨⟨48,_,rfl,rfl,rfl⟩,.refl _⟩
 ·refine .calm (fun _ _=>rfl) fun L σ hc hi hd=>?_
  refine .wK [48] ?_
  refine .c (x:=(Z21 (1:Int) (x9.toList.map eU64))) (.build (qs:=[(0,(eI64 (1:Int))),(1,(.ar 1 (x9.toList.map eU64)))]) rfl ⟨rfl,rfl,rfl,rfl,rfl,rfl,trivial⟩ Try.underlying131 rfl zr131 lay131 (.cons rfl rfl rfl rfl (.cast (.fld0 .here) rfl) (.cons rfl rfl (vec_size _ _) (vec_size _ _) (.cast (.fldS (.fld0 .here)) rfl) .nil)) rfl) ?_
  exact .nE (d:=49) rfl ⟨⟨49,_,rfl,rfl,rfl⟩,.refl _⟩
 ·refine .calm (fun _ _=>rfl) fun L σ hc hi hd=>?_
  refine .wK [49] ?_
  refine .lit (Z:=(Z21 (0:Int) ((Vector.replicate 4 (0:Int)).toList.map eU64))) (xs:=(([(S131.mk (1:Int) x9)]:List S131).map e131)) (qs:=[(0,(e131 (S131.mk (1:Int) x9)))]) rfl 50 rfl (by decide) rfl ⟨rfl,rfl,rfl,trivial⟩ Try.underlying68 sz131 zr131 lay131 rfl (by decide) (litOK (z:=5) [(e131 (S131.mk (1:Int) x9))] rfl ⟨⟨rfl,rfl⟩,trivial⟩) rfl fun n10=>?_
  refine .freezeS 0 [(50,(Z11 ([(S131.mk (1:Int) x9)]:List S131)))] rfl ⟨fz_all rfl,trivial⟩ ?_
  exact .nE (d:=50) rfl ⟨⟨50,_,rfl,rfl,rfl⟩,.refl _⟩
 ·refine .calm (fun _ _=>rfl) fun L σ hc hi hd=>?_
  have m4:L 4=false:=hc.neg (i:=3) (j:=4) rfl (by rfl) hi
  refine .heq (H':=((Z13 n4 (x9.toList.map eU64))::(Z17 q0 x5 x6 x7)::T0)) (by first|rfl|simp only[m4,cond_true,cond_false]) ?_
  refine .a 1 ?_
  exact .nE (d:=51) rfl ⟨⟨51,_,rfl,rfl,rfl⟩,.of_eq (by first|rfl|simp only[m4,cond_true,cond_false]) (.refl _)⟩
 ·intro L σ hc hi hd
  refine .heq (H':=((Z13 n4 (x9.toList.map eU64))::(Z17 q0 x5 x6 x7)::T0)) (by first|rfl|simp only[hi,cond_true,cond_false]) ?_
  refine .wK [51] ?_
  refine .callH [(.ptr q0 0),(eU8 (93:Int))] ((Z24 q0 (S140.mk x5 x6 x7))::(Z13 n4 (x9.toList.map eU64))::T0) _ rfl rfl rfl 52 rfl (by decide) ok116 ⟨rfl,rfl,rfl,rfl,trivial⟩ (.cons 1 rfl (.refl _)) (F116_spec et11) ?_
  rintro _ _ ⟨rfl,hs12⟩
  refine .wH [51,52] hs12 ?_
  have a4:addL L 4 4=true:=rfl
  exact .nE (d:=52) rfl ⟨σ,(fun _ _=>rfl),(fun d' hd'=>⟨_,rfl,by cases hd';rfl⟩),.of_eq (B:=((Z13 n4 (x9.toList.map eU64))::(Z24 q0 t11.2)::T0)) (by simp only[a4,cond_true,cond_false]) (.cons 1 rfl (.cons 0 rfl (.refl _)))⟩
 ·refine .calm (fun _ _=>rfl) fun L σ hc hi hd=>?_
  refine .a 1 ?_
  exact .nE (d:=53) rfl ⟨⟨53,_,rfl,rfl,rfl⟩,.refl _⟩
 ·refine .calm (fun _ _=>rfl) fun L σ hc hi hd=>?_
  refine .a 1 ?_
  exact .nE (d:=54) rfl ⟨⟨54,_,rfl,rfl,rfl⟩,.refl _⟩
 ·refine .calm (fun _ _=>rfl) fun L σ hc hi hd=>?_
  refine .a 1 ?_
  exact .nE (d:=55) rfl ⟨⟨55,_,rfl,rfl,rfl⟩,.refl _⟩
 ·refine .calm (fun _ _=>rfl) fun L σ hc hi hd=>?_
  refine .a 1 ?_
  exact .nE (d:=56) rfl ⟨⟨56,_,rfl,rfl,rfl⟩,.refl _⟩
 ·refine .calm (fun _ _=>rfl) fun L σ hc hi hd=>?_
  refine .a 1 ?_
  exact .nE (d:=57) rfl ⟨⟨57,_,rfl,rfl,rfl⟩,.refl _⟩
 ·refine .calm (fun _ _=>rfl) fun L σ hc hi hd=>?_
  refine .a 1 ?_
  exact .nE (d:=2) rfl ⟨⟨2,_,rfl,rfl,rfl⟩,.refl _⟩
 ·refine .calm (fun _ _=>rfl) fun L σ hc hi hd=>?_
  refine .a 1 ?_
  exact .nE (d:=3) rfl ⟨⟨3,_,rfl,rfl,rfl⟩,.refl _⟩
 refine .nH [2,3] (H':=((Z24 q0 t11.2)::T0)) (.cons 1 rfl (.drop (.refl _))) ?_
 refine .rK [2,3] ?_
 cases h
 exact⟨[(Z11 ([(S131.mk (1:Int) x9)]:List S131)),(eBool false)],⟨rfl,rfl,rfl,rfl,trivial⟩,rfl,(.cons 0 rfl (.refl _))⟩
end Go.Avl.T7
namespace Go.Avl.T7
open Go Go.RowKit Go.Proofs Go.Avl
set_option linter.unusedVariables false
set_option maxRecDepth 100000
set_option maxHeartbeats 4000000
attribute [local irreducible] AW AO AQ Spec SpecH Calm
def F61_c0 (k:Nat) (x4:(Vector Int 4)):Option (Vector Int 4):=
 some (x4)
def F61_l1 (k:Nat) (p0:(List Int)):Nat→(Vector Int 4)→Int→Option (Vector Int 4)
 | 0,_,_=>none
 | j+1,x5,x6=>
   if x6<(p0.length:Int)then if 0≤x6∧x6<(p0.length:Int)then if 0≤(IntKind.u8.wrap ((lget p0 x6).tdiv (64:Int)))∧(IntKind.u8.wrap ((lget p0 x6).tdiv (64:Int)))<(4:Int)then if 0≤((lget p0 x6).tmod (64:Int))then if 0≤(IntKind.u8.wrap ((lget p0 x6).tdiv (64:Int)))∧(IntKind.u8.wrap ((lget p0 x6).tdiv (64:Int)))<(4:Int)then(F61_l1 k p0 j) (vset x5 (IntKind.u8.wrap ((lget p0 x6).tdiv (64:Int))) (bits .or .u64 (vget x5 (IntKind.u8.wrap ((lget p0 x6).tdiv (64:Int)))) (IntKind.u64.wrap ((1:Int)*2 ^ (min ((lget p0 x6).tmod (64:Int)).toNat IntKind.u64.bits))))) (w64 (x6+(1:Int)))
   else none
   else none
   else none
   else none
   else F61_c0 k x5
def F61 (k:Nat) (p0:(List Int)):Option (Vector Int 4):=
 F61_l1 k p0 k (Vector.replicate 4 (0:Int)) (0:Int)
theorem F61_spec {k:Nat} {p0:(List Int)} {r:(Vector Int 4)} (h:F61 k p0=some r):Spec Try.prog 61 [(.fz 1 (p0.map eU8))] (e62 r):=by
 rw[F61.eq_1]at h
 refine Spec.intro (res:=[.cell 2 62]) Try.func61 rfl rfl rfl (Nat.le_of_ble_eq_true rfl) ?_
 refine .sr ?_
 refine .alloc rfl 2 rfl (by decide) rfl zr62 lay62 fun n2=>?_
 refine .a 3 ?_
 refine .alloc rfl 3 rfl (by decide) rfl zr62 lay62 fun n3=>?_
 refine .nS [0,2,3] [1,0] ?_
 refine .seq_mid (fun ρ H=>∃ (x4:(Vector Int 4)),ρ=[(2,(.ptr n2 0)),(3,(.ptr n3 0))]∧H=[(Z13 n2 ((Vector.replicate 4 (0:Int)).toList.map eU64)),(Z13 n3 (x4.toList.map eU64))]∧F61_c0 k x4=some r) ?_ ?_
 ·refine .a 7 ?_
  refine .wK [2,3,6,7,8] ?_
  refine .loop (fun kq ρ H=>∃ (x5:(Vector Int 4)) (x6:Int),ρ=[(2,(.ptr n2 0)),(3,(.ptr n3 0)),(6,(.fz 1 (p0.map eU8))),(7,(eI64 (p0.length:Int))),(8,(eI64 x6))]∧H=[(Z13 n2 ((Vector.replicate 4 (0:Int)).toList.map eU64)),(Z13 n3 (x5.toList.map eU64))]∧F61_l1 k p0 kq x5 x6=some r) k ⟨(Vector.replicate 4 (0:Int)),(0:Int),rfl,rfl,h⟩ ?_
  rintro kq8 _ _ ⟨x5,x6,rfl,rfl,h⟩
  cases kq8 with
  | zero=>rw[F61_l1.eq_1]at h;cases h
  | succ kq8=>
  rw[F61_l1.eq_2]at h
  generalize hrec7:F61_l1 k p0 kq8=rec7 at h
  refine .a 5 ?_
  rcases oi h with⟨c9,h⟩|⟨c9,h⟩
  ·refine .a 6 ?_
   obtain⟨g10,h⟩:=of_guard h
   refine .a 6 ?_
   refine .c (x:=eU8 (IntKind.u8.wrap ((lget p0 x6).tdiv (64:Int)))) (.quo rfl rfl rfl (by decide)) ?_
   obtain⟨g11,h⟩:=of_guard h
   refine .c (.idxP rfl rfl rfl g11 Try.underlying62 sz60) ?_
   refine .c (.load 1 rfl rfl rfl (.cast (.vidx (IntKind.u8.wrap ((lget p0 x6).tdiv (64:Int))) g11.1 g11.2 .here) (by omega)) ag60 sz60) ?_
   refine .mv rfl rfl ?_
   refine .c (x:=eU8 ((lget p0 x6).tmod (64:Int))) (.rem rfl rfl rfl (by decide)) ?_
   obtain⟨g12,h⟩:=of_guard h
   refine .c (x:=eU64 (IntKind.u64.wrap ((1:Int)*2 ^ (min ((lget p0 x6).tmod (64:Int)).toNat IntKind.u64.bits)))) (.shl rfl rfl rfl g12) ?_
   refine .a 1 ?_
   obtain⟨g13,h⟩:=of_guard h
   refine .c (.idxP rfl rfl rfl g13 Try.underlying62 sz60) ?_
   refine .store 1 rfl rfl rfl rfl rfl rfl (.cast (.vidx (IntKind.u8.wrap ((lget p0 x6).tdiv (64:Int))) (bits .or .u64 (vget x5 (IntKind.u8.wrap ((lget p0 x6).tdiv (64:Int)))) (IntKind.u64.wrap ((1:Int)*2 ^ (min ((lget p0 x6).tmod (64:Int)).toNat IntKind.u64.bits)))) g13.1 g13.2 .here) (by omega)) rfl rfl sz60 rfl ?_
   refine .a 4 ?_
   refine .nK [2,3,6,7,8] ?_
   exact⟨kq8,Nat.lt_succ_self _,(vset x5 (IntKind.u8.wrap ((lget p0 x6).tdiv (64:Int))) (bits .or .u64 (vget x5 (IntKind.u8.wrap ((lget p0 x6).tdiv (64:Int)))) (IntKind.u64.wrap ((1:Int)*2 ^ (min ((lget p0 x6).tmod (64:Int)).toNat IntKind.u64.bits))))),(w64 (x6+(1:Int))),rfl,rfl,by rw[hrec7];exact h⟩
  refine .a 1 ?_
  refine .eK [2,3] ?_
  exact⟨x5,rfl,rfl,h⟩
 rintro _ _ ⟨x4,rfl,rfl,h⟩
 rw[F61_c0.eq_1]at h
 refine .a 3 ?_
 refine .store 0 rfl rfl rfl rfl rfl rfl (.cast .here rfl) rfl (by simp[AV.size]) (by rw[sz62];simp[AV.size]) rfl ?_
 refine .nS [2] [0] ?_
 refine .rK [2] ?_
 have hr:=Option.some.inj h
 subst hr
 exact⟨[(.ar 1 (x4.toList.map eU64))],⟨⟨_,0,rfl,rfl,ag62,(by rw[sz62];simp[AV.size])⟩,trivial⟩,rfl⟩
end Go.Avl.T7
