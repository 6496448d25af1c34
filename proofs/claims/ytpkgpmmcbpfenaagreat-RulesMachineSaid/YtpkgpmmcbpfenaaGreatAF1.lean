/- Parts: T8B, T8f81, T8f51, T8f85, T8f87, T8f86, T8f113, T8f125, T8f139, T8f136, T8f127, T8f134, T8f133, T8f138, T8f135, T8f88, T8f126, T8f128. -/
import Derived.Test.YtpkgpmmcbpfenaaGreatAv3
import Derived.Test.YtpkgpmmcbpfenaaGreatProg
namespace Go.Avl.T8
open Go Go.RowKit Go.Proofs Go.Avl
set_option linter.unusedVariables false
set_option maxRecDepth 100000
set_option maxHeartbeats 4000000
structure Ai where
 f0:ByteArray
 f1:Int
 f2:Int
deriving Inhabited,DecidableEq
abbrev Cn (x:Ai):AV:=.st [(1,(AN x.f0)),(1,(AB x.f1)),(1,(AB x.f2))]
abbrev C7 (v:Vector Int 4):AV:=.ar 1 (v.toList.map Ab)
structure AE where
 f0:Int
 f1:(Vector Int 4)
deriving Inhabited,DecidableEq
abbrev AM (x:AE):AV:=.st [(1,(AB x.f0)),(4,(.ar 1 (x.f1.toList.map Ab)))]
abbrev Fq (l:List AE):AV:=.fz 5 (l.map AM)
structure AR where
 f0:Int
 f1:Int
 f2:(Vector Int 4)
 f3:Bool
deriving Inhabited,DecidableEq
abbrev BD (x:AR):AV:=.st [(1,(AB x.f0)),(1,(AB x.f1)),(4,(.ar 1 (x.f2.toList.map Ab))),(1,(AD x.f3))]
structure Ar where
 f0:Int
 f1:(List AR)
 f2:Int
 f3:Int
deriving Inhabited,DecidableEq
abbrev BK (x:Ar):AV:=.st [(1,(AB x.f0)),(1,(.fz 7 (x.f1.map BD))),(1,(AB x.f2)),(1,(AB x.f3))]
structure BT where
 f0:Ar
deriving Inhabited,DecidableEq
structure A4 where
 f0:Int
 f1:Int
deriving Inhabited,DecidableEq
abbrev C9 (x:A4):AV:=.st [(1,(AB x.f0)),(1,(AB x.f1))]
abbrev bk (l:List (Vector Int 4)):AV:=.fz 4 (l.map C7)
abbrev cz (v:Vector Int 256):AV:=.ar 1 (v.toList.map AK)
abbrev G7 (l:List Bool):AV:=.fz 1 (l.map AD)
abbrev Ce (l:List Int):AV:=.fz 1 (l.map AB)
structure AI where
 f0:(Vector Int 256)
 f1:(List (List Int))
 f2:(List Int)
deriving Inhabited,DecidableEq
abbrev Ak (x:AI):AV:=.st [(256,(.ar 1 (x.f0.toList.map AK))),(1,(.fz 1 (x.f1.map Ce))),(1,(.fz 1 (x.f2.map AB)))]
structure DX where
 f0:Ar
 f1:(List Int)
 f2:(List Int)
 f3:(List (ByteArray×Int))
 f4:(List (List Bool))
 f5:AI
deriving Inhabited,DecidableEq
structure CN where
 f0:ByteArray
 f1:Int
 f2:ByteArray
deriving Inhabited,DecidableEq
abbrev Es (x:CN):AV:=.st [(1,(AN x.f0)),(1,(AB x.f1)),(1,(AN x.f2))]
abbrev bx (l:List (List AE)):AV:=.fz 1 (l.map Fq)
abbrev cx (l:List (List Bool)):AV:=.fz 1 (l.map G7)
theorem Zt:AX Tryz.prog 81:=AX.mk Tryz.func81 rfl rfl
theorem Bb:Ah Tryz.prog 3=some 1:=by rfl
theorem Rl:A9 Tryz.prog 3=some false:=by rfl
theorem X4:Ah Tryz.prog 9=some 1:=by rfl
theorem cr:A9 Tryz.prog 9=some false:=by rfl
theorem B8:A2 Tryz.prog 120=some ((List.replicate 4 (.int .u64 0))):=by rfl
theorem Bj:∀ g,Ag g (.ar 1 ((Vector.replicate 4 (0:Int)).toList.map Ab)) ((List.replicate 4 (.int .u64 0))):=fun g=>(Eu (Ao rfl))
theorem BX:Ah Tryz.prog 118=some 1:=by rfl
theorem Br:Ah Tryz.prog 120=some 4:=by rfl
theorem HL:A9 Tryz.prog 120=some true:=by rfl
theorem Qz:AX Tryz.prog 139:=AX.mk Tryz.func139 rfl rfl
theorem ZQ:AX Tryz.prog 136:=AX.mk Tryz.func136 rfl rfl
theorem GC:A9 Tryz.prog 118=some false:=by rfl
theorem WT:AX Tryz.prog 125:=AX.mk Tryz.func125 rfl rfl
theorem ZN:AX Tryz.prog 138:=AX.mk Tryz.func138 rfl rfl
theorem TM (x y:(Vector Int 4)):E3 Tryz.prog 2 120 (.ar 1 (x.toList.map Ab)) (.ar 1 (y.toList.map Ab)) (decide (x=y)):=E3.vec (m:=1) Tryz.underlying120 (fun a b=>E3.int Tryz.underlying118) (fun _=>GC) (fun _=>BX) (fun _=>rfl) (by rfl) ⟨_,rfl⟩ x y
theorem XD:Tryz.prog.eqGuardType Tryz.prog.depth 120=false:=by decide+kernel
theorem Hw:AX Tryz.prog 85:=AX.mk Tryz.func85 rfl rfl
theorem Nr:AX Tryz.prog 113:=AX.mk Tryz.func113 rfl rfl
theorem UV:AX Tryz.prog 127:=AX.mk Tryz.func127 rfl rfl
theorem aI:AX Tryz.prog 134:=AX.mk Tryz.func134 rfl rfl
theorem ae:AX Tryz.prog 133:=AX.mk Tryz.func133 rfl rfl
theorem aY:AX Tryz.prog 135:=AX.mk Tryz.func135 rfl rfl
theorem A8:A2 Tryz.prog 122=some (([.int .i64 0]++((List.replicate 4 (.int .u64 0))++[]))):=by rfl
theorem A7:∀ g,Ag g (.st [(1,(AB (0:Int))),(4,(.ar 1 ((Vector.replicate 4 (0:Int)).toList.map Ab)))]) (([.int .i64 0]++((List.replicate 4 (.int .u64 0))++[]))):=fun g=>(Ag.stCons (Ao rfl) rfl (Ag.stCons (Eu (Ao rfl)) rfl Ag.stNil))
theorem BS:Ah Tryz.prog 122=some 5:=by rfl
theorem aP:AX Tryz.prog 88:=AX.mk Tryz.func88 rfl rfl
theorem Ew:Ah Tryz.prog 5=some 1:=by rfl
theorem Ol:A9 Tryz.prog 5=some false:=by rfl
theorem Xn:AX Tryz.prog 87:=AX.mk Tryz.func87 rfl rfl
theorem OJ:Ah Tryz.prog 75=some 1:=by rfl
theorem cH:A9 Tryz.prog 75=some false:=by rfl
theorem Gp:BF Tryz.prog 122=some 40:=by rfl
theorem aC:AX Tryz.prog 84:=AX.mk Tryz.func84 rfl rfl
theorem Pa:A2 Tryz.prog 75=some ([.slice none 0 0]):=by rfl
theorem K8:∀ g,Ag g (.fl (.slice none 0 0)) ([.slice none 0 0]):=fun g=>(Ao rfl)
theorem TG:AX Tryz.prog 86:=AX.mk Tryz.func86 rfl rfl
theorem W1:AX Tryz.prog 112:=AX.mk Tryz.func112 rfl rfl
theorem aO:AX Tryz.prog 123:=AX.mk Tryz.func123 rfl rfl
theorem Zr:AX Tryz.prog 63:=AX.mk Tryz.func63 rfl rfl
theorem aB:AX Tryz.prog 126:=AX.mk Tryz.func126 rfl rfl
theorem Wv:A2 Tryz.prog 5=some ([.int .u8 0]):=by rfl
theorem PL:∀ g,Ag g (AK (0:Int)) ([.int .u8 0]):=fun g=>(Ao rfl)
theorem aQ:AX Tryz.prog 128:=AX.mk Tryz.func128 rfl rfl
theorem aF:A2 Tryz.prog 110=some (([.string ByteArray.empty]++([.int .i64 0]++([.int .i64 0]++[])))):=by rfl
theorem XJ:∀ g,Ag g (.st [(1,(AN ByteArray.empty)),(1,(AB (0:Int))),(1,(AB (0:Int)))]) (([.string ByteArray.empty]++([.int .i64 0]++([.int .i64 0]++[])))):=fun g=>(Ag.stCons (Ao rfl) rfl (Ag.stCons (Ao rfl) rfl (Ag.stCons (Ao rfl) rfl Ag.stNil)))
theorem ZA:A9 Tryz.prog 122=some true:=by rfl
theorem G4:Ah Tryz.prog 80=some 4:=by rfl
theorem Fy:A2 Tryz.prog 125=some (([.int .i64 0]++([.int .i64 0]++[]))):=by rfl
theorem EW:∀ g,Ag g (.st [(1,(AB (0:Int))),(1,(AB (0:Int)))]) (([.int .i64 0]++([.int .i64 0]++[]))):=fun g=>(Ag.stCons (Ao rfl) rfl (Ag.stCons (Ao rfl) rfl Ag.stNil))
theorem WP:AX Tryz.prog 114:=AX.mk Tryz.func114 rfl rfl
theorem Cg:Ah Tryz.prog 125=some 2:=by rfl
theorem Ko:A9 Tryz.prog 125=some true:=by rfl
theorem Ty:Ah Tryz.prog 78=some 1:=by rfl
theorem cZ:A9 Tryz.prog 78=some false:=by rfl
theorem DP:A2 Tryz.prog 127=some (([.int .i64 0]++([.int .i64 0]++((List.replicate 4 (.int .u64 0))++([.bool false]++[]))))):=by rfl
theorem DH:∀ g,Ag g (.st [(1,(AB (0:Int))),(1,(AB (0:Int))),(4,(.ar 1 ((Vector.replicate 4 (0:Int)).toList.map Ab))),(1,(AD false))]) (([.int .i64 0]++([.int .i64 0]++((List.replicate 4 (.int .u64 0))++([.bool false]++[]))))):=fun g=>(Ag.stCons (Ao rfl) rfl (Ag.stCons (Ao rfl) rfl (Ag.stCons (Eu (Ao rfl)) rfl (Ag.stCons (Ao rfl) rfl Ag.stNil))))
theorem EG:Ah Tryz.prog 127=some 7:=by rfl
theorem QQ:BF Tryz.prog 127=some 56:=by rfl
theorem cS:AX Tryz.prog 89:=AX.mk Tryz.func89 rfl rfl
theorem KR:AX Tryz.prog 90:=AX.mk Tryz.func90 rfl rfl
theorem ab:BF Tryz.prog 125=some 16:=by rfl
theorem Jd:A2 Tryz.prog 80=some (([.int .i64 0]++([.slice none 0 0]++([.int .i64 0]++([.int .i64 0]++[]))))):=by rfl
theorem Gl:∀ g,Ag g (.st [(1,(AB (0:Int))),(1,(.fl (.slice none 0 0))),(1,(AB (0:Int))),(1,(AB (0:Int)))]) (([.int .i64 0]++([.slice none 0 0]++([.int .i64 0]++([.int .i64 0]++[]))))):=fun g=>(Ag.stCons (Ao rfl) rfl (Ag.stCons (Ao rfl) rfl (Ag.stCons (Ao rfl) rfl (Ag.stCons (Ao rfl) rfl Ag.stNil))))
theorem cM:AX Tryz.prog 64:=AX.mk Tryz.func64 rfl rfl
theorem Sz:A9 Tryz.prog 80=some true:=by rfl
theorem ZU:A2 Tryz.prog 116=some ((([.int .i64 0]++([.slice none 0 0]++([.int .i64 0]++([.int .i64 0]++[]))))++[])):=by rfl
theorem Xp:∀ g,Ag g (.st [(4,(.st [(1,(AB (0:Int))),(1,(.fl (.slice none 0 0))),(1,(AB (0:Int))),(1,(AB (0:Int)))]))]) ((([.int .i64 0]++([.slice none 0 0]++([.int .i64 0]++([.int .i64 0]++[]))))++[])):=fun g=>(Ag.stCons (Ag.stCons (Ao rfl) rfl (Ag.stCons (Ao rfl) rfl (Ag.stCons (Ao rfl) rfl (Ag.stCons (Ao rfl) rfl Ag.stNil)))) rfl Ag.stNil)
theorem cD:AX Tryz.prog 65:=AX.mk Tryz.func65 rfl rfl
theorem af:A9 Tryz.prog 127=some true:=by rfl
theorem Bw:Ah Tryz.prog 4=some 1:=by rfl
theorem TF:A9 Tryz.prog 4=some false:=by rfl
theorem aL:BF Tryz.prog 120=some 32:=by rfl
theorem bm:BF Tryz.prog 5=some 1:=by rfl
theorem aR:AX Tryz.prog 94:=AX.mk Tryz.func94 rfl rfl
theorem ZS:A2 Tryz.prog 38=some ((List.replicate 256 (.int .u8 0))):=by rfl
theorem Wj:∀ g,Ag g (.ar 1 ((Vector.replicate 256 (0:Int)).toList.map AK)) ((List.replicate 256 (.int .u8 0))):=fun g=>(Eu (Ao rfl))
theorem bl:AX Tryz.prog 91:=AX.mk Tryz.func91 rfl rfl
theorem Fj:A2 Tryz.prog 3=some ([.int .i64 0]):=by rfl
theorem Ym:∀ g,∃ zv,((Tryz.prog.info? 3).bind (·.zero))=some zv∧V1 g (AB (0:Int)) zv:=fun g=>⟨_,rfl,rfl⟩
theorem ZK:A9 Tryz.prog 38=some true:=by rfl
theorem UP:Ah Tryz.prog 38=some 256:=by rfl
theorem KI:BF Tryz.prog 4=some 1:=by rfl
theorem G3:A2 Tryz.prog 4=some ([.bool false]):=by rfl
theorem D9:∀ g,Ag g (AD false) ([.bool false]):=fun g=>(Ao rfl)
theorem HI:Ah Tryz.prog 40=some 1:=by rfl
theorem bQ:A9 Tryz.prog 40=some false:=by rfl
theorem Zk:AX Tryz.prog 115:=AX.mk Tryz.func115 rfl rfl
theorem ba:AX Tryz.prog 92:=AX.mk Tryz.func92 rfl rfl
theorem bz:Ah Tryz.prog 97=some 1:=by rfl
theorem bO:A9 Tryz.prog 97=some false:=by rfl
theorem Ze:Ah Tryz.prog 93=some 1:=by rfl
theorem bH:A9 Tryz.prog 93=some false:=by rfl
theorem IW:Ah Tryz.prog 95=some 1:=by rfl
theorem VA:A2 Tryz.prog 95=some ([.slice none 0 0]):=by rfl
theorem XI:∀ g,Ag g (.fl (.slice none 0 0)) ([.slice none 0 0]):=fun g=>(Ao rfl)
theorem ZL:BF Tryz.prog 95=some 24:=by rfl
theorem BQ:Ah Tryz.prog 42=some 258:=by rfl
theorem bV:AX Tryz.prog 93:=AX.mk Tryz.func93 rfl rfl
theorem DT:∀ g,Ag g (AB (0:Int)) ([.int .i64 0]):=fun g=>(Ao rfl)
theorem KP:BF Tryz.prog 3=some 8:=by rfl
theorem CY:A2 Tryz.prog 42=some (((List.replicate 256 (.int .u8 0))++([.slice none 0 0]++([.slice none 0 0]++[])))):=by rfl
theorem BV:∀ g,Ag g (.st [(256,(.ar 1 ((Vector.replicate 256 (0:Int)).toList.map AK))),(1,(.fl (.slice none 0 0))),(1,(.fl (.slice none 0 0)))]) (((List.replicate 256 (.int .u8 0))++([.slice none 0 0]++([.slice none 0 0]++[])))):=fun g=>(Ag.stCons (Eu (Ao rfl)) rfl (Ag.stCons (Ao rfl) rfl (Ag.stCons (Ao rfl) rfl Ag.stNil)))
theorem Yy:AX Tryz.prog 66:=AX.mk Tryz.func66 rfl rfl
theorem E9:A9 Tryz.prog 42=some true:=by rfl
theorem Zp:A2 Tryz.prog 132=some ((([.int .i64 0]++([.slice none 0 0]++([.int .i64 0]++([.int .i64 0]++[]))))++([.slice none 0 0]++([.slice none 0 0]++([.map none]++([.slice none 0 0]++(((List.replicate 256 (.int .u8 0))++([.slice none 0 0]++([.slice none 0 0]++[])))++[]))))))):=by rfl
theorem X8:∀ g,Ag g (.st [(4,(.st [(1,(AB (0:Int))),(1,(.fl (.slice none 0 0))),(1,(AB (0:Int))),(1,(AB (0:Int)))])),(1,(.fl (.slice none 0 0))),(1,(.fl (.slice none 0 0))),(1,(.fl (.map none))),(1,(.fl (.slice none 0 0))),(258,(.st [(256,(.ar 1 ((Vector.replicate 256 (0:Int)).toList.map AK))),(1,(.fl (.slice none 0 0))),(1,(.fl (.slice none 0 0)))]))]) ((([.int .i64 0]++([.slice none 0 0]++([.int .i64 0]++([.int .i64 0]++[]))))++([.slice none 0 0]++([.slice none 0 0]++([.map none]++([.slice none 0 0]++(((List.replicate 256 (.int .u8 0))++([.slice none 0 0]++([.slice none 0 0]++[])))++[]))))))):=fun g=>(Ag.stCons (Ag.stCons (Ao rfl) rfl (Ag.stCons (Ao rfl) rfl (Ag.stCons (Ao rfl) rfl (Ag.stCons (Ao rfl) rfl Ag.stNil)))) rfl (Ag.stCons (Ao rfl) rfl (Ag.stCons (Ao rfl) rfl (Ag.stCons (Ao rfl) rfl (Ag.stCons (Ao rfl) rfl (Ag.stCons (Ag.stCons (Eu (Ao rfl)) rfl (Ag.stCons (Ao rfl) rfl (Ag.stCons (Ao rfl) rfl Ag.stNil))) rfl Ag.stNil))))))
theorem cQ:AX Tryz.prog 68:=AX.mk Tryz.func68 rfl rfl
theorem ca:AX Tryz.prog 67:=AX.mk Tryz.func67 rfl rfl
theorem QK:Ah Tryz.prog 130=some 1:=by rfl
theorem WV:A9 Tryz.prog 130=some false:=by rfl
theorem aa:AX Tryz.prog 70:=AX.mk Tryz.func70 rfl rfl
theorem ZW:AX Tryz.prog 69:=AX.mk Tryz.func69 rfl rfl
theorem UZ:A9 Tryz.prog 95=some false:=by rfl
theorem cE:AX Tryz.prog 71:=AX.mk Tryz.func71 rfl rfl
theorem KM:Ah Tryz.prog 39=some 1:=by rfl
theorem Yd:A9 Tryz.prog 39=some false:=by rfl
theorem KT:A2 Tryz.prog 40=some ([.slice none 0 0]):=by rfl
theorem Ng:∀ g,Ag g (.fl (.slice none 0 0)) ([.slice none 0 0]):=fun g=>(Ao rfl)
theorem Ud:BF Tryz.prog 40=some 24:=by rfl
theorem Y5:AX Tryz.prog 39:=AX.mk Tryz.func39 rfl rfl
theorem Yz:AX Tryz.prog 36:=AX.mk Tryz.func36 rfl rfl
theorem Zi:AX Tryz.prog 37:=AX.mk Tryz.func37 rfl rfl
theorem ZX:AX Tryz.prog 107:=AX.mk Tryz.func107 rfl rfl
theorem ZC:AX Tryz.prog 122:=AX.mk Tryz.func122 rfl rfl
theorem aA:AX Tryz.prog 109:=AX.mk Tryz.func109 rfl rfl
theorem XC:AX Tryz.prog 108:=AX.mk Tryz.func108 rfl rfl
theorem bo:AX Tryz.prog 51:=AX.mk Tryz.func51 rfl rfl
theorem be:AX Tryz.prog 79:=AX.mk Tryz.func79 rfl rfl
theorem bn:AX Tryz.prog 80:=AX.mk Tryz.func80 rfl rfl
theorem Om:Ah Tryz.prog 53=some 3:=by rfl
theorem bU:A9 Tryz.prog 53=some true:=by rfl
theorem RO:A2 Tryz.prog 53=some (([.string ByteArray.empty]++([.int .i64 0]++([.string ByteArray.empty]++[])))):=by rfl
theorem LJ:∀ g,Ag g (.st [(1,(AN ByteArray.empty)),(1,(AB (0:Int))),(1,(AN ByteArray.empty))]) (([.string ByteArray.empty]++([.int .i64 0]++([.string ByteArray.empty]++[])))):=fun g=>(Ag.stCons (Ao rfl) rfl (Ag.stCons (Ao rfl) rfl (Ag.stCons (Ao rfl) rfl Ag.stNil)))
theorem bN:AX Tryz.prog 50:=AX.mk Tryz.func50 rfl rfl
theorem Xf:AX Tryz.prog 95:=AX.mk Tryz.func95 rfl rfl
theorem cJ:AX Tryz.prog 96:=AX.mk Tryz.func96 rfl rfl
theorem cC:AX Tryz.prog 97:=AX.mk Tryz.func97 rfl rfl
theorem Zm:AX Tryz.prog 98:=AX.mk Tryz.func98 rfl rfl
theorem T5:AX Tryz.prog 117:=AX.mk Tryz.func117 rfl rfl
theorem ZV:AX Tryz.prog 116:=AX.mk Tryz.func116 rfl rfl
theorem Zv:AX Tryz.prog 72:=AX.mk Tryz.func72 rfl rfl
theorem ZI:AX Tryz.prog 100:=AX.mk Tryz.func100 rfl rfl
theorem ZF:AX Tryz.prog 99:=AX.mk Tryz.func99 rfl rfl
theorem ZO:AX Tryz.prog 101:=AX.mk Tryz.func101 rfl rfl
theorem bf:AX Tryz.prog 74:=AX.mk Tryz.func74 rfl rfl
theorem ZG:AX Tryz.prog 73:=AX.mk Tryz.func73 rfl rfl
theorem bS:AX Tryz.prog 75:=AX.mk Tryz.func75 rfl rfl
theorem cU:AX Tryz.prog 76:=AX.mk Tryz.func76 rfl rfl
theorem bh:AX Tryz.prog 22:=AX.mk Tryz.func22 rfl rfl
theorem ce:BF Tryz.prog 80=some 48:=by rfl
theorem bj:AX Tryz.prog 38:=AX.mk Tryz.func38 rfl rfl
theorem bI:AX Tryz.prog 40:=AX.mk Tryz.func40 rfl rfl
theorem ch:AX Tryz.prog 44:=AX.mk Tryz.func44 rfl rfl
theorem cb:AX Tryz.prog 62:=AX.mk Tryz.func62 rfl rfl
theorem Zo:AX Tryz.prog 12:=AX.mk Tryz.func12 rfl rfl
theorem RX:AX Tryz.prog 16:=AX.mk Tryz.func16 rfl rfl
theorem Nv:AX Tryz.prog 15:=AX.mk Tryz.func15 rfl rfl
theorem cL:AX Tryz.prog 35:=AX.mk Tryz.func35 rfl rfl
theorem Q7:AX Tryz.prog 110:=AX.mk Tryz.func110 rfl rfl
theorem Wf:AX Tryz.prog 111:=AX.mk Tryz.func111 rfl rfl
theorem bP:AX Tryz.prog 83:=AX.mk Tryz.func83 rfl rfl
theorem SM:AX Tryz.prog 104:=AX.mk Tryz.func104 rfl rfl
theorem S4:AX Tryz.prog 132:=AX.mk Tryz.func132 rfl rfl
theorem ZT:AX Tryz.prog 137:=AX.mk Tryz.func137 rfl rfl
theorem Ub:AX Tryz.prog 131:=AX.mk Tryz.func131 rfl rfl
theorem Nz:AX Tryz.prog 119:=AX.mk Tryz.func119 rfl rfl
theorem W4:AX Tryz.prog 129:=AX.mk Tryz.func129 rfl rfl
theorem W5:AX Tryz.prog 102:=AX.mk Tryz.func102 rfl rfl
theorem W6:AX Tryz.prog 118:=AX.mk Tryz.func118 rfl rfl
theorem Zb:AX Tryz.prog 124:=AX.mk Tryz.func124 rfl rfl
theorem aU:AX Tryz.prog 130:=AX.mk Tryz.func130 rfl rfl
theorem Zn:AX Tryz.prog 77:=AX.mk Tryz.func77 rfl rfl
theorem Wn:AX Tryz.prog 120:=AX.mk Tryz.func120 rfl rfl
theorem aZ:AX Tryz.prog 121:=AX.mk Tryz.func121 rfl rfl
theorem bq:BF Tryz.prog 75=some 24:=by rfl
theorem Zc:AX Tryz.prog 103:=AX.mk Tryz.func103 rfl rfl
theorem OS:AX Tryz.prog 78:=AX.mk Tryz.func78 rfl rfl
theorem SR:AX Tryz.prog 105:=AX.mk Tryz.func105 rfl rfl
theorem Wp:AX Tryz.prog 106:=AX.mk Tryz.func106 rfl rfl
theorem cX:AX Tryz.prog 56:=AX.mk Tryz.func56 rfl rfl
theorem Y2:AX Tryz.prog 45:=AX.mk Tryz.func45 rfl rfl
theorem aG:AX Tryz.prog 46:=AX.mk Tryz.func46 rfl rfl
theorem cd:AX Tryz.prog 41:=AX.mk Tryz.func41 rfl rfl
theorem ai:AX Tryz.prog 43:=AX.mk Tryz.func43 rfl rfl
theorem cK:AX Tryz.prog 42:=AX.mk Tryz.func42 rfl rfl
theorem V6:AX Tryz.prog 48:=AX.mk Tryz.func48 rfl rfl
theorem bR:AX Tryz.prog 47:=AX.mk Tryz.func47 rfl rfl
theorem bG:AX Tryz.prog 10:=AX.mk Tryz.func10 rfl rfl
theorem cR:AX Tryz.prog 11:=AX.mk Tryz.func11 rfl rfl
theorem bu:AX Tryz.prog 13:=AX.mk Tryz.func13 rfl rfl
theorem cV:AX Tryz.prog 14:=AX.mk Tryz.func14 rfl rfl
theorem bK:AX Tryz.prog 17:=AX.mk Tryz.func17 rfl rfl
theorem bE:AX Tryz.prog 18:=AX.mk Tryz.func18 rfl rfl
theorem cg:AX Tryz.prog 19:=AX.mk Tryz.func19 rfl rfl
theorem bX:AX Tryz.prog 20:=AX.mk Tryz.func20 rfl rfl
instance:JP Tryz.prog 3 false 1:=⟨Rl,Bb⟩
instance:JP Tryz.prog 4 false 1:=⟨TF,Bw⟩
instance:JP Tryz.prog 5 false 1:=⟨Ol,Ew⟩
instance:JP Tryz.prog 9 false 1:=⟨cr,X4⟩
instance:JP Tryz.prog 38 true 256:=⟨ZK,UP⟩
instance:JP Tryz.prog 39 false 1:=⟨Yd,KM⟩
instance:JP Tryz.prog 40 false 1:=⟨bQ,HI⟩
instance:JP Tryz.prog 42 true 258:=⟨E9,BQ⟩
instance:JP Tryz.prog 53 true 3:=⟨bU,Om⟩
instance:JP Tryz.prog 75 false 1:=⟨cH,OJ⟩
instance:JP Tryz.prog 78 false 1:=⟨cZ,Ty⟩
instance:JP Tryz.prog 80 true 4:=⟨Sz,G4⟩
instance:JP Tryz.prog 93 false 1:=⟨bH,Ze⟩
instance:JP Tryz.prog 95 false 1:=⟨UZ,IW⟩
instance:JP Tryz.prog 97 false 1:=⟨bO,bz⟩
instance:JP Tryz.prog 118 false 1:=⟨GC,BX⟩
instance:JP Tryz.prog 120 true 4:=⟨HL,Br⟩
instance:JP Tryz.prog 122 true 5:=⟨ZA,BS⟩
instance:JP Tryz.prog 125 true 2:=⟨Ko,Cg⟩
instance:JP Tryz.prog 127 true 7:=⟨af,EG⟩
instance:JP Tryz.prog 130 false 1:=⟨WV,QK⟩
abbrev Z0 (a:List AV):AV:=(.st [(256,(.ar 1 a)),(1,(.fl (.slice none 0 0))),(1,(.fl (.slice none 0 0)))])
abbrev Z1 (a:Nat) (b:Int) (c:Nat) (d:Nat) (f:Int) (g:Int):Nat×El:=(a,(.mem (.st [(4,(.st [(1,(AB b)),(1,(.own c 0 d)),(1,(AB f)),(1,(AB g))]))])))
abbrev Z2 (a:Nat) (b:Ar) (c:List Int) (d:List Int) (f:Nat) (g:Nat) (i:Nat) (j:List AV) (l:Nat) (m:Nat) (n:Nat) (o:Nat):Nat×El:=(a,(.mem (.st [(4,(BK b)),(1,(.fz 1 (c.map AB))),(1,(.fz 1 (d.map AK))),(1,(.mp f)),(1,(.own g 0 i)),(258,(.st [(256,(.ar 1 j)),(1,(.own l 0 m)),(1,(.own n 0 o))]))])))
abbrev Z3 (a:List Int):El:=(.mem (.ar 1 (a.map AB)))
abbrev Z4 (a:Nat) (b:Int) (c:List AR) (d:Int) (f:Int) (g:List Int) (i:List Int) (j:Nat) (l:Nat) (m:Nat) (n:List AV) (o:Nat) (p:Nat) (q:Nat) (s:Nat):Nat×El:=(a,(.mem (.st [(4,(.st [(1,(AB b)),(1,(.fz 7 (c.map BD))),(1,(AB d)),(1,(AB f))])),(1,(.fz 1 (g.map AB))),(1,(.fz 1 (i.map AK))),(1,(.mp j)),(1,(.own l 0 m)),(258,(.st [(256,(.ar 1 n)),(1,(.own o 0 p)),(1,(.own q 0 s))]))])))
abbrev Z5 (a:Nat) (b:List (List Int)):Nat×El:=(a,(.mem (.ar 1 (b.map Ce))))
abbrev Z6 (a:Nat) (b:List AV) (c:Nat) (d:Nat) (f:Nat) (g:Nat):Nat×El:=(a,(.mem (.st [(256,(.ar 1 b)),(1,(.own c 0 d)),(1,(.own f 0 g))])))
abbrev Z7 (a:Int):AV:=(.st [(1,(AB a)),(1,(.fl (.slice none 0 0))),(1,(AB a)),(1,(AB a))])
abbrev Z8 (a:Nat) (b:List AR):Nat×El:=(a,(.mem (.ar 7 (b.map BD))))
abbrev Z9 (a:Nat) (b:List Bool):Nat×El:=(a,(.mem (.ar 1 (b.map AD))))
abbrev Bm (a:Nat) (b:List A4):Nat×El:=(a,(.mem (.ar 2 (b.map C9))))
abbrev C5 (a:Nat) (b:List (List Bool)):Nat×El:=(a,(.mem (.ar 1 (b.map G7))))
abbrev BM (a:Nat) (b:List AV):Nat×El:=(a,(.mem (.ar 1 b)))
abbrev Ba (a:List AE):AV:=(.fz 5 (a.map AM))
abbrev N8 (a:Nat) (b:List AV) (c:Nat) (d:Nat) (f:List Int):Nat×El:=(a,(.mem (.st [(256,(.ar 1 b)),(1,(.own c 0 d)),(1,(.fz 1 (f.map AB)))])))
abbrev BA (a:Nat) (b:List AV):Nat×El:=(a,(.mem (Z0 b)))
abbrev Km (a:Nat) (b:ByteArray) (c:Int) (d:Int):Nat×El:=(a,(.mem (.st [(1,(AN b)),(1,(AB c)),(1,(AB d))])))
abbrev PP (a:List AV) (b:List (List Int)) (c:List Int):AV:=(.st [(256,(.ar 1 a)),(1,(.fz 1 (b.map Ce))),(1,(.fz 1 (c.map AB)))])
abbrev Kr (a:Int):El:=(.mem (.st [(1,(AB a)),(1,(AB a))]))
abbrev Bt (a:Nat) (b:A4):Nat×El:=(a,(.mem (C9 b)))
abbrev SA (a:List AV) (b:List Int):AV:=(.st [(256,(.ar 1 a)),(1,(.fl (.slice none 0 0))),(1,(.fz 1 (b.map AB)))])
abbrev Ha (a:Int) (b:List AV):AV:=(.st [(1,(AB a)),(4,(.ar 1 b))])
abbrev Uz (a:List AV) (b:List (List Int)):AV:=(.st [(256,(.ar 1 a)),(1,(.fz 1 (b.map Ce))),(1,(.fl (.slice none 0 0)))])
abbrev Df (a:List Int):AV:=(.fz 1 (a.map AB))
abbrev FT (a:Nat) (b:Ai):Nat×El:=(a,(.mem (Cn b)))
abbrev HB (a:List AE):AV:=(nz 5 (a.map AM))
abbrev Yr (a:Int) (b:Nat) (c:Nat) (d:Int):El:=(.mem (.st [(1,(AB a)),(1,(.own b 0 c)),(1,(AB d)),(1,(AB d))]))
abbrev YS (a:Int) (b:Int) (c:List AV) (d:Bool):AV:=(.st [(1,(AB a)),(1,(AB b)),(4,(.ar 1 c)),(1,(AD d))])
abbrev BL (a:Nat) (b:Nat):AV:=(.own a 0 b)
abbrev Ln (a:List Bool):AV:=(.fz 1 (a.map AD))
abbrev aN (a:Int) (b:List AR) (c:Int) (d:Int):AV:=(.st [(1,(AB a)),(1,(.fz 7 (b.map BD))),(1,(AB c)),(1,(AB d))])
abbrev IV (a:Nat) (b:Int):Nat×El:=(a,(.mem (Z7 b)))
abbrev Uy (a:Nat) (b:List Int):Nat×El:=(a,(.mem (.ar 1 (b.map AK))))
end Go.Avl.T8
namespace Go.Avl.T8
open Go Go.RowKit Go.Proofs Go.Avl
set_option linter.unusedVariables false
set_option maxRecDepth 100000
set_option maxHeartbeats 4000000
attribute [local irreducible] AW AO AQ AY Aq AH
def Ox (k:Nat):Option Int:=
 some ((0:Int))
def O5 (k:Nat):Option Int:=
 some ((4:Int))
def JL (k:Nat):Option Int:=
 some ((3:Int))
def O2 (k:Nat):Option Int:=
 some ((2:Int))
def PT (k:Nat):Option Int:=
 some ((1:Int))
def GF (k:Nat) (p0:Int) (b2:Bool):Option Int:=
 if b2=true then PT k
 else Option.bind (α:=Bool) (if(48:Int)≤p0 then some (decide (p0≤(57:Int)))
 else some (false)) fun b4=>
 if b4=true then O2 k
 else Option.bind (α:=Bool) (if(97:Int)≤p0 then some (decide (p0≤(122:Int)))
 else some (false)) fun b8=>
 if b8=true then JL k
 else Option.bind (α:=Bool) (if(65:Int)≤p0 then some (decide (p0≤(90:Int)))
 else some (false)) fun b12=>
 if b12=true then JL k
 else if p0=(95:Int)then JL k
 else Option.bind (α:=Bool) (if(32:Int)<p0 then some (decide (p0≤(126:Int)))
 else some (false)) fun b17=>
 if b17=true then O5 k
 else Ox k
def U7 (k:Nat) (p0:Int):Option Int:=
 if p0=(32:Int)then GF k p0 (decide (p0=(32:Int)))
 else if p0=(9:Int)then GF k p0 (decide (p0=(9:Int)))
 else if p0=(10:Int)then GF k p0 (decide (p0=(10:Int)))
 else GF k p0 (decide (p0=(13:Int)))
theorem OH {k:Nat} {p0:Int} {r:Int} (h:U7 k p0=some r):AY Tryz.prog 81 [(AK p0)] (AB r):=by
 rw[U7.eq_1]at h;refine AY.intro (res:=[.tmp 2]) Tryz.func81 rfl rfl rfl (Nat.le_of_ble_eq_true rfl) ?_;refine .a 3 ?_;refine .nK [0] ?_;refine .seq_mid (fun ρ H=>ρ=[]∧H=[]∧Ox k=some r) ?_ ?_
 ·refine .a 1 ?_;refine .seq_mid (fun ρ H=>ρ=[]∧H=[]∧O5 k=some r) ?_ ?_
  ·refine .a 1 ?_;refine .seq_mid (fun ρ H=>ρ=[]∧H=[]∧JL k=some r) ?_ ?_
   ·refine .a 3 ?_;refine .seq_mid (fun ρ H=>ρ=[]∧H=[]∧O2 k=some r) ?_ ?_
    ·refine .a 1 ?_;refine .seq_mid (fun ρ H=>ρ=[]∧H=[]∧PT k=some r) ?_ ?_
     ·refine .a 3 ?_;refine .seq_mid (fun ρ H=>∃ (b2:Bool),ρ=[(0,(AK p0)),(3,(AD b2))]∧H=[]∧GF k p0 b2=some r) ?_ ?_
      ·refine .a 6 ?_;rcases oi h with⟨c21,h⟩|⟨c21,h⟩
       ·refine .a 1 ?_;refine .sK [0,3] ?_;exact⟨decide (p0=(32:Int)),rfl,rfl,h⟩
       refine .a 7 ?_;rcases oi h with⟨c22,h⟩|⟨c22,h⟩
       ·refine .a 1 ?_;refine .sK [0,3] ?_;exact⟨decide (p0=(9:Int)),rfl,rfl,h⟩
       refine .a 7 ?_;rcases oi h with⟨c23,h⟩|⟨c23,h⟩
       ·refine .a 1 ?_;refine .sK [0,3] ?_;exact⟨decide (p0=(10:Int)),rfl,rfl,h⟩
       refine .a 5 ?_;refine .nK [0,3] ?_;exact⟨decide (p0=(13:Int)),rfl,rfl,h⟩
      rintro _ _ ⟨b2,rfl,rfl,h⟩;rw[GF.eq_1]at h;rcases oi h with⟨c3,h⟩|⟨c3,h⟩
      ·refine .a 1 ?_;refine .eK [] ?_;exact⟨rfl,rfl,h⟩
      refine .a 4 ?_;obtain⟨b4,q5,h⟩:=ob h;refine .regM [(0,(AK p0)),(12,(AD b4))] [] ?_ ?_
      ·refine .a 3 ?_;rcases oi q5 with⟨c6,q5⟩|⟨c6,q5⟩
       ·refine .a 4 ?_;cases q5;refine .nilE ⟨rfl,rfl⟩ ?_ ?_
        ·exact⟨rfl,rfl,trivial⟩
        exact(.refl _)
       refine .a 4 ?_;cases q5;refine .nilE ⟨rfl,rfl⟩ ?_ ?_
       ·exact⟨rfl,rfl,trivial⟩
       exact(.refl _)
      rcases oi h with⟨c7,h⟩|⟨c7,h⟩
      ·refine .a 1 ?_;refine .eK [] ?_;exact⟨rfl,rfl,h⟩
      refine .a 4 ?_;obtain⟨b8,q9,h⟩:=ob h;refine .regM [(0,(AK p0)),(19,(AD b8))] [] ?_ ?_
      ·refine .a 3 ?_;rcases oi q9 with⟨c10,q9⟩|⟨c10,q9⟩
       ·refine .a 4 ?_;cases q9;refine .nilE ⟨rfl,rfl⟩ ?_ ?_
        ·exact⟨rfl,rfl,trivial⟩
        exact(.refl _)
       refine .a 4 ?_;cases q9;refine .nilE ⟨rfl,rfl⟩ ?_ ?_
       ·exact⟨rfl,rfl,trivial⟩
       exact(.refl _)
      rcases oi h with⟨c11,h⟩|⟨c11,h⟩
      ·refine .a 1 ?_;refine .eK [] ?_;exact⟨rfl,rfl,h⟩
      refine .a 4 ?_;obtain⟨b12,q13,h⟩:=ob h;refine .regM [(0,(AK p0)),(26,(AD b12))] [] ?_ ?_
      ·refine .a 3 ?_;rcases oi q13 with⟨c14,q13⟩|⟨c14,q13⟩
       ·refine .a 4 ?_;cases q13;refine .nilE ⟨rfl,rfl⟩ ?_ ?_
        ·exact⟨rfl,rfl,trivial⟩
        exact(.refl _)
       refine .a 4 ?_;cases q13;refine .nilE ⟨rfl,rfl⟩ ?_ ?_
       ·exact⟨rfl,rfl,trivial⟩
       exact(.refl _)
      rcases oi h with⟨c15,h⟩|⟨c15,h⟩
      ·refine .a 1 ?_;refine .eK [] ?_;exact⟨rfl,rfl,h⟩
      refine .a 9 ?_;rcases oi h with⟨c16,h⟩|⟨c16,h⟩
      ·refine .a 1 ?_;refine .eK [] ?_;exact⟨rfl,rfl,h⟩
      refine .a 3 ?_;obtain⟨b17,q18,h⟩:=ob h;refine .regM [(36,(AD b17))] [] ?_ ?_
      ·refine .a 3 ?_;rcases oi q18 with⟨c19,q18⟩|⟨c19,q18⟩
       ·refine .a 4 ?_;cases q18;refine .nilE ⟨rfl,rfl⟩ ?_ ?_
        ·exact⟨rfl,trivial⟩
        exact(.refl _)
       refine .a 4 ?_;cases q18;refine .nilE ⟨rfl,rfl⟩ ?_ ?_
       ·exact⟨rfl,trivial⟩
       exact(.refl _)
      rcases oi h with⟨c20,h⟩|⟨c20,h⟩
      ·refine .a 1 ?_;refine .eK [] ?_;exact⟨rfl,rfl,h⟩
      refine .a 1 ?_;refine .sK [] ?_;refine .eK [] ?_;exact⟨rfl,rfl,h⟩
     rintro _ _ ⟨rfl,rfl,h⟩;rw[PT.eq_1]at h;refine .a 4 ?_;refine .nK [2] ?_;refine .rK [2] ?_;cases h;exact⟨[(AB (1:Int))],⟨rfl,rfl,trivial⟩,rfl⟩
    rintro _ _ ⟨rfl,rfl,h⟩;rw[O2.eq_1]at h;refine .a 4 ?_;refine .nK [2] ?_;refine .rK [2] ?_;cases h;exact⟨[(AB (2:Int))],⟨rfl,rfl,trivial⟩,rfl⟩
   rintro _ _ ⟨rfl,rfl,h⟩;rw[JL.eq_1]at h;refine .a 4 ?_;refine .nK [2] ?_;refine .rK [2] ?_;cases h;exact⟨[(AB (3:Int))],⟨rfl,rfl,trivial⟩,rfl⟩
  rintro _ _ ⟨rfl,rfl,h⟩;rw[O5.eq_1]at h;refine .a 4 ?_;refine .nK [2] ?_;refine .rK [2] ?_;cases h;exact⟨[(AB (4:Int))],⟨rfl,rfl,trivial⟩,rfl⟩
 rintro _ _ ⟨rfl,rfl,h⟩;rw[Ox.eq_1]at h;refine .a 3 ?_;refine .nK [2] ?_;refine .rK [2] ?_;cases h;exact⟨[(AB (0:Int))],⟨rfl,rfl,trivial⟩,rfl⟩
def PI (k:Nat):Option Bool:=
 some (true)
def B6 (k:Nat) (p0:ByteArray):Nat→Int→Option Bool
 | 0,_=>none
 | j+1,x9=>
   if x9<(p0.size:Int)then if 0≤x9∧x9<(p0.size:Int)then(U7 k (AF p0 x9)).bind fun t14=>
   Option.bind (α:=Bool) (if t14≠(2:Int)then some (decide (t14≠(3:Int)))
   else some (false)) fun b15=>
   if b15=true then some (false)
   else(B6 k p0 j) (AG (x9+(1:Int)))
   else none
   else PI k
def WQ (k:Nat) (p0:ByteArray):Option Bool:=
 Option.bind (α:=Bool) (if(40:Int)<(p0.size:Int)then some (true)
 else if p0=(ByteArray.mk #[])then some (true)
 else if 0≤(0:Int)∧(0:Int)<(p0.size:Int)then(U7 k (AF p0 (0:Int))).bind fun t7=>
 some (decide (t7≠(3:Int)))
 else none) fun b2=>
 if b2=true then some (false)
 else B6 k p0 k (0:Int)
theorem TP {k:Nat} {p0:ByteArray} {r:Bool} (h:WQ k p0=some r):AY Tryz.prog 51 [(AN p0)] (AD r):=by
 rw[WQ.eq_1]at h;refine AY.intro (res:=[.tmp 2]) Tryz.func51 rfl rfl rfl (Nat.le_of_ble_eq_true rfl) ?_;refine .a 6 ?_;obtain⟨b2,q3,h⟩:=ob h;refine .regM [(0,(AN p0)),(17,(AD b2))] [] ?_ ?_
 ·refine .a 4 ?_;rcases oi q3 with⟨c4,q3⟩|⟨c4,q3⟩
  ·refine .a 9 ?_;cases q3;refine .nilE ⟨rfl,rfl⟩ ?_ ?_
   ·exact⟨rfl,rfl,trivial⟩
   exact(.refl _)
  refine .a 4 ?_;rcases oi q3 with⟨c5,q3⟩|⟨c5,q3⟩
  ·refine .a 5 ?_;cases q3;refine .nilE ⟨rfl,rfl⟩ ?_ ?_
   ·exact⟨rfl,rfl,trivial⟩
   exact(.refl _)
  refine .a 1 ?_;obtain⟨g6,q3⟩:=AC q3;refine .a 1 ?_;obtain⟨t7,et7,q3⟩:=ob q3;refine .callG 7 false 12 [(AK (AF p0 (0:Int)))] (AB t7) 15 rfl (by decide) Zt rfl rfl (bD (decide_eq_false c5)) rfl rfl ⟨rfl,rfl,trivial⟩ (OH et7) ?_;refine .a 2 ?_;cases q3;refine .nilE ⟨rfl,rfl⟩ ?_ ?_
  ·exact⟨rfl,rfl,trivial⟩
  exact(.refl _)
 rcases oi h with⟨c8,h⟩|⟨c8,h⟩
 ·refine .a 4 ?_;refine .nK [2] ?_;refine .rK [2] ?_;have hr:=Option.some.inj h;subst hr;exact⟨[(AD false)],⟨rfl,rfl,trivial⟩,rfl⟩
 refine .a 1 ?_;refine .sK [0] ?_;refine .seq_mid (fun ρ H=>ρ=[]∧H=[]∧PI k=some r) ?_ ?_
 ·refine .a 7 ?_;refine .wK [0,19,20] ?_;refine .loop (fun kq ρ H=>∃ (x9:Int),ρ=[(0,(AN p0)),(19,(AB (p0.size:Int))),(20,(AB x9))]∧H=[]∧B6 k p0 kq x9=some r) k ⟨(0:Int),rfl,rfl,h⟩ ?_;rintro kq11 _ _ ⟨x9,rfl,rfl,h⟩
  cases kq11 with
  | zero=>rw[B6.eq_1]at h;cases h
  | succ kq11=>
  rw[B6.eq_2]at h;generalize hrec10:B6 k p0 kq11=rec10 at h;refine .a 5 ?_;rcases oi h with⟨c12,h⟩|⟨c12,h⟩
  ·refine .a 13 ?_;obtain⟨g13,h⟩:=AC h;refine .a 1 ?_;obtain⟨t14,et14,h⟩:=ob h;refine .callS [(AK (AF p0 x9))] (AB t14) 26 rfl (by decide) Zt rfl rfl rfl ⟨rfl,rfl,trivial⟩ (OH et14) ?_;refine .a 3 ?_;obtain⟨b15,q16,h⟩:=ob h;refine .regM [(0,(AN p0)),(19,(AB (p0.size:Int))),(20,(AB x9)),(32,(AD b15))] [] ?_ ?_
   ·refine .a 3 ?_;rcases oi q16 with⟨c17,q16⟩|⟨c17,q16⟩
    ·refine .a 3 ?_;cases q16;refine .nilE ⟨rfl,rfl⟩ ?_ ?_
     ·exact⟨rfl,rfl,rfl,rfl,trivial⟩
     exact(.refl _)
    refine .a 3 ?_;cases q16;refine .nilE ⟨rfl,rfl⟩ ?_ ?_
    ·exact⟨rfl,rfl,rfl,rfl,trivial⟩
    exact(.refl _)
   rcases oi h with⟨c18,h⟩|⟨c18,h⟩
   ·refine .a 4 ?_;refine .nK [2] ?_;refine .rK [2] ?_;have hr:=Option.some.inj h;subst hr;exact⟨[(AD false)],⟨rfl,rfl,trivial⟩,rfl⟩
   refine .a 5 ?_;refine .nK [0,19,20] ?_;exact⟨kq11,Nat.lt_succ_self _,(AG (x9+(1:Int))),rfl,rfl,by rw[hrec10];exact h⟩
  refine .a 1 ?_;refine .eK [] ?_;exact⟨rfl,rfl,h⟩
 rintro _ _ ⟨rfl,rfl,h⟩;rw[PI.eq_1]at h;refine .a 3 ?_;refine .nK [2] ?_;refine .rK [2] ?_;have hr:=Option.some.inj h;subst hr;exact⟨[(AD true)],⟨rfl,rfl,trivial⟩,rfl⟩
def Ka (k:Nat) (p0:Ai) (p1:Int):Option (Bool×Ai):=
 Option.bind (α:=Bool) (if p0.f1<(p0.f0.size:Int)then if 0≤p0.f1∧p0.f1<(p0.f0.size:Int)then some (decide ((AF p0.f0 p0.f1)=p1))
 else none
 else some (false)) fun b3=>
 if b3=true then some (true,(Ai.mk p0.f0 (AG (p0.f1+(1:Int))) p0.f2))
 else some (false,p0)
theorem Bi {k:Nat} {p0:Ai} {p1:Int} {r:(Bool×Ai)} (h:Ka k p0 p1=some r) {q0:Nat} {T0:Aa}:Aq Tryz.prog 85 [(.ptr q0 0),(AK p1)] ((q0,(.mem (Cn p0)))::T0) (fun x H'=>x=(AD r.1)∧Bd ((q0,(.mem (Cn r.2)))::T0) H'):=by
 rw[Ka.eq_1]at h;refine Aq.intro (res:=[.tmp 4]) Tryz.func85 rfl rfl rfl (Nat.le_of_ble_eq_true rfl) ?_;refine .a 6 ?_;obtain⟨b3,q4,h⟩:=ob h;refine .regQM (by rfl) (by decide+kernel) [(0,(.ptr q0 0)),(27,(AD b3))] ?_ ?_
 ·refine .a 11 ?_;rcases oi q4 with⟨c5,q4⟩|⟨c5,q4⟩
  ·refine .a 8 ?_;obtain⟨g6,q4⟩:=AC q4;refine .a 4 ?_;cases q4;refine .nilE rfl ?_;exact⟨rfl,rfl,trivial⟩
  refine .a 12 ?_;cases q4;refine .nilE rfl ?_;exact⟨rfl,rfl,trivial⟩
 rcases oi h with⟨c7,h⟩|⟨c7,h⟩
 ·refine .a 10 ?_;refine .store 0 rfl rfl rfl rfl rfl rfl (.cast (.fldS (.fld0 .here)) rfl) rfl rfl Bb rfl ?_;refine .a 4 ?_;refine .nK [4] ?_;refine .rK [4] ?_;have hr:=Option.some.inj h;subst hr;exact⟨[(AD true)],⟨rfl,rfl,trivial⟩,rfl,(.cons 0 rfl (.refl _))⟩
 refine .a 5 ?_;refine .nK [4] ?_;refine .rK [4] ?_;have hr:=Option.some.inj h;subst hr;exact⟨[(AD false)],⟨rfl,rfl,trivial⟩,rfl,(.cons 0 rfl (.refl _))⟩
def JM (k:Nat) (b6:Bool):Option Int:=
 if b6=true then some ((2:Int))
 else some ((-1:Int))
def Hz (k:Nat) (p0:Int) (b4:Bool):Option Int:=
 if b4=true then some ((1:Int))
 else if p0=(2:Int)then JM k (decide (p0=(2:Int)))
 else JM k (decide (p0=(3:Int)))
def I9 (k:Nat) (p0:Int) (b2:Bool):Option Int:=
 if b2=true then some ((0:Int))
 else if p0=(4:Int)then Hz k p0 (decide (p0=(4:Int)))
 else if p0=(5:Int)then Hz k p0 (decide (p0=(5:Int)))
 else Hz k p0 (decide (p0=(6:Int)))
def U0 (k:Nat) (p0:Int):Option Int:=
 if p0=(0:Int)then I9 k p0 (decide (p0=(0:Int)))
 else I9 k p0 (decide (p0=(1:Int)))
theorem J5 {k:Nat} {p0:Int} {r:Int} (h:U0 k p0=some r):AY Tryz.prog 87 [(AB p0)] (AB r):=by
 rw[U0.eq_1]at h;refine AY.intro (res:=[.tmp 2]) Tryz.func87 rfl rfl rfl (Nat.le_of_ble_eq_true rfl) ?_;refine .a 10 ?_;refine .seq_mid (fun ρ H=>∃ (b2:Bool),ρ=[(3,(AB p0)),(4,(AD b2))]∧H=[]∧I9 k p0 b2=some r) ?_ ?_
 ·refine .a 5 ?_;rcases oi h with⟨c11,h⟩|⟨c11,h⟩
  ·refine .a 1 ?_;refine .sK [3,4] ?_;exact⟨decide (p0=(0:Int)),rfl,rfl,h⟩
  refine .a 4 ?_;refine .nK [3,4] ?_;exact⟨decide (p0=(1:Int)),rfl,rfl,h⟩
 rintro _ _ ⟨b2,rfl,rfl,h⟩;rw[I9.eq_1]at h;rcases oi h with⟨c3,h⟩|⟨c3,h⟩
 ·refine .a 4 ?_;refine .nK [2] ?_;refine .rK [2] ?_;cases h;exact⟨[(AB (0:Int))],⟨rfl,rfl,trivial⟩,rfl⟩
 refine .a 1 ?_;refine .seq_mid (fun ρ H=>∃ (b4:Bool),ρ=[(3,(AB p0)),(7,(AD b4))]∧H=[]∧Hz k p0 b4=some r) ?_ ?_
 ·refine .a 5 ?_;rcases oi h with⟨c9,h⟩|⟨c9,h⟩
  ·refine .a 1 ?_;refine .sK [3,7] ?_;exact⟨decide (p0=(4:Int)),rfl,rfl,h⟩
  refine .a 6 ?_;rcases oi h with⟨c10,h⟩|⟨c10,h⟩
  ·refine .a 1 ?_;refine .sK [3,7] ?_;exact⟨decide (p0=(5:Int)),rfl,rfl,h⟩
  refine .a 4 ?_;refine .nK [3,7] ?_;exact⟨decide (p0=(6:Int)),rfl,rfl,h⟩
 rintro _ _ ⟨b4,rfl,rfl,h⟩;rw[Hz.eq_1]at h;rcases oi h with⟨c5,h⟩|⟨c5,h⟩
 ·refine .a 4 ?_;refine .nK [2] ?_;refine .rK [2] ?_;cases h;exact⟨[(AB (1:Int))],⟨rfl,rfl,trivial⟩,rfl⟩
 refine .a 1 ?_;refine .seq_mid (fun ρ H=>∃ (b6:Bool),ρ=[(11,(AD b6))]∧H=[]∧JM k b6=some r) ?_ ?_
 ·refine .a 5 ?_;rcases oi h with⟨c8,h⟩|⟨c8,h⟩
  ·refine .a 1 ?_;refine .sK [11] ?_;exact⟨decide (p0=(2:Int)),rfl,rfl,h⟩
  refine .a 4 ?_;refine .nK [11] ?_;exact⟨decide (p0=(3:Int)),rfl,rfl,h⟩
 rintro _ _ ⟨b6,rfl,rfl,h⟩;rw[JM.eq_1]at h;rcases oi h with⟨c7,h⟩|⟨c7,h⟩
 ·refine .a 4 ?_;refine .nK [2] ?_;refine .rK [2] ?_;cases h;exact⟨[(AB (2:Int))],⟨rfl,rfl,trivial⟩,rfl⟩
 refine .a 5 ?_;refine .nK [2] ?_;refine .rK [2] ?_;cases h;exact⟨[(AB (-1:Int))],⟨rfl,rfl,trivial⟩,rfl⟩
def I5 (k:Nat) (p0:Int) (x9:(List AE)):Option (List AE):=
 if(x9++([(AE.mk p0 (Vector.replicate 4 (0:Int)))]:List AE)).length*40≤140737488355328 then some ((x9++([(AE.mk p0 (Vector.replicate 4 (0:Int)))]:List AE)))
 else none
def Dq (k:Nat) (p0:Int) (p1:(List (List AE))):Nat→(List AE)→Int→Option (List AE)
 | 0,_,_=>none
 | j+1,x14,x15=>
   if x15<(p1.length:Int)then if 0≤x15∧x15<(p1.length:Int)then if(x14++(AA p1 x15)).length*40≤140737488355328 then(Dq k p0 p1 j) (x14++(AA p1 x15)) (AG (x15+(1:Int)))
   else none
   else none
   else I5 k p0 x14
def R7 (k:Nat) (p0:Int) (p1:(List (List AE))):Option (List AE):=
 Option.bind (α:=Bool) ((U0 k p0).bind fun t5=>
 if t5≠(p1.length:Int)then some (true)
 else some (decide ((p1.length:Int)=(0:Int)))) fun b3=>
 if b3=true then some ([])
 else Dq k p0 p1 k ([]:List AE) (0:Int)
theorem Fw {k:Nat} {p0:Int} {p1:(List (List AE))} {r:(List AE)} (h:R7 k p0 p1=some r):AY Tryz.prog 86 [(AB p0),(.fz 1 (p1.map Fq))] (Fq r):=by
 rw[R7.eq_1]at h;refine AY.intro (res:=[.tmp 4]) Tryz.func86 rfl rfl rfl (Nat.le_of_ble_eq_true rfl) ?_;refine .a 6 ?_;obtain⟨b3,q4,h⟩:=ob h;refine .regM [(0,(AB p0)),(1,(.fz 1 (p1.map Fq))),(17,(AD b3))] [] ?_ ?_
 ·refine .a 1 ?_;obtain⟨t5,et5,q4⟩:=ob q4;refine .callS [(AB p0)] (AB t5) 9 rfl (by decide) Xn rfl rfl rfl ⟨rfl,rfl,trivial⟩ (J5 et5) ?_;refine .a 4 ?_;rcases oi q4 with⟨c6,q4⟩|⟨c6,q4⟩
  ·refine .a 4 ?_;cases q4;refine .nilE ⟨rfl,rfl⟩ ?_ ?_
   ·exact⟨rfl,rfl,rfl,trivial⟩
   exact(.refl _)
  refine .a 4 ?_;cases q4;refine .nilE ⟨rfl,rfl⟩ ?_ ?_
  ·exact⟨rfl,rfl,rfl,trivial⟩
  exact(.refl _)
 rcases oi h with⟨c7,h⟩|⟨c7,h⟩
 ·refine .a 4 ?_;refine .nK [4] ?_;refine .coeC 4 (y':=(Ba ([]:List AE))) rfl Hi.nil ?_;refine .rK [4] ?_;cases h;exact⟨[(Ba ([]:List AE))],⟨rfl,rfl,trivial⟩,rfl⟩
 refine .a 5 ?_;refine .nK [0,1,5] ?_;refine .seq_mid (fun ρ H=>∃ (n8:Nat) (x9:(List AE)),ρ=[(0,(AB p0)),(5,(.own n8 0 x9.length))]∧H=[(n8,(.mem (.ar 5 (x9.map AM))))]∧I5 k p0 x9=some r) ?_ ?_
 ·refine .a 7 ?_;refine .nilOwn 5 5 rfl fun n22=>?_;refine .wK [0,5,18,19,20] ?_;refine .loop (fun kq ρ H=>∃ (n13:Nat) (x14:(List AE)) (x15:Int),ρ=[(0,(AB p0)),(5,(.own n13 0 x14.length)),(18,(.fz 1 (p1.map Fq))),(19,(AB (p1.length:Int))),(20,(AB x15))]∧H=[(n13,(.mem (.ar 5 (x14.map AM))))]∧Dq k p0 p1 kq x14 x15=some r) k ⟨n22,([]:List AE),(0:Int),rfl,rfl,h⟩ ?_;rintro kq17 _ _ ⟨n13,x14,x15,rfl,rfl,h⟩
  cases kq17 with
  | zero=>rw[Dq.eq_1]at h;cases h
  | succ kq17=>
  rw[Dq.eq_2]at h;generalize hrec16:Dq k p0 p1 kq17=rec16 at h;refine .a 5 ?_;rcases oi h with⟨c18,h⟩|⟨c18,h⟩
  ·refine .a 6 ?_;obtain⟨g19,h⟩:=AC h;refine .a 7 ?_;obtain⟨g21,h⟩:=AC h;refine .appendL (l:=x14) (m:=(AA p1 x15)) 0 26 rfl (by decide) rfl rfl rfl rfl rfl CS.fz Tryz.underlying75 Tryz.underlying75 BS Gp A8 rfl g21 (by decide) fun n20=>?_;refine .a 5 ?_;refine .nK [0,5,18,19,20] ?_;exact⟨kq17,Nat.lt_succ_self _,n20,(x14++(AA p1 x15)),(AG (x15+(1:Int))),rfl,rfl,by rw[hrec16];exact h⟩
  refine .a 1 ?_;refine .eK [0,5] ?_;exact⟨n13,x14,rfl,rfl,h⟩
 rintro _ _ ⟨n8,x9,rfl,rfl,h⟩;rw[I5.eq_1]at h;refine .a 4 ?_;refine .c (x:=(Ha p0 ((Vector.replicate 4 (0:Int)).toList.map Ab))) (.build (qs:=[(0,(AB p0))]) rfl ⟨rfl,rfl,rfl,trivial⟩ Tryz.underlying122 rfl A8 A7 (.cons rfl rfl rfl rfl (.cast (.fld0 .here) rfl) .nil) rfl) ?_;refine .lit (Z:=(Ha (0:Int) ((Vector.replicate 4 (0:Int)).toList.map Ab))) (xs:=(([(AE.mk p0 (Vector.replicate 4 (0:Int)))]:List AE).map AM)) (qs:=[(0,(AM (AE.mk p0 (Vector.replicate 4 (0:Int)))))]) rfl 31 rfl (by decide) rfl ⟨rfl,rfl,rfl,trivial⟩ Tryz.underlying75 BS A8 A7 rfl (by decide) (An (z:=5) [(AM (AE.mk p0 (Vector.replicate 4 (0:Int))))] rfl ⟨⟨rfl,rfl⟩,trivial⟩) rfl fun n10=>?_;obtain⟨g12,h⟩:=AC h;refine .appendL (l:=x9) (m:=([(AE.mk p0 (Vector.replicate 4 (0:Int)))]:List AE)) 1 32 rfl (by decide) rfl rfl rfl rfl rfl (CS.ownL (f:=AM) (l:=([(AE.mk p0 (Vector.replicate 4 (0:Int)))]:List AE)) 0 rfl) Tryz.underlying75 Tryz.underlying75 BS Gp A8 rfl g12 (by decide) fun n11=>?_;refine .a 1 ?_;refine .nS [4] [1] ?_;refine .freezeS 0 [(4,(Ba (x9++([(AE.mk p0 (Vector.replicate 4 (0:Int)))]:List AE))))] rfl ⟨Aj rfl,trivial⟩ ?_;refine .rK [4] ?_;cases h;exact⟨[(Ba (x9++([(AE.mk p0 (Vector.replicate 4 (0:Int)))]:List AE)))],⟨rfl,rfl,trivial⟩,rfl⟩
def Ls (k:Nat):Option Bool:=
 some (false)
def Cu (k:Nat) (p0:Ai) (p1:ByteArray):Nat→Int→Option Bool
 | 0,_=>none
 | j+1,x4=>
   if x4<(p1.size:Int)then if 0≤p0.f1∧p0.f1<(p0.f0.size:Int)then if 0≤x4∧x4<(p1.size:Int)then if(AF p0.f0 p0.f1)=(AF p1 x4)then some (true)
   else(Cu k p0 p1 j) (AG (x4+(1:Int)))
   else none
   else none
   else Ls k
def Mt (k:Nat) (p0:Ai) (p1:ByteArray):Option Bool:=
 if(p0.f0.size:Int)≤p0.f1 then some (true)
 else Cu k p0 p1 k (0:Int)
theorem Ev {k:Nat} {p0:Ai} {p1:ByteArray} {r:Bool} (h:Mt k p0 p1=some r) {q0:Nat} {T0:Aa}:Aq Tryz.prog 113 [(.ptr q0 0),(AN p1)] ((q0,(.mem (Cn p0)))::T0) (fun x H'=>x=AD r∧Bd ((q0,(.mem (Cn p0)))::T0) H'):=by
 rw[Mt.eq_1]at h;refine Aq.intro (res:=[.tmp 4]) Tryz.func113 rfl rfl rfl (Nat.le_of_ble_eq_true rfl) ?_;refine .a 6 ?_;refine .regQ (by rfl) (by decide+kernel) ?_;refine .a 11 ?_;rcases oi h with⟨c3,h⟩|⟨c3,h⟩
 ·refine .a 4 ?_;refine .nK [4] ?_;refine .rK [4] ?_;have hr:=Option.some.inj h;subst hr;exact⟨[(AD true)],⟨rfl,rfl,trivial⟩,rfl,(.cons 0 rfl (.refl _))⟩
 refine .a 1 ?_;refine .sK [0,1] ?_;refine .seq_mid (fun ρ H=>ρ=[]∧H=((q0,(.mem (Cn p0)))::T0)∧Ls k=some r) ?_ ?_
 ·refine .a 7 ?_;refine .wK [0,1,17,18] ?_;refine .loop (fun kq ρ H=>∃ (x4:Int),ρ=[(0,(.ptr q0 0)),(1,(AN p1)),(17,(AB (p1.size:Int))),(18,(AB x4))]∧H=((q0,(.mem (Cn p0)))::T0)∧Cu k p0 p1 kq x4=some r) k ⟨(0:Int),rfl,rfl,h⟩ ?_;rintro kq6 _ _ ⟨x4,rfl,rfl,h⟩
  cases kq6 with
  | zero=>rw[Cu.eq_1]at h;cases h
  | succ kq6=>
  rw[Cu.eq_2]at h;generalize hrec5:Cu k p0 p1 kq6=rec5 at h;refine .a 5 ?_;rcases oi h with⟨c7,h⟩|⟨c7,h⟩
  ·refine .a 10 ?_;refine .regQ (by rfl) (by decide+kernel) ?_;refine .a 8 ?_;obtain⟨g8,h⟩:=AC h;refine .a 3 ?_;obtain⟨g9,h⟩:=AC h;refine .a 3 ?_;rcases oi h with⟨c10,h⟩|⟨c10,h⟩
   ·refine .a 4 ?_;refine .nK [4] ?_;refine .rK [4] ?_;have hr:=Option.some.inj h;subst hr;exact⟨[(AD true)],⟨rfl,rfl,trivial⟩,rfl,(.cons 0 rfl (.refl _))⟩
   refine .a 5 ?_;refine .nK [0,1,17,18] ?_;exact⟨kq6,Nat.lt_succ_self _,(AG (x4+(1:Int))),rfl,rfl,by rw[hrec5];exact h⟩
  refine .a 1 ?_;refine .eK [] ?_;exact⟨rfl,rfl,h⟩
 rintro _ _ ⟨rfl,rfl,h⟩;rw[Ls.eq_1]at h;refine .a 3 ?_;refine .nK [4] ?_;refine .rK [4] ?_;have hr:=Option.some.inj h;subst hr;exact⟨[(AD false)],⟨rfl,rfl,trivial⟩,rfl,(.cons 0 rfl (.refl _))⟩
def Rj (k:Nat):Option (Vector Int 4):=
 some ((BP (BP (BP (BP (Vector.replicate 4 (0:Int)) (0:Int) (18446744073709551615:Int)) (1:Int) (18446744073709551615:Int)) (2:Int) (18446744073709551615:Int)) (3:Int) (18446744073709551615:Int)))
theorem LM {k:Nat} {r:(Vector Int 4)} (h:Rj k=some r):AY Tryz.prog 125 [] (C7 r):=by
 rw[Rj.eq_1]at h;refine AY.intro (res:=[.cell 0 120]) Tryz.func125 rfl rfl rfl (Nat.le_of_ble_eq_true rfl) ?_;refine .sr ?_;refine .alloc rfl 0 rfl (by decide) rfl B8 Bj fun n1=>?_;refine .a 3 ?_;refine .c (x:=.ar 1 ((BP (BP (BP (BP (Vector.replicate 4 (0:Int)) (0:Int) (18446744073709551615:Int)) (1:Int) (18446744073709551615:Int)) (2:Int) (18446744073709551615:Int)) (3:Int) (18446744073709551615:Int)).toList.map Ab)) (.buildAr (qs:=[(0,(Ab (18446744073709551615:Int))),(1,(Ab (18446744073709551615:Int))),(2,(Ab (18446744073709551615:Int))),(3,(Ab (18446744073709551615:Int)))]) rfl ⟨rfl,rfl,rfl,rfl,rfl,rfl,rfl,rfl,rfl,rfl,rfl,rfl,trivial⟩ Tryz.underlying120 BX B8 Bj (.cons rfl rfl rfl rfl (.cast (.vidx (0:Int) (18446744073709551615:Int) (by decide) (by decide) .here) rfl) (.cons rfl rfl rfl rfl (.cast (.vidx (1:Int) (18446744073709551615:Int) (by decide) (by decide) .here) rfl) (.cons rfl rfl rfl rfl (.cast (.vidx (2:Int) (18446744073709551615:Int) (by decide) (by decide) .here) rfl) (.cons rfl rfl rfl rfl (.cast (.vidx (3:Int) (18446744073709551615:Int) (by decide) (by decide) .here) rfl) .nil)))) rfl) ?_;refine .store 0 rfl rfl rfl rfl rfl rfl (.cast .here rfl) rfl (by simp[AV.size]) (by rw[Br];simp[AV.size]) rfl ?_;refine .nK [0] ?_;refine .rK [0] ?_;cases h
 exact⟨[(.ar 1 ((BP (BP (BP (BP (Vector.replicate 4 (0:Int)) (0:Int) (18446744073709551615:Int)) (1:Int) (18446744073709551615:Int)) (2:Int) (18446744073709551615:Int)) (3:Int) (18446744073709551615:Int)).toList.map Ab))],⟨⟨_,0,rfl,rfl,HL,(by rw[Br];simp[AV.size])⟩,trivial⟩,rfl⟩
def Mm (k:Nat) (p0:Int):Option Int:=
 Option.bind (α:=Bool) (if(48:Int)≤p0 then some (decide (p0≤(57:Int)))
 else some (false)) fun b2=>
 if b2=true then some ((AG (w8 (p0 - (48:Int)))))
 else Option.bind (α:=Bool) (if(97:Int)≤p0 then some (decide (p0≤(102:Int)))
 else some (false)) fun b6=>
 if b6=true then some ((AG ((AG (w8 (p0 - (97:Int))))+(10:Int))))
 else some ((-1:Int))
theorem GT {k:Nat} {p0:Int} {r:Int} (h:Mm k p0=some r):AY Tryz.prog 139 [(AK p0)] (AB r):=by
 rw[Mm.eq_1]at h;refine AY.intro (res:=[.tmp 2]) Tryz.func139 rfl rfl rfl (Nat.le_of_ble_eq_true rfl) ?_;refine .a 7 ?_;obtain⟨b2,q3,h⟩:=ob h;refine .regM [(0,(AK p0)),(3,(AD b2))] [] ?_ ?_
 ·refine .a 3 ?_;rcases oi q3 with⟨c4,q3⟩|⟨c4,q3⟩
  ·refine .a 4 ?_;cases q3;refine .nilE ⟨rfl,rfl⟩ ?_ ?_
   ·exact⟨rfl,rfl,trivial⟩
   exact(.refl _)
  refine .a 4 ?_;cases q3;refine .nilE ⟨rfl,rfl⟩ ?_ ?_
  ·exact⟨rfl,rfl,trivial⟩
  exact(.refl _)
 rcases oi h with⟨c5,h⟩|⟨c5,h⟩
 ·refine .a 7 ?_;refine .nK [2] ?_;refine .rK [2] ?_;cases h;exact⟨[(AB (AG (w8 (p0 - (48:Int)))))],⟨rfl,rfl,trivial⟩,rfl⟩
 refine .a 2 ?_;obtain⟨b6,q7,h⟩:=ob h;refine .regM [(0,(AK p0)),(13,(AD b6))] [] ?_ ?_
 ·refine .a 3 ?_;rcases oi q7 with⟨c8,q7⟩|⟨c8,q7⟩
  ·refine .a 4 ?_;cases q7;refine .nilE ⟨rfl,rfl⟩ ?_ ?_
   ·exact⟨rfl,rfl,trivial⟩
   exact(.refl _)
  refine .a 4 ?_;cases q7;refine .nilE ⟨rfl,rfl⟩ ?_ ?_
  ·exact⟨rfl,rfl,trivial⟩
  exact(.refl _)
 rcases oi h with⟨c9,h⟩|⟨c9,h⟩
 ·refine .a 8 ?_;refine .nK [2] ?_;refine .rK [2] ?_;cases h;exact⟨[(AB (AG ((AG (w8 (p0 - (97:Int))))+(10:Int))))],⟨rfl,rfl,trivial⟩,rfl⟩
 refine .a 5 ?_;refine .nK [2] ?_;refine .rK [2] ?_;cases h;exact⟨[(AB (-1:Int))],⟨rfl,rfl,trivial⟩,rfl⟩
def Ct (k:Nat) (p0:ByteArray):Option (Int×Int×Bool):=
 Option.bind (α:=Bool) (if(48:Int)≤(AF p0 (1:Int))then if(AF p0 (1:Int))≤(57:Int)then some (true)
 else if(97:Int)≤(AF p0 (1:Int))then if(AF p0 (1:Int))≤(122:Int)then some (true)
 else if(65:Int)≤(AF p0 (1:Int))then if(AF p0 (1:Int))≤(90:Int)then some (true)
 else if(AF p0 (1:Int))<(32:Int)then some (true)
 else some (decide ((126:Int)<(AF p0 (1:Int))))
 else if(AF p0 (1:Int))<(32:Int)then some (true)
 else some (decide ((126:Int)<(AF p0 (1:Int))))
 else if(65:Int)≤(AF p0 (1:Int))then if(AF p0 (1:Int))≤(90:Int)then some (true)
 else if(AF p0 (1:Int))<(32:Int)then some (true)
 else some (decide ((126:Int)<(AF p0 (1:Int))))
 else if(AF p0 (1:Int))<(32:Int)then some (true)
 else some (decide ((126:Int)<(AF p0 (1:Int))))
 else if(97:Int)≤(AF p0 (1:Int))then if(AF p0 (1:Int))≤(122:Int)then some (true)
 else if(65:Int)≤(AF p0 (1:Int))then if(AF p0 (1:Int))≤(90:Int)then some (true)
 else if(AF p0 (1:Int))<(32:Int)then some (true)
 else some (decide ((126:Int)<(AF p0 (1:Int))))
 else if(AF p0 (1:Int))<(32:Int)then some (true)
 else some (decide ((126:Int)<(AF p0 (1:Int))))
 else if(65:Int)≤(AF p0 (1:Int))then if(AF p0 (1:Int))≤(90:Int)then some (true)
 else if(AF p0 (1:Int))<(32:Int)then some (true)
 else some (decide ((126:Int)<(AF p0 (1:Int))))
 else if(AF p0 (1:Int))<(32:Int)then some (true)
 else some (decide ((126:Int)<(AF p0 (1:Int))))) fun b8=>
 if b8=true then some ((0:Int),(0:Int),false)
 else some ((AF p0 (1:Int)),(2:Int),true)
def HX (k:Nat):Option (Int×Int×Bool):=
 some ((0:Int),(0:Int),false)
def Ge (k:Nat) (p0:ByteArray):Option (Int×Int×Bool):=
 Option.bind (α:=Bool) (if(4:Int)≤(p0.size:Int)then if 0≤(2:Int)∧(2:Int)<(p0.size:Int)then(Mm k (AF p0 (2:Int))).bind fun t37=>
 if(0:Int)≤t37 then if 0≤(3:Int)∧(3:Int)<(p0.size:Int)then(Mm k (AF p0 (3:Int))).bind fun t40=>
 some (decide ((0:Int)≤t40))
 else none
 else some (false)
 else none
 else some (false)) fun b33=>
 if b33=true then if 0≤(2:Int)∧(2:Int)<(p0.size:Int)then(Mm k (AF p0 (2:Int))).bind fun t43=>
 if 0≤(3:Int)∧(3:Int)<(p0.size:Int)then(Mm k (AF p0 (3:Int))).bind fun t45=>
 some ((w8 (bits .or .i64 (IntKind.i64.wrap (t43*2 ^ (min (4:Int).toNat IntKind.i64.bits))) t45)),(4:Int),true)
 else none
 else none
 else HX k
def Mr (k:Nat):Option (Int×Int×Bool):=
 some ((13:Int),(2:Int),true)
def MD (k:Nat):Option (Int×Int×Bool):=
 some ((9:Int),(2:Int),true)
def MA (k:Nat):Option (Int×Int×Bool):=
 some ((10:Int),(2:Int),true)
def OQ (k:Nat) (p0:ByteArray):Option (Int×Int×Bool):=
 if p0=(ByteArray.mk #[])then some ((0:Int),(0:Int),false)
 else if 0≤(0:Int)∧(0:Int)<(p0.size:Int)then if(AF p0 (0:Int))≠(92:Int)then if 0≤(0:Int)∧(0:Int)<(p0.size:Int)then some ((AF p0 (0:Int)),(1:Int),true)
 else none
 else if(p0.size:Int)<(2:Int)then some ((0:Int),(0:Int),false)
 else if 0≤(1:Int)∧(1:Int)<(p0.size:Int)then if(AF p0 (1:Int))=(110:Int)then MA k
 else if(AF p0 (1:Int))=(116:Int)then MD k
 else if(AF p0 (1:Int))=(114:Int)then Mr k
 else if(AF p0 (1:Int))=(120:Int)then Ge k p0
 else if(AF p0 (1:Int))=(0:Int)then HX k
 else Ct k p0
 else none
 else none
theorem R5 {k:Nat} {p0:ByteArray} {r:(Int×Int×Bool)} (h:OQ k p0=some r):AY Tryz.prog 136 [(AN p0)] (.tup [(AK r.1),(AB r.2.1),(AD r.2.2)]):=by
 rw[OQ.eq_1]at h;refine AY.intro (res:=[.tmp 2,.tmp 3,.tmp 4]) Tryz.func136 rfl rfl rfl (Nat.le_of_ble_eq_true rfl) ?_;refine .a 14 ?_;rcases oi h with⟨c2,h⟩|⟨c2,h⟩
 ·refine .a 6 ?_;refine .nK [2,3,4] ?_;refine .rK [2,3,4] ?_;have hr:=Option.some.inj h;subst hr;exact⟨[(AK (0:Int)),(AB (0:Int)),(AD false)],⟨rfl,rfl,rfl,rfl,rfl,rfl,trivial⟩,rfl⟩
 refine .a 4 ?_;obtain⟨g3,h⟩:=AC h;refine .a 4 ?_;rcases oi h with⟨c4,h⟩|⟨c4,h⟩
 ·refine .a 4 ?_;obtain⟨g5,h⟩:=AC h;refine .a 4 ?_;refine .nK [2,3,4] ?_;refine .rK [2,3,4] ?_;have hr:=Option.some.inj h;subst hr;exact⟨[(AK (AF p0 (0:Int))),(AB (1:Int)),(AD true)],⟨rfl,rfl,rfl,rfl,rfl,rfl,trivial⟩,rfl⟩
 refine .a 8 ?_;rcases oi h with⟨c6,h⟩|⟨c6,h⟩
 ·refine .a 6 ?_;refine .nK [2,3,4] ?_;refine .rK [2,3,4] ?_;have hr:=Option.some.inj h;subst hr;exact⟨[(AK (0:Int)),(AB (0:Int)),(AD false)],⟨rfl,rfl,rfl,rfl,rfl,rfl,trivial⟩,rfl⟩
 refine .a 5 ?_;obtain⟨g7,h⟩:=AC h;refine .a 2 ?_;refine .nK [0,5] ?_;refine .seq_mid (fun ρ H=>ρ=[(5,(AK (AF p0 (1:Int))))]∧H=[]∧Ct k p0=some r) ?_ ?_
 ·refine .a 5 ?_;refine .seq_mid (fun ρ H=>ρ=[]∧H=[]∧HX k=some r) ?_ ?_
  ·refine .a 1 ?_;refine .seq_mid (fun ρ H=>ρ=[(0,(AN p0))]∧H=[]∧Ge k p0=some r) ?_ ?_
   ·refine .a 1 ?_;refine .seq_mid (fun ρ H=>ρ=[]∧H=[]∧Mr k=some r) ?_ ?_
    ·refine .a 1 ?_;refine .seq_mid (fun ρ H=>ρ=[]∧H=[]∧MD k=some r) ?_ ?_
     ·refine .a 1 ?_;refine .seq_mid (fun ρ H=>ρ=[]∧H=[]∧MA k=some r) ?_ ?_
      ·refine .a 8 ?_;rcases oi h with⟨c46,h⟩|⟨c46,h⟩
       ·refine .a 1 ?_;refine .eK [] ?_;exact⟨rfl,rfl,h⟩
       refine .a 8 ?_;rcases oi h with⟨c47,h⟩|⟨c47,h⟩
       ·refine .a 1 ?_;refine .eK [] ?_;exact⟨rfl,rfl,h⟩
       refine .a 8 ?_;rcases oi h with⟨c48,h⟩|⟨c48,h⟩
       ·refine .a 1 ?_;refine .eK [] ?_;exact⟨rfl,rfl,h⟩
       refine .a 8 ?_;rcases oi h with⟨c49,h⟩|⟨c49,h⟩
       ·refine .a 1 ?_;refine .eK [0] ?_;exact⟨rfl,rfl,h⟩
       refine .a 7 ?_;rcases oi h with⟨c50,h⟩|⟨c50,h⟩
       ·refine .a 1 ?_;refine .eK [] ?_;exact⟨rfl,rfl,h⟩
       refine .a 1 ?_;refine .sK [5] ?_;refine .eK [5] ?_;exact⟨rfl,rfl,h⟩
      rintro _ _ ⟨rfl,rfl,h⟩;rw[MA.eq_1]at h;refine .a 6 ?_;refine .nK [2,3,4] ?_;refine .rK [2,3,4] ?_;have hr:=Option.some.inj h;subst hr;exact⟨[(AK (10:Int)),(AB (2:Int)),(AD true)],⟨rfl,rfl,rfl,rfl,rfl,rfl,trivial⟩,rfl⟩
     rintro _ _ ⟨rfl,rfl,h⟩;rw[MD.eq_1]at h;refine .a 6 ?_;refine .nK [2,3,4] ?_;refine .rK [2,3,4] ?_;have hr:=Option.some.inj h;subst hr;exact⟨[(AK (9:Int)),(AB (2:Int)),(AD true)],⟨rfl,rfl,rfl,rfl,rfl,rfl,trivial⟩,rfl⟩
    rintro _ _ ⟨rfl,rfl,h⟩;rw[Mr.eq_1]at h;refine .a 6 ?_;refine .nK [2,3,4] ?_;refine .rK [2,3,4] ?_;have hr:=Option.some.inj h;subst hr;exact⟨[(AK (13:Int)),(AB (2:Int)),(AD true)],⟨rfl,rfl,rfl,rfl,rfl,rfl,trivial⟩,rfl⟩
   rintro _ _ ⟨rfl,rfl,h⟩;rw[Ge.eq_1]at h;refine .seq ?_;obtain⟨b33,q34,h⟩:=ob h;refine .regM [(0,(AN p0)),(46,(AD b33))] [] ?_ ?_
   ·refine .a 4 ?_;rcases oi q34 with⟨c35,q34⟩|⟨c35,q34⟩
    ·refine .a 1 ?_;obtain⟨g36,q34⟩:=AC q34;refine .a 1 ?_;obtain⟨t37,et37,q34⟩:=ob q34;refine .callG 3 true 35 [(AK (AF p0 (2:Int)))] (AB t37) 38 rfl (by decide) Qz rfl rfl (bD (decide_eq_true c35)) rfl rfl ⟨rfl,rfl,trivial⟩ (GT et37) ?_;refine .a 3 ?_;rcases oi q34 with⟨c38,q34⟩|⟨c38,q34⟩
     ·refine .a 1 ?_;obtain⟨g39,q34⟩:=AC q34;refine .a 1 ?_;obtain⟨t40,et40,q34⟩:=ob q34;refine .callG 9 true 41 [(AK (AF p0 (3:Int)))] (AB t40) 44 rfl (by decide) Qz rfl rfl (bD (decide_eq_true c38)) rfl rfl ⟨rfl,rfl,trivial⟩ (GT et40) ?_;refine .a 2 ?_;cases q34;refine .nilE ⟨rfl,rfl⟩ ?_ ?_
      ·exact⟨rfl,rfl,trivial⟩
      exact(.refl _)
     refine .a 5 ?_;cases q34;refine .nilE ⟨rfl,rfl⟩ ?_ ?_
     ·exact⟨rfl,rfl,trivial⟩
     exact(.refl _)
    refine .a 11 ?_;cases q34;refine .nilE ⟨rfl,rfl⟩ ?_ ?_
    ·exact⟨rfl,rfl,trivial⟩
    exact(.refl _)
   rcases oi h with⟨c41,h⟩|⟨c41,h⟩
   ·refine .a 2 ?_;refine .regQ (by rfl) (by decide+kernel) ?_;refine .a 1 ?_;obtain⟨g42,h⟩:=AC h;refine .a 1 ?_;obtain⟨t43,et43,h⟩:=ob h;refine .c (.call (args:=[(AK (AF p0 (2:Int)))]) rfl rfl Qz ⟨rfl,rfl,trivial⟩ rfl (GT et43)) ?_;refine .c (x:=AB (IntKind.i64.wrap (t43*2 ^ (min (4:Int).toNat IntKind.i64.bits)))) (.shl rfl rfl rfl (by decide)) ?_;refine .a 1 ?_;obtain⟨g44,h⟩:=AC h;refine .a 1 ?_;obtain⟨t45,et45,h⟩:=ob h;refine .c (.call (args:=[(AK (AF p0 (3:Int)))]) rfl rfl Qz ⟨rfl,rfl,trivial⟩ rfl (GT et45)) ?_;refine .a 5 ?_;refine .nK [2,3,4] ?_;refine .rK [2,3,4] ?_;have hr:=Option.some.inj h;subst hr;exact⟨[(AK (w8 (bits .or .i64 (IntKind.i64.wrap (t43*2 ^ (min (4:Int).toNat IntKind.i64.bits))) t45))),(AB (4:Int)),(AD true)],⟨rfl,rfl,rfl,rfl,rfl,rfl,trivial⟩,rfl⟩
   refine .a 1 ?_;refine .sK [] ?_;exact⟨rfl,rfl,h⟩
  rintro _ _ ⟨rfl,rfl,h⟩;rw[HX.eq_1]at h;refine .a 6 ?_;refine .nK [2,3,4] ?_;refine .rK [2,3,4] ?_;have hr:=Option.some.inj h;subst hr;exact⟨[(AK (0:Int)),(AB (0:Int)),(AD false)],⟨rfl,rfl,rfl,rfl,rfl,rfl,trivial⟩,rfl⟩
 rintro _ _ ⟨rfl,rfl,h⟩;rw[Ct.eq_1]at h;refine .a 2 ?_;obtain⟨b8,q9,h⟩:=ob h;refine .regM [(5,(AK (AF p0 (1:Int)))),(85,(AD b8))] [] ?_ ?_
 ·refine .a 3 ?_;rcases oi q9 with⟨c10,q9⟩|⟨c10,q9⟩
  ·refine .a 4 ?_;rcases oi q9 with⟨c11,q9⟩|⟨c11,q9⟩
   ·refine .a 23 ?_;cases q9;refine .nilE ⟨rfl,rfl⟩ ?_ ?_
    ·exact⟨rfl,rfl,trivial⟩
    exact(.refl _)
   refine .a 3 ?_;rcases oi q9 with⟨c12,q9⟩|⟨c12,q9⟩
   ·refine .a 5 ?_;rcases oi q9 with⟨c13,q9⟩|⟨c13,q9⟩
    ·refine .a 15 ?_;cases q9;refine .nilE ⟨rfl,rfl⟩ ?_ ?_
     ·exact⟨rfl,rfl,trivial⟩
     exact(.refl _)
    refine .a 3 ?_;rcases oi q9 with⟨c14,q9⟩|⟨c14,q9⟩
    ·refine .a 5 ?_;rcases oi q9 with⟨c15,q9⟩|⟨c15,q9⟩
     ·refine .a 7 ?_;cases q9;refine .nilE ⟨rfl,rfl⟩ ?_ ?_
      ·exact⟨rfl,rfl,trivial⟩
      exact(.refl _)
     refine .a 4 ?_;rcases oi q9 with⟨c16,q9⟩|⟨c16,q9⟩
     ·refine .a 3 ?_;cases q9;refine .nilE ⟨rfl,rfl⟩ ?_ ?_
      ·exact⟨rfl,rfl,trivial⟩
      exact(.refl _)
     refine .a 3 ?_;cases q9;refine .nilE ⟨rfl,rfl⟩ ?_ ?_
     ·exact⟨rfl,rfl,trivial⟩
     exact(.refl _)
    refine .a 9 ?_;rcases oi q9 with⟨c17,q9⟩|⟨c17,q9⟩
    ·refine .a 3 ?_;cases q9;refine .nilE ⟨rfl,rfl⟩ ?_ ?_
     ·exact⟨rfl,rfl,trivial⟩
     exact(.refl _)
    refine .a 3 ?_;cases q9;refine .nilE ⟨rfl,rfl⟩ ?_ ?_
    ·exact⟨rfl,rfl,trivial⟩
    exact(.refl _)
   refine .a 8 ?_;rcases oi q9 with⟨c18,q9⟩|⟨c18,q9⟩
   ·refine .a 5 ?_;rcases oi q9 with⟨c19,q9⟩|⟨c19,q9⟩
    ·refine .a 7 ?_;cases q9;refine .nilE ⟨rfl,rfl⟩ ?_ ?_
     ·exact⟨rfl,rfl,trivial⟩
     exact(.refl _)
    refine .a 4 ?_;rcases oi q9 with⟨c20,q9⟩|⟨c20,q9⟩
    ·refine .a 3 ?_;cases q9;refine .nilE ⟨rfl,rfl⟩ ?_ ?_
     ·exact⟨rfl,rfl,trivial⟩
     exact(.refl _)
    refine .a 3 ?_;cases q9;refine .nilE ⟨rfl,rfl⟩ ?_ ?_
    ·exact⟨rfl,rfl,trivial⟩
    exact(.refl _)
   refine .a 9 ?_;rcases oi q9 with⟨c21,q9⟩|⟨c21,q9⟩
   ·refine .a 3 ?_;cases q9;refine .nilE ⟨rfl,rfl⟩ ?_ ?_
    ·exact⟨rfl,rfl,trivial⟩
    exact(.refl _)
   refine .a 3 ?_;cases q9;refine .nilE ⟨rfl,rfl⟩ ?_ ?_
   ·exact⟨rfl,rfl,trivial⟩
   exact(.refl _)
  refine .a 7 ?_;rcases oi q9 with⟨c22,q9⟩|⟨c22,q9⟩
  ·refine .a 5 ?_;rcases oi q9 with⟨c23,q9⟩|⟨c23,q9⟩
   ·refine .a 15 ?_;cases q9;refine .nilE ⟨rfl,rfl⟩ ?_ ?_
    ·exact⟨rfl,rfl,trivial⟩
    exact(.refl _)
   refine .a 3 ?_;rcases oi q9 with⟨c24,q9⟩|⟨c24,q9⟩
   ·refine .a 5 ?_;rcases oi q9 with⟨c25,q9⟩|⟨c25,q9⟩
    ·refine .a 7 ?_;cases q9;refine .nilE ⟨rfl,rfl⟩ ?_ ?_
     ·exact⟨rfl,rfl,trivial⟩
     exact(.refl _)
    refine .a 4 ?_;rcases oi q9 with⟨c26,q9⟩|⟨c26,q9⟩
    ·refine .a 3 ?_;cases q9;refine .nilE ⟨rfl,rfl⟩ ?_ ?_
     ·exact⟨rfl,rfl,trivial⟩
     exact(.refl _)
    refine .a 3 ?_;cases q9;refine .nilE ⟨rfl,rfl⟩ ?_ ?_
    ·exact⟨rfl,rfl,trivial⟩
    exact(.refl _)
   refine .a 9 ?_;rcases oi q9 with⟨c27,q9⟩|⟨c27,q9⟩
   ·refine .a 3 ?_;cases q9;refine .nilE ⟨rfl,rfl⟩ ?_ ?_
    ·exact⟨rfl,rfl,trivial⟩
    exact(.refl _)
   refine .a 3 ?_;cases q9;refine .nilE ⟨rfl,rfl⟩ ?_ ?_
   ·exact⟨rfl,rfl,trivial⟩
   exact(.refl _)
  refine .a 8 ?_;rcases oi q9 with⟨c28,q9⟩|⟨c28,q9⟩
  ·refine .a 5 ?_;rcases oi q9 with⟨c29,q9⟩|⟨c29,q9⟩
   ·refine .a 7 ?_;cases q9;refine .nilE ⟨rfl,rfl⟩ ?_ ?_
    ·exact⟨rfl,rfl,trivial⟩
    exact(.refl _)
   refine .a 4 ?_;rcases oi q9 with⟨c30,q9⟩|⟨c30,q9⟩
   ·refine .a 3 ?_;cases q9;refine .nilE ⟨rfl,rfl⟩ ?_ ?_
    ·exact⟨rfl,rfl,trivial⟩
    exact(.refl _)
   refine .a 3 ?_;cases q9;refine .nilE ⟨rfl,rfl⟩ ?_ ?_
   ·exact⟨rfl,rfl,trivial⟩
   exact(.refl _)
  refine .a 9 ?_;rcases oi q9 with⟨c31,q9⟩|⟨c31,q9⟩
  ·refine .a 3 ?_;cases q9;refine .nilE ⟨rfl,rfl⟩ ?_ ?_
   ·exact⟨rfl,rfl,trivial⟩
   exact(.refl _)
  refine .a 3 ?_;cases q9;refine .nilE ⟨rfl,rfl⟩ ?_ ?_
  ·exact⟨rfl,rfl,trivial⟩
  exact(.refl _)
 rcases oi h with⟨c32,h⟩|⟨c32,h⟩
 ·refine .a 6 ?_;refine .nK [2,3,4] ?_;refine .rK [2,3,4] ?_;have hr:=Option.some.inj h;subst hr;exact⟨[(AK (0:Int)),(AB (0:Int)),(AD false)],⟨rfl,rfl,rfl,rfl,rfl,rfl,trivial⟩,rfl⟩
 refine .a 8 ?_;refine .nK [2,3,4] ?_;refine .rK [2,3,4] ?_;have hr:=Option.some.inj h;subst hr;exact⟨[(AK (AF p0 (1:Int))),(AB (2:Int)),(AD true)],⟨rfl,rfl,rfl,rfl,rfl,rfl,trivial⟩,rfl⟩
def Mx (k:Nat) (p0:Ai):Option (Int×Bool×Ai):=
 if 0≤p0.f1∧p0.f1≤(p0.f0.size:Int)∧(p0.f0.size:Int)≤(p0.f0.size:Int)then(OQ k (p0.f0.extract p0.f1.toNat (p0.f0.size:Int).toNat)).bind fun t3=>
 some (t3.1,t3.2.2,(Ai.mk p0.f0 (AG (p0.f1+t3.2.1)) p0.f2))
 else none
theorem H9 {k:Nat} {p0:Ai} {r:(Int×Bool×Ai)} (h:Mx k p0=some r) {q0:Nat} {T0:Aa}:Aq Tryz.prog 127 [(.ptr q0 0)] ((q0,(.mem (Cn p0)))::T0) (fun x H'=>x=.tup [(AK r.1),(AD r.2.1)]∧Bd ((q0,(.mem (Cn r.2.2)))::T0) H'):=by
 rw[Mx.eq_1]at h;refine Aq.intro (res:=[.tmp 2,.tmp 3]) Tryz.func127 rfl rfl rfl (Nat.le_of_ble_eq_true rfl) ?_;refine .a 6 ?_;refine .regQ (by rfl) (by decide+kernel) ?_;refine .a 8 ?_;obtain⟨g2,h⟩:=AC h;refine .c (x:=AN (p0.f0.extract p0.f1.toNat (p0.f0.size:Int).toNat)) (.sliceS rfl rfl rfl rfl g2 Tryz.underlying9) ?_;obtain⟨t3,et3,h⟩:=ob h;refine .c (.call (args:=[(AN (p0.f0.extract p0.f1.toNat (p0.f0.size:Int).toNat))]) rfl rfl ZQ ⟨rfl,rfl,trivial⟩ rfl (R5 et3)) ?_;refine .a 18 ?_;refine .store 0 rfl rfl rfl rfl rfl rfl (.cast (.fldS (.fld0 .here)) rfl) rfl rfl Bb rfl ?_;refine .a 7 ?_;refine .nK [2,3] ?_;refine .rK [2,3] ?_;cases h;exact⟨[(AK t3.1),(AD t3.2.2)],⟨rfl,rfl,rfl,rfl,trivial⟩,rfl,(.cons 0 rfl (.refl _))⟩
def Ir (k:Nat) (x5:(Vector Int 4)):Option (Vector Int 4):=
 some (x5)
def DW (k:Nat) (p1:Int):Nat→(Vector Int 4)→Int→Option (Vector Int 4)
 | 0,_,_=>none
 | j+1,x6,x7=>
   if x7≤(AG p1)then if 0≤(IntKind.i64.wrap (x7.tdiv (64:Int)))∧(IntKind.i64.wrap (x7.tdiv (64:Int)))<(4:Int)then if 0≤(u64 (x7.tmod (64:Int)))then if 0≤(IntKind.i64.wrap (x7.tdiv (64:Int)))∧(IntKind.i64.wrap (x7.tdiv (64:Int)))<(4:Int)then(DW k p1 j) (BP x6 (IntKind.i64.wrap (x7.tdiv (64:Int))) (bits .or .u64 (AZ x6 (IntKind.i64.wrap (x7.tdiv (64:Int)))) (IntKind.u64.wrap ((1:Int)*2 ^ (min (u64 (x7.tmod (64:Int))).toNat IntKind.u64.bits))))) (AG (x7+(1:Int)))
   else none
   else none
   else none
   else Ir k x6
def Rs (k:Nat) (p0:Int) (p1:Int):Option (Vector Int 4):=
 DW k p1 k (Vector.replicate 4 (0:Int)) (AG p0)
theorem R4 {k:Nat} {p0:Int} {p1:Int} {r:(Vector Int 4)} (h:Rs k p0 p1=some r):AY Tryz.prog 134 [(AK p0),(AK p1)] (C7 r):=by
 rw[Rs.eq_1]at h;refine AY.intro (res:=[.cell 4 120]) Tryz.func134 rfl rfl rfl (Nat.le_of_ble_eq_true rfl) ?_;refine .sr ?_;refine .alloc rfl 4 rfl (by decide) rfl B8 Bj fun n3=>?_;refine .a 3 ?_;refine .alloc rfl 5 rfl (by decide) rfl B8 Bj fun n4=>?_;refine .nS [0,1,4,5] [1,0] ?_;refine .seq_mid (fun ρ H=>∃ (x5:(Vector Int 4)),ρ=[(4,(.ptr n3 0)),(5,(.ptr n4 0))]∧H=[(BM n3 ((Vector.replicate 4 (0:Int)).toList.map Ab)),(BM n4 (x5.toList.map Ab))]∧Ir k x5=some r) ?_ ?_
 ·refine .a 7 ?_;refine .wK [1,4,5,6] ?_;refine .loop (fun kq ρ H=>∃ (x6:(Vector Int 4)) (x7:Int),ρ=[(1,(AK p1)),(4,(.ptr n3 0)),(5,(.ptr n4 0)),(6,(AB x7))]∧H=[(BM n3 ((Vector.replicate 4 (0:Int)).toList.map Ab)),(BM n4 (x6.toList.map Ab))]∧DW k p1 kq x6 x7=some r) k ⟨(Vector.replicate 4 (0:Int)),(AG p0),rfl,rfl,h⟩ ?_;rintro kq9 _ _ ⟨x6,x7,rfl,rfl,h⟩
  cases kq9 with
  | zero=>rw[DW.eq_1]at h;cases h
  | succ kq9=>
  rw[DW.eq_2]at h;generalize hrec8:DW k p1 kq9=rec8 at h;refine .a 8 ?_;rcases oi h with⟨c10,h⟩|⟨c10,h⟩
  ·refine .a 6 ?_;refine .c (x:=AB (IntKind.i64.wrap (x7.tdiv (64:Int)))) (.quo rfl rfl rfl (by decide)) ?_;obtain⟨g11,h⟩:=AC h;refine .c (.idxP rfl rfl rfl g11 Tryz.underlying120 BX) ?_;refine .c (.load 1 rfl rfl rfl (.cast (.vidx (IntKind.i64.wrap (x7.tdiv (64:Int))) g11.1 g11.2 .here) (by omega)) GC BX) ?_;refine .mv rfl rfl ?_;refine .c (x:=AB (x7.tmod (64:Int))) (.rem rfl rfl rfl (by decide)) ?_;refine .a 1 ?_;obtain⟨g12,h⟩:=AC h;refine .c (x:=Ab (IntKind.u64.wrap ((1:Int)*2 ^ (min (u64 (x7.tmod (64:Int))).toNat IntKind.u64.bits)))) (.shl rfl rfl rfl g12) ?_;refine .a 1 ?_;obtain⟨g13,h⟩:=AC h;refine .c (.idxP rfl rfl rfl g13 Tryz.underlying120 BX) ?_;refine .store 1 rfl rfl rfl rfl rfl rfl (.cast (.vidx (IntKind.i64.wrap (x7.tdiv (64:Int))) (bits .or .u64 (AZ x6 (IntKind.i64.wrap (x7.tdiv (64:Int)))) (IntKind.u64.wrap ((1:Int)*2 ^ (min (u64 (x7.tmod (64:Int))).toNat IntKind.u64.bits)))) g13.1 g13.2 .here) (by omega)) rfl rfl BX rfl ?_;refine .a 5 ?_;refine .nK [1,4,5,6] ?_;exact⟨kq9,Nat.lt_succ_self _,(BP x6 (IntKind.i64.wrap (x7.tdiv (64:Int))) (bits .or .u64 (AZ x6 (IntKind.i64.wrap (x7.tdiv (64:Int)))) (IntKind.u64.wrap ((1:Int)*2 ^ (min (u64 (x7.tmod (64:Int))).toNat IntKind.u64.bits))))),(AG (x7+(1:Int))),rfl,rfl,by rw[hrec8];exact h⟩
  refine .a 1 ?_;refine .eK [4,5] ?_;exact⟨x6,rfl,rfl,h⟩
 rintro _ _ ⟨x5,rfl,rfl,h⟩;rw[Ir.eq_1]at h;refine .a 3 ?_;refine .store 0 rfl rfl rfl rfl rfl rfl (.cast .here rfl) rfl (by simp[AV.size]) (by rw[Br];simp[AV.size]) rfl ?_;refine .nS [4] [0] ?_;refine .rK [4] ?_;have hr:=Option.some.inj h;subst hr;exact⟨[(.ar 1 (x5.toList.map Ab))],⟨⟨_,0,rfl,rfl,HL,(by rw[Br];simp[AV.size])⟩,trivial⟩,rfl⟩
def Ip (k:Nat) (x6:(Vector Int 4)):Option (Vector Int 4):=
 some (x6)
def Dc (k:Nat) (p1:(Vector Int 4)):Nat→(Vector Int 4)→Int→Option (Vector Int 4)
 | 0,_,_=>none
 | j+1,x7,x8=>
   if x8<(4:Int)then if 0≤x8∧x8<(4:Int)then if 0≤x8∧x8<(4:Int)then if 0≤x8∧x8<(4:Int)then(Dc k p1 j) (BP x7 x8 (bits .or .u64 (AZ x7 x8) (AZ p1 x8))) (AG (x8+(1:Int)))
   else none
   else none
   else none
   else Ip k x7
def VV (k:Nat) (p0:(Vector Int 4)) (p1:(Vector Int 4)):Option (Vector Int 4):=
 Dc k p1 k p0 (0:Int)
theorem Rf {k:Nat} {p0:(Vector Int 4)} {p1:(Vector Int 4)} {r:(Vector Int 4)} (h:VV k p0 p1=some r):AY Tryz.prog 133 [(.ar 1 (p0.toList.map Ab)),(.ar 1 (p1.toList.map Ab))] (C7 r):=by
 rw[VV.eq_1]at h;refine AY.intro (res:=[.cell 4 120]) Tryz.func133 rfl rfl rfl (Nat.le_of_ble_eq_true rfl) ?_;refine .sr ?_;refine .box rfl 2 rfl (by decide) rfl rfl rfl fun n3=>?_;refine .box rfl 3 rfl (by decide) rfl rfl rfl fun n4=>?_;refine .alloc rfl 4 rfl (by decide) rfl B8 Bj fun n5=>?_;refine .nS [2,3,4] [2,1,0] ?_;refine .seq_mid (fun ρ H=>∃ (x6:(Vector Int 4)),ρ=[(2,(.ptr n3 0)),(4,(.ptr n5 0))]∧H=[(BM n3 (x6.toList.map Ab)),(BM n5 ((Vector.replicate 4 (0:Int)).toList.map Ab))]∧Ip k x6=some r) ?_ ?_
 ·refine .a 5 ?_;refine .wK [2,3,4,6] ?_;refine .loop (fun kq ρ H=>∃ (x7:(Vector Int 4)) (x8:Int),ρ=[(2,(.ptr n3 0)),(3,(.ptr n4 0)),(4,(.ptr n5 0)),(6,(AB x8))]∧H=[(BM n3 (x7.toList.map Ab)),(BM n4 (p1.toList.map Ab)),(BM n5 ((Vector.replicate 4 (0:Int)).toList.map Ab))]∧Dc k p1 kq x7 x8=some r) k ⟨p0,(0:Int),rfl,rfl,h⟩ ?_;rintro kq10 _ _ ⟨x7,x8,rfl,rfl,h⟩
  cases kq10 with
  | zero=>rw[Dc.eq_1]at h;cases h
  | succ kq10=>
  rw[Dc.eq_2]at h;generalize hrec9:Dc k p1 kq10=rec9 at h;refine .a 5 ?_;rcases oi h with⟨c11,h⟩|⟨c11,h⟩
  ·refine .a 9 ?_;obtain⟨g12,h⟩:=AC h;obtain⟨g13,h⟩:=AC h;obtain⟨g14,h⟩:=AC h;refine .regAnyL rfl rfl (by rfl) (by decide+kernel) (by decide+kernel) [(AB x8),(.ptr n3 (0+x8.toNat*1)),(Ab (AZ x7 x8)),(AB x8),(.ptr n4 (0+x8.toNat*1)),(Ab (AZ p1 x8)),(Ab (bits .or .u64 (AZ x7 x8) (AZ p1 x8))),(.ptr n3 (0+x8.toNat*1))] [(2,(.ptr n3 0)),(3,(.ptr n4 0)),(4,(.ptr n5 0)),(5,(AB x8)),(6,(AB x8))] ⟨rfl,rfl,rfl,rfl,rfl,trivial⟩ rfl ?_ [(2,(.ptr n3 0)),(3,(.ptr n4 0)),(4,(.ptr n5 0)),(6,(AB x8)),(15,(Ab (bits .or .u64 (AZ x7 x8) (AZ p1 x8)))),(16,(.ptr n3 (0+x8.toNat*1)))] ⟨rfl,rfl,rfl,rfl,rfl,rfl,trivial⟩ ?_
   ·refine⟨?_,?_,?_,?_,?_,?_,?_,?_,trivial⟩
    ·refine .a 1 ?_;exact .q 9
    ·refine .a 1 ?_;exact .q 10
    ·refine .wK [10] ?_;refine .c (.load 0 rfl rfl rfl (.cast (.vidx x8 g12.1 g12.2 .here) (by omega)) GC BX) ?_;exact .q 11
    ·refine .a 1 ?_;exact .q 12
    ·refine .a 1 ?_;exact .q 13
    ·refine .wK [13] ?_;refine .c (.load 1 rfl rfl rfl (.cast (.vidx x8 g13.1 g13.2 .here) (by omega)) GC BX) ?_;exact .q 14
    ·refine .a 1 ?_;exact .q 15
    refine .a 1 ?_;exact .q 16
   refine .store 0 rfl rfl rfl rfl rfl rfl (.cast (.vidx x8 (bits .or .u64 (AZ x7 x8) (AZ p1 x8)) g14.1 g14.2 .here) (by omega)) rfl rfl BX rfl ?_;refine .a 4 ?_;refine .nK [2,3,4,6] ?_;exact⟨kq10,Nat.lt_succ_self _,(BP x7 x8 (bits .or .u64 (AZ x7 x8) (AZ p1 x8))),(AG (x8+(1:Int))),rfl,rfl,by rw[hrec9];exact h⟩
  refine .a 1 ?_;refine .eH [2,4] (H':=[(BM n3 (x7.toList.map Ab)),(BM n5 ((Vector.replicate 4 (0:Int)).toList.map Ab))]) (.cons 0 rfl (.cons 1 rfl (.nil _))) ?_;exact⟨x7,rfl,rfl,h⟩
 rintro _ _ ⟨x6,rfl,rfl,h⟩;rw[Ip.eq_1]at h;refine .a 3 ?_;refine .store 1 rfl rfl rfl rfl rfl rfl (.cast .here rfl) rfl (by simp[AV.size]) (by rw[Br];simp[AV.size]) rfl ?_;refine .nS [4] [1] ?_;refine .rK [4] ?_;have hr:=Option.some.inj h;subst hr;exact⟨[(.ar 1 (x6.toList.map Ab))],⟨⟨_,0,rfl,rfl,HL,(by rw[Br];simp[AV.size])⟩,trivial⟩,rfl⟩
def Ib (k:Nat) (x6:(Vector Int 4)):Option (Vector Int 4):=
 some (x6)
def De (k:Nat) (p1:(Vector Int 4)):Nat→(Vector Int 4)→Int→Option (Vector Int 4)
 | 0,_,_=>none
 | j+1,x7,x8=>
   if x8<(4:Int)then if 0≤x8∧x8<(4:Int)then if 0≤x8∧x8<(4:Int)then if 0≤x8∧x8<(4:Int)then(De k p1 j) (BP x7 x8 (bits .andNot .u64 (AZ x7 x8) (AZ p1 x8))) (AG (x8+(1:Int)))
   else none
   else none
   else none
   else Ib k x7
def Va (k:Nat) (p0:(Vector Int 4)) (p1:(Vector Int 4)):Option (Vector Int 4):=
 De k p1 k p0 (0:Int)
theorem RR {k:Nat} {p0:(Vector Int 4)} {p1:(Vector Int 4)} {r:(Vector Int 4)} (h:Va k p0 p1=some r):AY Tryz.prog 138 [(.ar 1 (p0.toList.map Ab)),(.ar 1 (p1.toList.map Ab))] (C7 r):=by
 rw[Va.eq_1]at h;refine AY.intro (res:=[.cell 4 120]) Tryz.func138 rfl rfl rfl (Nat.le_of_ble_eq_true rfl) ?_;refine .sr ?_;refine .box rfl 2 rfl (by decide) rfl rfl rfl fun n3=>?_;refine .box rfl 3 rfl (by decide) rfl rfl rfl fun n4=>?_;refine .alloc rfl 4 rfl (by decide) rfl B8 Bj fun n5=>?_;refine .nS [2,3,4] [2,1,0] ?_;refine .seq_mid (fun ρ H=>∃ (x6:(Vector Int 4)),ρ=[(2,(.ptr n3 0)),(4,(.ptr n5 0))]∧H=[(BM n3 (x6.toList.map Ab)),(BM n5 ((Vector.replicate 4 (0:Int)).toList.map Ab))]∧Ib k x6=some r) ?_ ?_
 ·refine .a 5 ?_;refine .wK [2,3,4,6] ?_;refine .loop (fun kq ρ H=>∃ (x7:(Vector Int 4)) (x8:Int),ρ=[(2,(.ptr n3 0)),(3,(.ptr n4 0)),(4,(.ptr n5 0)),(6,(AB x8))]∧H=[(BM n3 (x7.toList.map Ab)),(BM n4 (p1.toList.map Ab)),(BM n5 ((Vector.replicate 4 (0:Int)).toList.map Ab))]∧De k p1 kq x7 x8=some r) k ⟨p0,(0:Int),rfl,rfl,h⟩ ?_;rintro kq10 _ _ ⟨x7,x8,rfl,rfl,h⟩
  cases kq10 with
  | zero=>rw[De.eq_1]at h;cases h
  | succ kq10=>
  rw[De.eq_2]at h;generalize hrec9:De k p1 kq10=rec9 at h;refine .a 5 ?_;rcases oi h with⟨c11,h⟩|⟨c11,h⟩
  ·refine .a 9 ?_;obtain⟨g12,h⟩:=AC h;obtain⟨g13,h⟩:=AC h;obtain⟨g14,h⟩:=AC h;refine .regAnyL rfl rfl (by rfl) (by decide+kernel) (by decide+kernel) [(AB x8),(.ptr n3 (0+x8.toNat*1)),(Ab (AZ x7 x8)),(AB x8),(.ptr n4 (0+x8.toNat*1)),(Ab (AZ p1 x8)),(Ab (bits .andNot .u64 (AZ x7 x8) (AZ p1 x8))),(.ptr n3 (0+x8.toNat*1))] [(2,(.ptr n3 0)),(3,(.ptr n4 0)),(4,(.ptr n5 0)),(5,(AB x8)),(6,(AB x8))] ⟨rfl,rfl,rfl,rfl,rfl,trivial⟩ rfl ?_ [(2,(.ptr n3 0)),(3,(.ptr n4 0)),(4,(.ptr n5 0)),(6,(AB x8)),(15,(Ab (bits .andNot .u64 (AZ x7 x8) (AZ p1 x8)))),(16,(.ptr n3 (0+x8.toNat*1)))] ⟨rfl,rfl,rfl,rfl,rfl,rfl,trivial⟩ ?_
   ·refine⟨?_,?_,?_,?_,?_,?_,?_,?_,trivial⟩
    ·refine .a 1 ?_;exact .q 9
    ·refine .a 1 ?_;exact .q 10
    ·refine .wK [10] ?_;refine .c (.load 0 rfl rfl rfl (.cast (.vidx x8 g12.1 g12.2 .here) (by omega)) GC BX) ?_;exact .q 11
    ·refine .a 1 ?_;exact .q 12
    ·refine .a 1 ?_;exact .q 13
    ·refine .wK [13] ?_;refine .c (.load 1 rfl rfl rfl (.cast (.vidx x8 g13.1 g13.2 .here) (by omega)) GC BX) ?_;exact .q 14
    ·refine .a 1 ?_;exact .q 15
    refine .a 1 ?_;exact .q 16
   refine .store 0 rfl rfl rfl rfl rfl rfl (.cast (.vidx x8 (bits .andNot .u64 (AZ x7 x8) (AZ p1 x8)) g14.1 g14.2 .here) (by omega)) rfl rfl BX rfl ?_;refine .a 4 ?_;refine .nK [2,3,4,6] ?_;exact⟨kq10,Nat.lt_succ_self _,(BP x7 x8 (bits .andNot .u64 (AZ x7 x8) (AZ p1 x8))),(AG (x8+(1:Int))),rfl,rfl,by rw[hrec9];exact h⟩
  refine .a 1 ?_;refine .eH [2,4] (H':=[(BM n3 (x7.toList.map Ab)),(BM n5 ((Vector.replicate 4 (0:Int)).toList.map Ab))]) (.cons 0 rfl (.cons 1 rfl (.nil _))) ?_;exact⟨x7,rfl,rfl,h⟩
 rintro _ _ ⟨x6,rfl,rfl,h⟩;rw[Ib.eq_1]at h;refine .a 3 ?_;refine .store 1 rfl rfl rfl rfl rfl rfl (.cast .here rfl) rfl (by simp[AV.size]) (by rw[Br];simp[AV.size]) rfl ?_;refine .nS [4] [1] ?_;refine .rK [4] ?_;have hr:=Option.some.inj h;subst hr;exact⟨[(.ar 1 (x6.toList.map Ab))],⟨⟨_,0,rfl,rfl,HL,(by rw[Br];simp[AV.size])⟩,trivial⟩,rfl⟩
def Tr (k:Nat) (p0:(Vector Int 4)):Option (Vector Int 4):=
 (Rj k).bind fun t4=>
 (Va k t4 p0).bind fun t5=>
 some (t5)
theorem Re {k:Nat} {p0:(Vector Int 4)} {r:(Vector Int 4)} (h:Tr k p0=some r):AY Tryz.prog 135 [(.ar 1 (p0.toList.map Ab))] (C7 r):=by
 rw[Tr.eq_1]at h;refine AY.intro (res:=[.cell 2 120]) Tryz.func135 rfl rfl rfl (Nat.le_of_ble_eq_true rfl) ?_;refine .sr ?_;refine .box rfl 1 rfl (by decide) rfl rfl rfl fun n2=>?_;refine .alloc rfl 2 rfl (by decide) rfl B8 Bj fun n3=>?_;refine .nS [1,2] [1,0] ?_;refine .seq ?_;obtain⟨t4,et4,h⟩:=ob h;obtain⟨t5,et5,h⟩:=ob h;refine .regAnyL rfl rfl (by rfl) (by decide+kernel) (by decide+kernel) [(.ar 1 (t4.toList.map Ab)),(.ar 1 (p0.toList.map Ab)),(.ar 1 (t5.toList.map Ab))] [(1,(.ptr n2 0)),(2,(.ptr n3 0))] ⟨rfl,rfl,trivial⟩ rfl ?_ [(2,(.ptr n3 0)),(5,(.ar 1 (t5.toList.map Ab)))] ⟨rfl,rfl,trivial⟩ ?_
 ·refine⟨?_,?_,?_,trivial⟩
  ·refine .wK [] ?_;refine .callS [] (.ar 1 (t4.toList.map Ab)) 3 rfl (by decide) WT rfl rfl rfl trivial (LM et4) ?_;exact .q 3
  ·refine .a 1 ?_;exact .q 4
  refine .wK [3,4] ?_;refine .callS [(.ar 1 (t4.toList.map Ab)),(.ar 1 (p0.toList.map Ab))] (.ar 1 (t5.toList.map Ab)) 5 rfl (by decide) ZN rfl rfl rfl ⟨rfl,rfl,rfl,rfl,trivial⟩ (RR et5) ?_;exact .q 5
 refine .store 1 rfl rfl rfl rfl rfl rfl (.cast .here rfl) rfl (by simp[AV.size]) (by rw[Br];simp[AV.size]) rfl ?_;refine .nS [2] [1] ?_;refine .rK [2] ?_;have hr:=Option.some.inj h;subst hr;exact⟨[(.ar 1 (t5.toList.map Ab))],⟨⟨_,0,rfl,rfl,HL,(by rw[Br];simp[AV.size])⟩,trivial⟩,rfl⟩
def Zw (k:Nat) (p0:(Vector Int 4)):Option Bool:=
 some (decide (p0=(Vector.replicate 4 (0:Int))))
theorem Nu {k:Nat} {p0:(Vector Int 4)} {r:Bool} (h:Zw k p0=some r):AY Tryz.prog 88 [(.ar 1 (p0.toList.map Ab))] (AD r):=by
 rw[Zw.eq_1]at h;refine AY.intro (res:=[.tmp 2]) Tryz.func88 rfl rfl rfl (Nat.le_of_ble_eq_true rfl) ?_;refine .sr ?_;refine .box rfl 1 rfl (by decide) rfl rfl rfl fun n2=>?_;refine .a 5 ?_;refine .c (x:=.ar 1 ((Vector.replicate 4 (0:Int)).toList.map Ab)) (.buildAr (qs:=[]) rfl trivial Tryz.underlying120 BX B8 Bj .nil rfl) ?_;refine .c (x:=AD (decide (p0=(Vector.replicate 4 (0:Int))))) (.eqA rfl rfl rfl XD (TM p0 (Vector.replicate 4 (0:Int))) (by decide)) ?_;refine .a 1 ?_;refine .nS [2] [] ?_;refine .rK [2] ?_;cases h;exact⟨[(AD (decide (p0=(Vector.replicate 4 (0:Int)))))],⟨rfl,rfl,trivial⟩,rfl⟩
end Go.Avl.T8
namespace Go.Avl.T8
open Go Go.RowKit Go.Proofs Go.Avl
set_option linter.unusedVariables false
set_option maxRecDepth 100000
set_option maxHeartbeats 4000000
set_option linter.unusedSimpArgs false
attribute [local irreducible] AW AO AQ AY Aq AH
def GK (k:Nat) (x5:ByteArray) (x6:Int) (x7:Int) (x9:(Vector Int 4)):Option ((List AE)×Bool×Ai):=
 (Ka k (Ai.mk x5 x6 x7) (93:Int)).bind fun t11=>
 if t11.1=true then(Zw k x9).bind fun t14=>
 some ([(AE.mk (1:Int) x9)], !t14,t11.2)
 else some ([(AE.mk (1:Int) x9)],false,t11.2)
def Ik (k:Nat) (t2:(Bool×Ai)) (x5:ByteArray) (x6:Int) (x7:Int) (x8:(Vector Int 4)):Option ((List AE)×Bool×Ai):=
 if t2.1=true then(Tr k x8).bind fun t16=>
 GK k x5 x6 x7 t16
 else GK k x5 x6 x7 x8
def FY (k:Nat) (rec21:(ByteArray→Int→Int→(Vector Int 4)→Option ((List AE)×Bool×Ai))) (x20:(Vector Int 4)) (t29:(Int×Bool×Ai)) (x32:ByteArray) (x33:Int) (x34:Int) (x35:Int):Option ((List AE)×Bool×Ai):=
 (Rs k t29.1 x35).bind fun t36=>
 (VV k x20 t36).bind fun t37=>
 rec21 x32 x33 x34 t37
def C0 (k:Nat) (t2:(Bool×Ai)):Nat→ByteArray→Int→Int→(Vector Int 4)→Option ((List AE)×Bool×Ai)
 | 0,_,_,_,_=>none
 | j+1,x17,x18,x19,x20=>
   (Mt k (Ai.mk x17 x18 x19) (ByteArray.mk #[93])).bind fun t23=>
   if(!t23)=true then(Mt k (Ai.mk x17 x18 x19) (ByteArray.mk #[94,45,47,34])).bind fun t26=>
   if t26=true then some ([],false,(Ai.mk x17 x18 x19))
   else(Mx k (Ai.mk x17 x18 x19)).bind fun t29=>
   if(!t29.2.1)=true then some ([],false,t29.2.2)
   else(Ka k t29.2.2 (45:Int)).bind fun t38=>
   if t38.1=true then(Mt k t38.2 (ByteArray.mk #[93,94,45,47,34])).bind fun t41=>
   if t41=true then some ([],false,t38.2)
   else(Mx k t38.2).bind fun t44=>
   Option.bind (α:=Bool) (if(!t44.2.1)=true then some (true)
   else some (decide (t44.1<t29.1))) fun b46=>
   if b46=true then some ([],false,t44.2.2)
   else FY k (C0 k t2 j) x20 t29 t44.2.2.f0 t44.2.2.f1 t44.2.2.f2 t44.1
   else FY k (C0 k t2 j) x20 t29 t38.2.f0 t38.2.f1 t38.2.f2 t29.1
   else Ik k t2 x17 x18 x19 x20
def St (k:Nat) (p0:Ai):Option ((List AE)×Bool×Ai):=
 (Ka k p0 (94:Int)).bind fun t2=>
 C0 k t2 k t2.2.f0 t2.2.f1 t2.2.f2 (Vector.replicate 4 (0:Int))
theorem RS {k:Nat} {p0:Ai} {r:((List AE)×Bool×Ai)} (h:St k p0=some r) {q0:Nat} {T0:Aa}:Aq Tryz.prog 126 [(.ptr q0 0)] ((q0,(.mem (Cn p0)))::T0) (fun x H'=>x=.tup [(.fz 5 (r.1.map AM)),(AD r.2.1)]∧Bd ((q0,(.mem (Cn r.2.2)))::T0) H'):=by
 rw[St.eq_1]at h;refine Aq.intro (res:=[.tmp 2,.tmp 3]) Tryz.func126 rfl rfl rfl (Nat.le_of_ble_eq_true rfl) ?_;refine .a 8 ?_;obtain⟨t2,et2,h⟩:=ob h;refine .callH [(.ptr q0 0),(AK (94:Int))] ((q0,(.mem (Cn p0)))::T0) _ rfl rfl rfl 10 rfl (by decide) Hw ⟨rfl,rfl,rfl,rfl,trivial⟩ (.cons 0 rfl (.refl _)) (Bi et2) ?_;rintro _ _ ⟨rfl,hs3⟩;refine .wH [0,9,10] hs3 ?_;refine .a 4 ?_;refine .alloc rfl 5 rfl (by decide) rfl B8 Bj fun n4=>?_;refine .nH [0,4,5] (H':=((FT q0 t2.2)::(BM n4 ((Vector.replicate 4 (0:Int)).toList.map Ab))::T0)) (.cons 1 rfl (.cons 0 rfl (.refl _))) ?_;refine .seq_mid (fun ρ H=>∃ (x5:ByteArray) (x6:Int) (x7:Int) (x8:(Vector Int 4)),ρ=[(0,(.ptr q0 0)),(4,(AD t2.1)),(5,(.ptr n4 0))]∧H=((Km q0 x5 x6 x7)::(BM n4 (x8.toList.map Ab))::T0)∧Ik k t2 x5 x6 x7 x8=some r) ?_ ?_
 ·refine .a 1 ?_;refine .wK [0,4,5] ?_;refine .loop (fun kq ρ H=>∃ (x17:ByteArray) (x18:Int) (x19:Int) (x20:(Vector Int 4)),ρ=[(0,(.ptr q0 0)),(4,(AD t2.1)),(5,(.ptr n4 0))]∧H=((Km q0 x17 x18 x19)::(BM n4 (x20.toList.map Ab))::T0)∧C0 k t2 kq x17 x18 x19 x20=some r) k ⟨t2.2.f0,t2.2.f1,t2.2.f2,(Vector.replicate 4 (0:Int)),rfl,rfl,h⟩ ?_;rintro kq22 _ _ ⟨x17,x18,x19,x20,rfl,rfl,h⟩
  cases kq22 with
  | zero=>rw[C0.eq_1]at h;cases h
  | succ kq22=>
  rw[C0.eq_2]at h;generalize hrec21:C0 k t2 kq22=rec21 at h;refine .a 4 ?_;obtain⟨t23,et23,h⟩:=ob h;refine .callH [(.ptr q0 0),(AN (ByteArray.mk #[93]))] ((FT q0 (Ai.mk x17 x18 x19))::(BM n4 (x20.toList.map Ab))::T0) _ rfl rfl rfl 12 rfl (by decide) Nr ⟨rfl,rfl,rfl,rfl,trivial⟩ (.cons 0 rfl (.refl _)) (Ev et23) ?_;rintro _ _ ⟨rfl,hs24⟩;refine .wH [0,4,5,11,12] hs24 ?_;refine .a 2 ?_;rcases oi h with⟨c25,h⟩|⟨c25,h⟩
  ·refine .a 7 ?_;obtain⟨t26,et26,h⟩:=ob h;refine .callH [(.ptr q0 0),(AN (ByteArray.mk #[94,45,47,34]))] ((FT q0 (Ai.mk x17 x18 x19))::(BM n4 (x20.toList.map Ab))::T0) _ rfl rfl rfl 15 rfl (by decide) Nr ⟨rfl,rfl,rfl,rfl,trivial⟩ (.cons 0 rfl (.refl _)) (Ev et26) ?_;rintro _ _ ⟨rfl,hs27⟩;refine .wH [0,4,5,14,15] hs27 ?_;refine .a 1 ?_;rcases oi h with⟨c28,h⟩|⟨c28,h⟩
   ·refine .a 5 ?_;refine .nH [2,3] (H':=((Km q0 x17 x18 x19)::T0)) (.cons 0 rfl (.drop (.refl _))) ?_;refine .coeC 2 (y':=(Ba ([]:List AE))) rfl Hi.nil ?_;refine .rK [2,3] ?_;cases h;exact⟨[(Ba ([]:List AE)),(AD false)],⟨rfl,rfl,rfl,rfl,trivial⟩,rfl,(.cons 0 rfl (.refl _))⟩
   refine .a 5 ?_;obtain⟨t29,et29,h⟩:=ob h;refine .callH [(.ptr q0 0)] ((FT q0 (Ai.mk x17 x18 x19))::(BM n4 (x20.toList.map Ab))::T0) _ rfl rfl rfl 18 rfl (by decide) UV ⟨rfl,rfl,trivial⟩ (.cons 0 rfl (.refl _)) (H9 et29) ?_;rintro _ _ ⟨rfl,hs30⟩;refine .wH [0,4,5,17,18] hs30 ?_;refine .a 12 ?_;rcases oi h with⟨c31,h⟩|⟨c31,h⟩
   ·refine .a 5 ?_;refine .nH [2,3] (H':=((FT q0 t29.2.2)::T0)) (.cons 0 rfl (.drop (.refl _))) ?_;refine .coeC 2 (y':=(Ba ([]:List AE))) rfl Hi.nil ?_;refine .rK [2,3] ?_;cases h;exact⟨[(Ba ([]:List AE)),(AD false)],⟨rfl,rfl,rfl,rfl,trivial⟩,rfl,(.cons 0 rfl (.refl _))⟩
   refine .a 6 ?_;refine .nK [0,4,5,6,8] ?_;refine .seq_mid (fun ρ H=>∃ (x32:ByteArray) (x33:Int) (x34:Int) (x35:Int),ρ=[(0,(.ptr q0 0)),(4,(AD t2.1)),(5,(.ptr n4 0)),(6,(AK t29.1)),(8,(AK x35))]∧H=((Km q0 x32 x33 x34)::(BM n4 (x20.toList.map Ab))::T0)∧FY k rec21 x20 t29 x32 x33 x34 x35=some r) ?_ ?_
   ·refine .a 3 ?_;obtain⟨t38,et38,h⟩:=ob h;refine .callH [(.ptr q0 0),(AK (45:Int))] ((FT q0 t29.2.2)::(BM n4 (x20.toList.map Ab))::T0) _ rfl rfl rfl 25 rfl (by decide) Hw ⟨rfl,rfl,rfl,rfl,trivial⟩ (.cons 0 rfl (.refl _)) (Bi et38) ?_;rintro _ _ ⟨rfl,hs39⟩;refine .wH [0,4,5,6,8,24,25] hs39 ?_;refine .a 1 ?_;rcases oi h with⟨c40,h⟩|⟨c40,h⟩
    ·refine .a 5 ?_;obtain⟨t41,et41,h⟩:=ob h;refine .callH [(.ptr q0 0),(AN (ByteArray.mk #[93,94,45,47,34]))] ((FT q0 t38.2)::(BM n4 (x20.toList.map Ab))::T0) _ rfl rfl rfl 27 rfl (by decide) Nr ⟨rfl,rfl,rfl,rfl,trivial⟩ (.cons 0 rfl (.refl _)) (Ev et41) ?_;rintro _ _ ⟨rfl,hs42⟩;refine .wH [0,4,5,6,8,25,26,27] hs42 ?_;refine .a 1 ?_;rcases oi h with⟨c43,h⟩|⟨c43,h⟩
     ·refine .a 5 ?_;refine .nH [2,3] (H':=((FT q0 t38.2)::T0)) (.cons 0 rfl (.drop (.refl _))) ?_;refine .coeC 2 (y':=(Ba ([]:List AE))) rfl Hi.nil ?_;refine .rK [2,3] ?_;cases h;exact⟨[(Ba ([]:List AE)),(AD false)],⟨rfl,rfl,rfl,rfl,trivial⟩,rfl,(.cons 0 rfl (.refl _))⟩
     refine .a 5 ?_;obtain⟨t44,et44,h⟩:=ob h;refine .callH [(.ptr q0 0)] ((FT q0 t38.2)::(BM n4 (x20.toList.map Ab))::T0) _ rfl rfl rfl 30 rfl (by decide) UV ⟨rfl,rfl,trivial⟩ (.cons 0 rfl (.refl _)) (H9 et44) ?_;rintro _ _ ⟨rfl,hs45⟩;refine .wH [0,4,5,6,29,30] hs45 ?_;refine .a 7 ?_;obtain⟨b46,q47,h⟩:=ob h;refine .regM [(0,(.ptr q0 0)),(4,(AD t2.1)),(5,(.ptr n4 0)),(6,(AK t29.1)),(8,(AK t44.1)),(39,(AD b46))] ((FT q0 t44.2.2)::(BM n4 (x20.toList.map Ab))::T0) ?_ ?_
     ·refine .a 3 ?_;rcases oi q47 with⟨c48,q47⟩|⟨c48,q47⟩
      ·refine .a 4 ?_;cases q47;refine .nilE ⟨rfl,rfl⟩ ?_ ?_
       ·exact⟨rfl,rfl,rfl,rfl,rfl,rfl,trivial⟩
       exact(.refl _)
      refine .a 4 ?_;cases q47;refine .nilE ⟨rfl,rfl⟩ ?_ ?_
      ·exact⟨rfl,rfl,rfl,rfl,rfl,rfl,trivial⟩
      exact(.refl _)
     rcases oi h with⟨c49,h⟩|⟨c49,h⟩
     ·refine .a 5 ?_;refine .nH [2,3] (H':=((FT q0 t44.2.2)::T0)) (.cons 0 rfl (.drop (.refl _))) ?_;refine .coeC 2 (y':=(Ba ([]:List AE))) rfl Hi.nil ?_;refine .rK [2,3] ?_;cases h;exact⟨[(Ba ([]:List AE)),(AD false)],⟨rfl,rfl,rfl,rfl,trivial⟩,rfl,(.cons 0 rfl (.refl _))⟩
     refine .a 1 ?_;refine .sK [0,4,5,6,8] ?_;exact⟨t44.2.2.f0,t44.2.2.f1,t44.2.2.f2,t44.1,rfl,rfl,h⟩
    refine .a 1 ?_;refine .sK [0,4,5,6,8] ?_;exact⟨t38.2.f0,t38.2.f1,t38.2.f2,t29.1,rfl,rfl,h⟩
   rintro _ _ ⟨x32,x33,x34,x35,rfl,rfl,h⟩;rw[FY.eq_1]at h;obtain⟨t36,et36,h⟩:=ob h;obtain⟨t37,et37,h⟩:=ob h;refine .regAnyL rfl rfl (by rfl) (by decide+kernel) (by decide+kernel) [(.ar 1 (x20.toList.map Ab)),(AK t29.1),(AK x35),(.ar 1 (t36.toList.map Ab)),(.ar 1 (t37.toList.map Ab))] [(0,(.ptr q0 0)),(4,(AD t2.1)),(5,(.ptr n4 0)),(6,(AK t29.1)),(8,(AK x35))] ⟨rfl,rfl,rfl,rfl,rfl,trivial⟩ rfl ?_ [(0,(.ptr q0 0)),(4,(AD t2.1)),(5,(.ptr n4 0)),(44,(.ar 1 (t37.toList.map Ab)))] ⟨rfl,rfl,rfl,rfl,trivial⟩ ?_
   ·refine⟨?_,?_,?_,?_,?_,trivial⟩
    ·refine .a 1 ?_;exact .q 40
    ·refine .a 1 ?_;exact .q 41
    ·refine .a 1 ?_;exact .q 42
    ·refine .wK [41,42] ?_;refine .callS [(AK t29.1),(AK x35)] (.ar 1 (t36.toList.map Ab)) 43 rfl (by decide) aI rfl rfl rfl ⟨rfl,rfl,rfl,rfl,trivial⟩ (R4 et36) ?_;exact .q 43
    refine .wK [40,43] ?_;refine .callS [(.ar 1 (x20.toList.map Ab)),(.ar 1 (t36.toList.map Ab))] (.ar 1 (t37.toList.map Ab)) 44 rfl (by decide) ae rfl rfl rfl ⟨rfl,rfl,rfl,rfl,trivial⟩ (Rf et37) ?_;exact .q 44
   refine .store 1 rfl rfl rfl rfl rfl rfl (.cast .here rfl) rfl (by simp[AV.size]) (by rw[Br];simp[AV.size]) rfl ?_;refine .nK [0,4,5] ?_;exact⟨kq22,Nat.lt_succ_self _,x32,x33,x34,t37,rfl,rfl,by rw[hrec21];exact h⟩
  refine .a 1 ?_;refine .eK [0,4,5] ?_;exact⟨x17,x18,x19,x20,rfl,rfl,h⟩
 rintro _ _ ⟨x5,x6,x7,x8,rfl,rfl,h⟩;rw[Ik.eq_1]at h;refine .seq_mid (fun ρ H=>∃ (x9:(Vector Int 4)),ρ=[(0,(.ptr q0 0)),(5,(.ptr n4 0))]∧H=((Km q0 x5 x6 x7)::(BM n4 (x9.toList.map Ab))::T0)∧GK k x5 x6 x7 x9=some r) ?_ ?_
 ·refine .a 4 ?_;rcases oi h with⟨c15,h⟩|⟨c15,h⟩
  ·refine .a 3 ?_;obtain⟨t16,et16,h⟩:=ob h;refine .callS [(.ar 1 (x8.toList.map Ab))] (.ar 1 (t16.toList.map Ab)) 47 rfl (by decide) aY rfl rfl rfl ⟨rfl,rfl,trivial⟩ (Re et16) ?_;refine .store 1 rfl rfl rfl rfl rfl rfl (.cast .here rfl) rfl (by simp[AV.size]) (by rw[Br];simp[AV.size]) rfl ?_;refine .nK [0,5] ?_;exact⟨t16,rfl,rfl,h⟩
  refine .a 1 ?_;refine .sK [0,5] ?_;exact⟨x8,rfl,rfl,h⟩
 rintro _ _ ⟨x9,rfl,rfl,h⟩;rw[GK.eq_1]at h;refine .seq ?_;obtain⟨t11,et11,h⟩:=ob h;rcases oi h with⟨c13,h⟩|⟨c13,h⟩
 ·obtain⟨t14,et14,h⟩:=ob h;refine .regEff (by rfl) (by decide+kernel) (fun (σ:Nat→Nat)=>([(.ar 1 (x9.toList.map Ab)),(AM (AE.mk (1:Int) x9)),(Ba ([(AE.mk (1:Int) x9)]:List AE)),(.ptr q0 0),(AD t11.1),(AD t11.1),(.ar 1 (x9.toList.map Ab)),(AD t14),(AD (!t14)),(AD (!t14)),(Ba ([(AE.mk (1:Int) x9)]:List AE)),(AD (!t14))]:List AV)) (fun (L:Nat→Bool) (σ:Nat→Nat)=>((BM n4 (x9.toList.map Ab))::(bif L 4 then((FT q0 t11.2)::T0)else((Km q0 x5 x6 x7)::T0)):Aa)) [(0,(.ptr q0 0)),(5,(.ptr n4 0))] ⟨rfl,rfl,trivial⟩ (fun _=>rfl) (fun σ=>(.cons 1 rfl (.cons 0 rfl (.refl _)))) ⟨?_,?_,?_,?_,?_,?_,?_,?_,?_,?_,?_,?_,trivial⟩ (fun σ=>[(2,(Ba ([(AE.mk (1:Int) x9)]:List AE))),(3,(AD (!t14)))]) (fun σ=>((BM n4 (x9.toList.map Ab))::(FT q0 t11.2)::T0)) (fun σ=>⟨rfl,rfl,trivial⟩) (fun σ=>.refl _) (fun σ=>?_)
  ·refine .calm (fun _ _=>rfl) fun L σ hc hi hd=>?_;refine .a 1 ?_;exact .nE (d:=48) rfl ⟨⟨48,_,rfl,rfl,rfl⟩,.refl _⟩
  ·refine .calm (fun _ _=>rfl) fun L σ hc hi hd=>?_;refine .wK [48] ?_;refine .c (x:=(Ha (1:Int) (x9.toList.map Ab))) (.build (qs:=[(0,(AB (1:Int))),(1,(.ar 1 (x9.toList.map Ab)))]) rfl ⟨rfl,rfl,rfl,rfl,rfl,rfl,trivial⟩ Tryz.underlying122 rfl A8 A7 (.cons rfl rfl rfl rfl (.cast (.fld0 .here) rfl) (.cons rfl rfl (Ax _ _) (Ax _ _) (.cast (.fldS (.fld0 .here)) rfl) .nil)) rfl) ?_;exact .nE (d:=49) rfl ⟨⟨49,_,rfl,rfl,rfl⟩,.refl _⟩
  ·refine .calm (fun _ _=>rfl) fun L σ hc hi hd=>?_;refine .wK [49] ?_;refine .lit (Z:=(Ha (0:Int) ((Vector.replicate 4 (0:Int)).toList.map Ab))) (xs:=(([(AE.mk (1:Int) x9)]:List AE).map AM)) (qs:=[(0,(AM (AE.mk (1:Int) x9)))]) rfl 50 rfl (by decide) rfl ⟨rfl,rfl,rfl,trivial⟩ Tryz.underlying75 BS A8 A7 rfl (by decide) (An (z:=5) [(AM (AE.mk (1:Int) x9))] rfl ⟨⟨rfl,rfl⟩,trivial⟩) rfl fun n10=>?_;refine .freezeS 0 [(50,(Ba ([(AE.mk (1:Int) x9)]:List AE)))] rfl ⟨Aj rfl,trivial⟩ ?_;exact .nE (d:=50) rfl ⟨⟨50,_,rfl,rfl,rfl⟩,.refl _⟩
  ·refine .calm (fun _ _=>rfl) fun L σ hc hi hd=>?_;have m4:L 4=false:=hc.neg (i:=3) (j:=4) rfl (by rfl) hi;refine .heq (H':=((BM n4 (x9.toList.map Ab))::(Km q0 x5 x6 x7)::T0)) (by first|rfl|simp only[m4,cond_true,cond_false]) ?_;refine .a 1 ?_;exact .nE (d:=51) rfl ⟨⟨51,_,rfl,rfl,rfl⟩,.of_eq (by first|rfl|simp only[m4,cond_true,cond_false]) (.refl _)⟩
  ·intro L σ hc hi hd;refine .heq (H':=((BM n4 (x9.toList.map Ab))::(Km q0 x5 x6 x7)::T0)) (by first|rfl|simp only[hi,cond_true,cond_false]) ?_;refine .wK [51] ?_;refine .callH [(.ptr q0 0),(AK (93:Int))] ((FT q0 (Ai.mk x5 x6 x7))::(BM n4 (x9.toList.map Ab))::T0) _ rfl rfl rfl 52 rfl (by decide) Hw ⟨rfl,rfl,rfl,rfl,trivial⟩ (.cons 1 rfl (.refl _)) (Bi et11) ?_;rintro _ _ ⟨rfl,hs12⟩;refine .wH [51,52] hs12 ?_;have a4:A5 L 4 4=true:=rfl;exact .nE (d:=52) rfl ⟨σ,(fun _ _=>rfl),(fun d' hd'=>⟨_,rfl,by cases hd';rfl⟩),.of_eq (B:=((BM n4 (x9.toList.map Ab))::(FT q0 t11.2)::T0)) (by simp only[a4,cond_true,cond_false]) (.cons 1 rfl (.cons 0 rfl (.refl _)))⟩
  ·refine .calm (fun _ _=>rfl) fun L σ hc hi hd=>?_;refine .a 1 ?_;exact .nE (d:=53) rfl ⟨⟨53,_,rfl,rfl,rfl⟩,.refl _⟩
  ·refine .calm (fun _ _=>rfl) fun L σ hc hi hd=>?_;refine .a 1 ?_;exact .nE (d:=54) rfl ⟨⟨54,_,rfl,rfl,rfl⟩,.refl _⟩
  ·refine .calm (fun _ _=>rfl) fun L σ hc hi hd=>?_;refine .wK [53,54] ?_;refine .callG 5 true 53 [(.ar 1 (x9.toList.map Ab))] (AD t14) 55 rfl (by decide) aP rfl rfl (bD c13) rfl rfl ⟨rfl,rfl,trivial⟩ (Nu et14) ?_;exact .nE (d:=55) rfl ⟨⟨55,_,rfl,rfl,rfl⟩,.refl _⟩
  ·refine .calm (fun _ _=>rfl) fun L σ hc hi hd=>?_;refine .a 1 ?_;exact .nE (d:=56) rfl ⟨⟨56,_,rfl,rfl,rfl⟩,.refl _⟩
  ·refine .calm (fun _ _=>rfl) fun L σ hc hi hd=>?_;refine .a 1 ?_;exact .nE (d:=57) rfl ⟨⟨57,_,rfl,rfl,rfl⟩,.refl _⟩
  ·refine .calm (fun _ _=>rfl) fun L σ hc hi hd=>?_;refine .a 1 ?_;exact .nE (d:=2) rfl ⟨⟨2,_,rfl,rfl,rfl⟩,.refl _⟩
  ·refine .calm (fun _ _=>rfl) fun L σ hc hi hd=>?_;refine .a 1 ?_;exact .nE (d:=3) rfl ⟨⟨3,_,rfl,rfl,rfl⟩,.refl _⟩
  refine .nH [2,3] (H':=((FT q0 t11.2)::T0)) (.cons 1 rfl (.drop (.refl _))) ?_;refine .rK [2,3] ?_;cases h;exact⟨[(Ba ([(AE.mk (1:Int) x9)]:List AE)),(AD (!t14))],⟨rfl,rfl,rfl,rfl,trivial⟩,rfl,(.cons 0 rfl (.refl _))⟩
 refine .regEff (by rfl) (by decide+kernel) (fun (σ:Nat→Nat)=>([(.ar 1 (x9.toList.map Ab)),(AM (AE.mk (1:Int) x9)),(Ba ([(AE.mk (1:Int) x9)]:List AE)),(.ptr q0 0),(AD t11.1),(AD t11.1),(.fl undef),(.fl undef),(.fl undef),(AD false),(Ba ([(AE.mk (1:Int) x9)]:List AE)),(AD false)]:List AV)) (fun (L:Nat→Bool) (σ:Nat→Nat)=>((BM n4 (x9.toList.map Ab))::(bif L 4 then((FT q0 t11.2)::T0)else((Km q0 x5 x6 x7)::T0)):Aa)) [(0,(.ptr q0 0)),(5,(.ptr n4 0))] ⟨rfl,rfl,trivial⟩ (fun _=>rfl) (fun σ=>(.cons 1 rfl (.cons 0 rfl (.refl _)))) ⟨?_,?_,?_,?_,?_,?_,?_,?_,?_,?_,?_,?_,trivial⟩ (fun σ=>[(2,(Ba ([(AE.mk (1:Int) x9)]:List AE))),(3,(AD false))]) (fun σ=>((BM n4 (x9.toList.map Ab))::(FT q0 t11.2)::T0)) (fun σ=>⟨rfl,rfl,trivial⟩) (fun σ=>.refl _) (fun σ=>?_)
 ·refine .calm (fun _ _=>rfl) fun L σ hc hi hd=>?_;refine .a 1 ?_;exact .nE (d:=48) rfl ⟨⟨48,_,rfl,rfl,rfl⟩,.refl _⟩
 ·refine .calm (fun _ _=>rfl) fun L σ hc hi hd=>?_;refine .wK [48] ?_;refine .c (x:=(Ha (1:Int) (x9.toList.map Ab))) (.build (qs:=[(0,(AB (1:Int))),(1,(.ar 1 (x9.toList.map Ab)))]) rfl ⟨rfl,rfl,rfl,rfl,rfl,rfl,trivial⟩ Tryz.underlying122 rfl A8 A7 (.cons rfl rfl rfl rfl (.cast (.fld0 .here) rfl) (.cons rfl rfl (Ax _ _) (Ax _ _) (.cast (.fldS (.fld0 .here)) rfl) .nil)) rfl) ?_;exact .nE (d:=49) rfl ⟨⟨49,_,rfl,rfl,rfl⟩,.refl _⟩
 ·refine .calm (fun _ _=>rfl) fun L σ hc hi hd=>?_;refine .wK [49] ?_;refine .lit (Z:=(Ha (0:Int) ((Vector.replicate 4 (0:Int)).toList.map Ab))) (xs:=(([(AE.mk (1:Int) x9)]:List AE).map AM)) (qs:=[(0,(AM (AE.mk (1:Int) x9)))]) rfl 50 rfl (by decide) rfl ⟨rfl,rfl,rfl,trivial⟩ Tryz.underlying75 BS A8 A7 rfl (by decide) (An (z:=5) [(AM (AE.mk (1:Int) x9))] rfl ⟨⟨rfl,rfl⟩,trivial⟩) rfl fun n10=>?_;refine .freezeS 0 [(50,(Ba ([(AE.mk (1:Int) x9)]:List AE)))] rfl ⟨Aj rfl,trivial⟩ ?_;exact .nE (d:=50) rfl ⟨⟨50,_,rfl,rfl,rfl⟩,.refl _⟩
 ·refine .calm (fun _ _=>rfl) fun L σ hc hi hd=>?_;have m4:L 4=false:=hc.neg (i:=3) (j:=4) rfl (by rfl) hi;refine .heq (H':=((BM n4 (x9.toList.map Ab))::(Km q0 x5 x6 x7)::T0)) (by first|rfl|simp only[m4,cond_true,cond_false]) ?_;refine .a 1 ?_;exact .nE (d:=51) rfl ⟨⟨51,_,rfl,rfl,rfl⟩,.of_eq (by first|rfl|simp only[m4,cond_true,cond_false]) (.refl _)⟩
 ·intro L σ hc hi hd;refine .heq (H':=((BM n4 (x9.toList.map Ab))::(Km q0 x5 x6 x7)::T0)) (by first|rfl|simp only[hi,cond_true,cond_false]) ?_;refine .wK [51] ?_;refine .callH [(.ptr q0 0),(AK (93:Int))] ((FT q0 (Ai.mk x5 x6 x7))::(BM n4 (x9.toList.map Ab))::T0) _ rfl rfl rfl 52 rfl (by decide) Hw ⟨rfl,rfl,rfl,rfl,trivial⟩ (.cons 1 rfl (.refl _)) (Bi et11) ?_;rintro _ _ ⟨rfl,hs12⟩;refine .wH [51,52] hs12 ?_;have a4:A5 L 4 4=true:=rfl;exact .nE (d:=52) rfl ⟨σ,(fun _ _=>rfl),(fun d' hd'=>⟨_,rfl,by cases hd';rfl⟩),.of_eq (B:=((BM n4 (x9.toList.map Ab))::(FT q0 t11.2)::T0)) (by simp only[a4,cond_true,cond_false]) (.cons 1 rfl (.cons 0 rfl (.refl _)))⟩
 ·refine .calm (fun _ _=>rfl) fun L σ hc hi hd=>?_;refine .a 1 ?_;exact .nE (d:=53) rfl ⟨⟨53,_,rfl,rfl,rfl⟩,.refl _⟩
 ·refine .calm (fun _ _=>rfl) fun L σ hc hi hd=>?_;refine .a 1 ?_;exact .nE (d:=54) rfl ⟨⟨54,_,rfl,rfl,rfl⟩,.refl _⟩
 ·refine .calm (fun _ _=>rfl) fun L σ hc hi hd=>?_;refine .a 1 ?_;exact .nE (d:=55) rfl ⟨⟨55,_,rfl,rfl,rfl⟩,.refl _⟩
 ·refine .calm (fun _ _=>rfl) fun L σ hc hi hd=>?_;refine .a 1 ?_;exact .nE (d:=56) rfl ⟨⟨56,_,rfl,rfl,rfl⟩,.refl _⟩
 ·refine .calm (fun _ _=>rfl) fun L σ hc hi hd=>?_;refine .a 1 ?_;exact .nE (d:=57) rfl ⟨⟨57,_,rfl,rfl,rfl⟩,.refl _⟩
 ·refine .calm (fun _ _=>rfl) fun L σ hc hi hd=>?_;refine .a 1 ?_;exact .nE (d:=2) rfl ⟨⟨2,_,rfl,rfl,rfl⟩,.refl _⟩
 ·refine .calm (fun _ _=>rfl) fun L σ hc hi hd=>?_;refine .a 1 ?_;exact .nE (d:=3) rfl ⟨⟨3,_,rfl,rfl,rfl⟩,.refl _⟩
 refine .nH [2,3] (H':=((FT q0 t11.2)::T0)) (.cons 1 rfl (.drop (.refl _))) ?_;refine .rK [2,3] ?_;cases h;exact⟨[(Ba ([(AE.mk (1:Int) x9)]:List AE)),(AD false)],⟨rfl,rfl,rfl,rfl,trivial⟩,rfl,(.cons 0 rfl (.refl _))⟩
end Go.Avl.T8
namespace Go.Avl.T8
open Go Go.RowKit Go.Proofs Go.Avl
set_option linter.unusedVariables false
set_option maxRecDepth 100000
set_option maxHeartbeats 4000000
attribute [local irreducible] AW AO AQ AY Aq AH
def Ia (k:Nat) (x4:(Vector Int 4)):Option (Vector Int 4):=
 some (x4)
def DU (k:Nat) (p0:(List Int)):Nat→(Vector Int 4)→Int→Option (Vector Int 4)
 | 0,_,_=>none
 | j+1,x5,x6=>
   if x6<(p0.length:Int)then if 0≤x6∧x6<(p0.length:Int)then if 0≤(IntKind.u8.wrap ((AA p0 x6).tdiv (64:Int)))∧(IntKind.u8.wrap ((AA p0 x6).tdiv (64:Int)))<(4:Int)then if 0≤((AA p0 x6).tmod (64:Int))then if 0≤(IntKind.u8.wrap ((AA p0 x6).tdiv (64:Int)))∧(IntKind.u8.wrap ((AA p0 x6).tdiv (64:Int)))<(4:Int)then(DU k p0 j) (BP x5 (IntKind.u8.wrap ((AA p0 x6).tdiv (64:Int))) (bits .or .u64 (AZ x5 (IntKind.u8.wrap ((AA p0 x6).tdiv (64:Int)))) (IntKind.u64.wrap ((1:Int)*2 ^ (min ((AA p0 x6).tmod (64:Int)).toNat IntKind.u64.bits))))) (AG (x6+(1:Int)))
   else none
   else none
   else none
   else none
   else Ia k x5
def VH (k:Nat) (p0:(List Int)):Option (Vector Int 4):=
 DU k p0 k (Vector.replicate 4 (0:Int)) (0:Int)
theorem RK {k:Nat} {p0:(List Int)} {r:(Vector Int 4)} (h:VH k p0=some r):AY Tryz.prog 128 [(.fz 1 (p0.map AK))] (C7 r):=by
 rw[VH.eq_1]at h;refine AY.intro (res:=[.cell 2 120]) Tryz.func128 rfl rfl rfl (Nat.le_of_ble_eq_true rfl) ?_;refine .sr ?_;refine .alloc rfl 2 rfl (by decide) rfl B8 Bj fun n2=>?_;refine .a 3 ?_;refine .alloc rfl 3 rfl (by decide) rfl B8 Bj fun n3=>?_;refine .nS [0,2,3] [1,0] ?_;refine .seq_mid (fun ρ H=>∃ (x4:(Vector Int 4)),ρ=[(2,(.ptr n2 0)),(3,(.ptr n3 0))]∧H=[(BM n2 ((Vector.replicate 4 (0:Int)).toList.map Ab)),(BM n3 (x4.toList.map Ab))]∧Ia k x4=some r) ?_ ?_
 ·refine .a 7 ?_;refine .wK [2,3,6,7,8] ?_;refine .loop (fun kq ρ H=>∃ (x5:(Vector Int 4)) (x6:Int),ρ=[(2,(.ptr n2 0)),(3,(.ptr n3 0)),(6,(.fz 1 (p0.map AK))),(7,(AB (p0.length:Int))),(8,(AB x6))]∧H=[(BM n2 ((Vector.replicate 4 (0:Int)).toList.map Ab)),(BM n3 (x5.toList.map Ab))]∧DU k p0 kq x5 x6=some r) k ⟨(Vector.replicate 4 (0:Int)),(0:Int),rfl,rfl,h⟩ ?_;rintro kq8 _ _ ⟨x5,x6,rfl,rfl,h⟩
  cases kq8 with
  | zero=>rw[DU.eq_1]at h;cases h
  | succ kq8=>
  rw[DU.eq_2]at h;generalize hrec7:DU k p0 kq8=rec7 at h;refine .a 5 ?_;rcases oi h with⟨c9,h⟩|⟨c9,h⟩
  ·refine .a 6 ?_;obtain⟨g10,h⟩:=AC h;refine .a 6 ?_;refine .c (x:=AK (IntKind.u8.wrap ((AA p0 x6).tdiv (64:Int)))) (.quo rfl rfl rfl (by decide)) ?_;obtain⟨g11,h⟩:=AC h;refine .c (.idxP rfl rfl rfl g11 Tryz.underlying120 BX) ?_;refine .c (.load 1 rfl rfl rfl (.cast (.vidx (IntKind.u8.wrap ((AA p0 x6).tdiv (64:Int))) g11.1 g11.2 .here) (by omega)) GC BX) ?_;refine .mv rfl rfl ?_;refine .c (x:=AK ((AA p0 x6).tmod (64:Int))) (.rem rfl rfl rfl (by decide)) ?_;obtain⟨g12,h⟩:=AC h;refine .c (x:=Ab (IntKind.u64.wrap ((1:Int)*2 ^ (min ((AA p0 x6).tmod (64:Int)).toNat IntKind.u64.bits)))) (.shl rfl rfl rfl g12) ?_;refine .a 1 ?_;obtain⟨g13,h⟩:=AC h;refine .c (.idxP rfl rfl rfl g13 Tryz.underlying120 BX) ?_;refine .store 1 rfl rfl rfl rfl rfl rfl (.cast (.vidx (IntKind.u8.wrap ((AA p0 x6).tdiv (64:Int))) (bits .or .u64 (AZ x5 (IntKind.u8.wrap ((AA p0 x6).tdiv (64:Int)))) (IntKind.u64.wrap ((1:Int)*2 ^ (min ((AA p0 x6).tmod (64:Int)).toNat IntKind.u64.bits)))) g13.1 g13.2 .here) (by omega)) rfl rfl BX rfl ?_;refine .a 4 ?_;refine .nK [2,3,6,7,8] ?_;exact⟨kq8,Nat.lt_succ_self _,(BP x5 (IntKind.u8.wrap ((AA p0 x6).tdiv (64:Int))) (bits .or .u64 (AZ x5 (IntKind.u8.wrap ((AA p0 x6).tdiv (64:Int)))) (IntKind.u64.wrap ((1:Int)*2 ^ (min ((AA p0 x6).tmod (64:Int)).toNat IntKind.u64.bits))))),(AG (x6+(1:Int))),rfl,rfl,by rw[hrec7];exact h⟩
  refine .a 1 ?_;refine .eK [2,3] ?_;exact⟨x5,rfl,rfl,h⟩
 rintro _ _ ⟨x4,rfl,rfl,h⟩;rw[Ia.eq_1]at h;refine .a 3 ?_;refine .store 0 rfl rfl rfl rfl rfl rfl (.cast .here rfl) rfl (by simp[AV.size]) (by rw[Br];simp[AV.size]) rfl ?_;refine .nS [2] [0] ?_;refine .rK [2] ?_;have hr:=Option.some.inj h;subst hr;exact⟨[(.ar 1 (x4.toList.map Ab))],⟨⟨_,0,rfl,rfl,HL,(by rw[Br];simp[AV.size])⟩,trivial⟩,rfl⟩
end Go.Avl.T8
