/- Parts: TCB, TCf49, TCf21, TCf81, TCf51, TCf85, TCf87, TCf86, TCf113, TCf125, TCf139, TCf136, TCf127, TCf134, TCf133, TCf138, TCf135, TCf88. -/
import Derived.Test.YtpkgpmmcbpfenaaGreatAv3
import Derived.Test.YtpkgpmmcbpfenaaGreatProg
namespace Go.Avl.TC
open Go Go.RowKit Go.Proofs Go.Avl
set_option linter.unusedVariables false
set_option maxRecDepth 100000
set_option maxHeartbeats 4000000
structure B7 where
 f0:ByteArray
 f1:Int
 f2:ByteArray
deriving Inhabited,DecidableEq
abbrev DT (x:B7):AV:=.st [(1,(AI x.f0)),(1,(AA x.f1)),(1,(AI x.f2))]
structure A7 where
 f0:Bool
 f1:Int
deriving Inhabited,DecidableEq
abbrev Ea (x:A7):AV:=.st [(1,(AB x.f0)),(1,(AA x.f1))]
structure Dx where
 f0:Int
 f1:ByteArray
 f2:(List A7)
 f3:Bool
 f4:Int
 f5:(List Int)
deriving Inhabited,DecidableEq
abbrev Di (x:Dx):AV:=.st [(1,(AA x.f0)),(1,(AI x.f1)),(1,(.fz 2 (x.f2.map Ea))),(1,(AB x.f3)),(1,(AA x.f4)),(1,(.fz 1 (x.f5.map AA)))]
structure IX where
 f0:Int
 f1:(List Int)
deriving Inhabited,DecidableEq
abbrev IV (x:IX):AV:=.st [(1,(AA x.f0)),(1,(.fz 1 (x.f1.map AA)))]
structure A6 where
 f0:(List B7)
 f1:(List ByteArray)
 f2:(List Dx)
 f3:(List IX)
 f4:Int
deriving Inhabited,DecidableEq
abbrev BA (x:A6):AV:=.st [(1,(.fz 3 (x.f0.map DT))),(1,(.fz 1 (x.f1.map AI))),(1,(.fz 6 (x.f2.map Di))),(1,(.fz 2 (x.f3.map IV))),(1,(AA x.f4))]
structure Aa where
 f0:ByteArray
 f1:Int
 f2:Int
deriving Inhabited,DecidableEq
abbrev CN (x:Aa):AV:=.st [(1,(AI x.f0)),(1,(AA x.f1)),(1,(AA x.f2))]
abbrev Cc (v:Vector Int 4):AV:=.ar 1 (v.toList.map AL)
structure AE where
 f0:Int
 f1:(Vector Int 4)
deriving Inhabited,DecidableEq
abbrev AJ (x:AE):AV:=.st [(1,(AA x.f0)),(4,(.ar 1 (x.f1.toList.map AL)))]
abbrev EZ (l:List AE):AV:=.fz 5 (l.map AJ)
structure AR where
 f0:Int
 f1:Int
 f2:(Vector Int 4)
 f3:Bool
deriving Inhabited,DecidableEq
abbrev A9 (x:AR):AV:=.st [(1,(AA x.f0)),(1,(AA x.f1)),(4,(.ar 1 (x.f2.toList.map AL))),(1,(AB x.f3))]
structure Ay where
 f0:Int
 f1:(List AR)
 f2:Int
 f3:Int
deriving Inhabited,DecidableEq
abbrev Bg (x:Ay):AV:=.st [(1,(AA x.f0)),(1,(.fz 7 (x.f1.map A9))),(1,(AA x.f2)),(1,(AA x.f3))]
structure BD where
 f0:Ay
deriving Inhabited,DecidableEq
structure Ar where
 f0:Int
 f1:Int
deriving Inhabited,DecidableEq
abbrev Cb (x:Ar):AV:=.st [(1,(AA x.f0)),(1,(AA x.f1))]
abbrev VW (l:List (Vector Int 4)):AV:=.fz 4 (l.map Cc)
abbrev WS (v:Vector Int 256):AV:=.ar 1 (v.toList.map AY)
abbrev IC (l:List Bool):AV:=.fz 1 (l.map AB)
abbrev GY (l:List Int):AV:=.fz 1 (l.map AA)
structure B5 where
 f0:(Vector Int 256)
 f1:(List (List Int))
 f2:(List Int)
deriving Inhabited,DecidableEq
abbrev GU (x:B5):AV:=.st [(256,(.ar 1 (x.f0.toList.map AY))),(1,(.fz 1 (x.f1.map GY))),(1,(.fz 1 (x.f2.map AA)))]
structure Cw where
 f0:Ay
 f1:(List Int)
 f2:(List Int)
 f3:(List (ByteArray×Int))
 f4:(List (List Bool))
 f5:B5
deriving Inhabited,DecidableEq
structure Ca where
 f0:Int
 f1:Int
 f2:Int
deriving Inhabited,DecidableEq
abbrev GW (x:Ca):AV:=.st [(1,(AA x.f0)),(1,(AA x.f1)),(1,(AA x.f2))]
abbrev Vy (l:List (List AE)):AV:=.fz 1 (l.map EZ)
theorem C1:AX Tryz.prog 4=some 1:=by rfl
theorem TU:Ao Tryz.prog 4=some false:=by rfl
theorem DZ:AX Tryz.prog 3=some 1:=by rfl
theorem Mx:Ao Tryz.prog 3=some false:=by rfl
theorem S3:AX Tryz.prog 23=some 1:=by rfl
theorem Va:Ao Tryz.prog 23=some false:=by rfl
theorem JZ:AX Tryz.prog 9=some 1:=by rfl
theorem TK:Ao Tryz.prog 9=some false:=by rfl
theorem TI:AX Tryz.prog 22=some 1:=by rfl
theorem VQ:Ao Tryz.prog 22=some false:=by rfl
theorem K6:AX Tryz.prog 53=some 3:=by rfl
theorem UI:AX Tryz.prog 24=some 1:=by rfl
theorem Vk:Ao Tryz.prog 24=some false:=by rfl
theorem HQ:AX Tryz.prog 58=some 6:=by rfl
theorem Vs:Ao Tryz.prog 58=some true:=by rfl
theorem KB:Ah Tryz.prog 58=some (([.int .i64 0]++([.string ByteArray.empty]++([.slice none 0 0]++([.bool false]++([.int .i64 0]++([.slice none 0 0]++[]))))))):=by rfl
theorem GS:∀ g,AU g (.st [(1,(AA (0:Int))),(1,(AI ByteArray.empty)),(1,(.fl (.slice none 0 0))),(1,(AB false)),(1,(AA (0:Int))),(1,(.fl (.slice none 0 0)))]) (([.int .i64 0]++([.string ByteArray.empty]++([.slice none 0 0]++([.bool false]++([.int .i64 0]++([.slice none 0 0]++[]))))))):=fun g=>(AU.stCons (Ab rfl) rfl (AU.stCons (Ab rfl) rfl (AU.stCons (Ab rfl) rfl (AU.stCons (Ab rfl) rfl (AU.stCons (Ab rfl) rfl (AU.stCons (Ab rfl) rfl AU.stNil))))))
theorem Tn:Ao Tryz.prog 27=some true:=by rfl
theorem SB:AX Tryz.prog 27=some 5:=by rfl
theorem GZ:Ah Tryz.prog 55=some (([.bool false]++([.int .i64 0]++[]))):=by rfl
theorem EU:∀ g,AU g (.st [(1,(AB false)),(1,(AA (0:Int)))]) (([.bool false]++([.int .i64 0]++[]))):=fun g=>(AU.stCons (Ab rfl) rfl (AU.stCons (Ab rfl) rfl AU.stNil))
theorem S1:AK Tryz.prog 49:=AK.mk Tryz.func49 rfl rfl
theorem RH:AX Tryz.prog 56=some 1:=by rfl
theorem Uq:Ao Tryz.prog 56=some false:=by rfl
theorem Mb:AX Tryz.prog 55=some 2:=by rfl
theorem U5:Ao Tryz.prog 55=some true:=by rfl
theorem TN:AK Tryz.prog 81:=AK.mk Tryz.func81 rfl rfl
theorem Bq:Ah Tryz.prog 120=some ((List.replicate 4 (.int .u64 0))):=by rfl
theorem BP:∀ g,AU g (.ar 1 ((Vector.replicate 4 (0:Int)).toList.map AL)) ((List.replicate 4 (.int .u64 0))):=fun g=>(D0 (Ab rfl))
theorem BE:AX Tryz.prog 118=some 1:=by rfl
theorem BX:AX Tryz.prog 120=some 4:=by rfl
theorem Ft:Ao Tryz.prog 120=some true:=by rfl
theorem Lj:AK Tryz.prog 139:=AK.mk Tryz.func139 rfl rfl
theorem TR:AK Tryz.prog 136:=AK.mk Tryz.func136 rfl rfl
theorem Ec:Ao Tryz.prog 118=some false:=by rfl
theorem Q6:AK Tryz.prog 125:=AK.mk Tryz.func125 rfl rfl
theorem Sv:AK Tryz.prog 138:=AK.mk Tryz.func138 rfl rfl
theorem PG (x y:(Vector Int 4)):Bc Tryz.prog 2 120 (.ar 1 (x.toList.map AL)) (.ar 1 (y.toList.map AL)) (decide (x=y)):=Bc.vec (m:=1) Tryz.underlying120 (fun a b=>Bc.int Tryz.underlying118) (fun _=>Ec) (fun _=>BE) (fun _=>rfl) (by rfl) ⟨_,rfl⟩ x y
theorem Qe:Tryz.prog.eqGuardType Tryz.prog.depth 120=false:=by decide+kernel
theorem GD:AK Tryz.prog 85:=AK.mk Tryz.func85 rfl rfl
theorem J5:AK Tryz.prog 113:=AK.mk Tryz.func113 rfl rfl
theorem PE:AK Tryz.prog 127:=AK.mk Tryz.func127 rfl rfl
theorem Ss:AK Tryz.prog 134:=AK.mk Tryz.func134 rfl rfl
theorem Tl:AK Tryz.prog 133:=AK.mk Tryz.func133 rfl rfl
theorem Tq:AK Tryz.prog 135:=AK.mk Tryz.func135 rfl rfl
theorem Aw:Ah Tryz.prog 122=some (([.int .i64 0]++((List.replicate 4 (.int .u64 0))++[]))):=by rfl
theorem Au:∀ g,AU g (.st [(1,(AA (0:Int))),(4,(.ar 1 ((Vector.replicate 4 (0:Int)).toList.map AL)))]) (([.int .i64 0]++((List.replicate 4 (.int .u64 0))++[]))):=fun g=>(AU.stCons (Ab rfl) rfl (AU.stCons (D0 (Ab rfl)) rfl AU.stNil))
theorem BC:AX Tryz.prog 122=some 5:=by rfl
theorem S5:AK Tryz.prog 88:=AK.mk Tryz.func88 rfl rfl
theorem Hr:AX Tryz.prog 5=some 1:=by rfl
theorem Se:Ao Tryz.prog 5=some false:=by rfl
theorem RL:AK Tryz.prog 87:=AK.mk Tryz.func87 rfl rfl
theorem KG:AX Tryz.prog 75=some 1:=by rfl
theorem Ve:Ao Tryz.prog 75=some false:=by rfl
theorem FG:BB Tryz.prog 122=some 40:=by rfl
theorem UC:AK Tryz.prog 84:=AK.mk Tryz.func84 rfl rfl
theorem LH:Ah Tryz.prog 75=some ([.slice none 0 0]):=by rfl
theorem II:∀ g,AU g (.fl (.slice none 0 0)) ([.slice none 0 0]):=fun g=>(Ab rfl)
theorem OQ:AK Tryz.prog 86:=AK.mk Tryz.func86 rfl rfl
theorem RD:AK Tryz.prog 112:=AK.mk Tryz.func112 rfl rfl
theorem TF:AK Tryz.prog 123:=AK.mk Tryz.func123 rfl rfl
theorem Th:AK Tryz.prog 63:=AK.mk Tryz.func63 rfl rfl
theorem T3:AK Tryz.prog 126:=AK.mk Tryz.func126 rfl rfl
theorem Rv:Ah Tryz.prog 5=some ([.int .u8 0]):=by rfl
theorem MR:∀ g,AU g (AY (0:Int)) ([.int .u8 0]):=fun g=>(Ab rfl)
theorem T9:AK Tryz.prog 128:=AK.mk Tryz.func128 rfl rfl
theorem Tu:Ah Tryz.prog 110=some (([.string ByteArray.empty]++([.int .i64 0]++([.int .i64 0]++[])))):=by rfl
theorem Ra:∀ g,AU g (.st [(1,(AI ByteArray.empty)),(1,(AA (0:Int))),(1,(AA (0:Int)))]) (([.string ByteArray.empty]++([.int .i64 0]++([.int .i64 0]++[])))):=fun g=>(AU.stCons (Ab rfl) rfl (AU.stCons (Ab rfl) rfl (AU.stCons (Ab rfl) rfl AU.stNil)))
theorem Td:Ao Tryz.prog 122=some true:=by rfl
theorem Kb:AX Tryz.prog 80=some 4:=by rfl
theorem En:Ah Tryz.prog 125=some (([.int .i64 0]++([.int .i64 0]++[]))):=by rfl
theorem DY:∀ g,AU g (.st [(1,(AA (0:Int))),(1,(AA (0:Int)))]) (([.int .i64 0]++([.int .i64 0]++[]))):=fun g=>(AU.stCons (Ab rfl) rfl (AU.stCons (Ab rfl) rfl AU.stNil))
theorem Qo:AK Tryz.prog 114:=AK.mk Tryz.func114 rfl rfl
theorem CJ:AX Tryz.prog 125=some 2:=by rfl
theorem H3:Ao Tryz.prog 125=some true:=by rfl
theorem R0:AX Tryz.prog 78=some 1:=by rfl
theorem Uj:Ao Tryz.prog 78=some false:=by rfl
theorem FH:Ah Tryz.prog 127=some (([.int .i64 0]++([.int .i64 0]++((List.replicate 4 (.int .u64 0))++([.bool false]++[]))))):=by rfl
theorem Eh:∀ g,AU g (.st [(1,(AA (0:Int))),(1,(AA (0:Int))),(4,(.ar 1 ((Vector.replicate 4 (0:Int)).toList.map AL))),(1,(AB false))]) (([.int .i64 0]++([.int .i64 0]++((List.replicate 4 (.int .u64 0))++([.bool false]++[]))))):=fun g=>(AU.stCons (Ab rfl) rfl (AU.stCons (Ab rfl) rfl (AU.stCons (D0 (Ab rfl)) rfl (AU.stCons (Ab rfl) rfl AU.stNil))))
theorem Fe:AX Tryz.prog 127=some 7:=by rfl
theorem Q9:BB Tryz.prog 127=some 56:=by rfl
theorem Vf:AK Tryz.prog 89:=AK.mk Tryz.func89 rfl rfl
theorem Hu:AK Tryz.prog 90:=AK.mk Tryz.func90 rfl rfl
theorem T1:BB Tryz.prog 125=some 16:=by rfl
theorem R2:Ah Tryz.prog 80=some (([.int .i64 0]++([.slice none 0 0]++([.int .i64 0]++([.int .i64 0]++[]))))):=by rfl
theorem NM:∀ g,AU g (.st [(1,(AA (0:Int))),(1,(.fl (.slice none 0 0))),(1,(AA (0:Int))),(1,(AA (0:Int)))]) (([.int .i64 0]++([.slice none 0 0]++([.int .i64 0]++([.int .i64 0]++[]))))):=fun g=>(AU.stCons (Ab rfl) rfl (AU.stCons (Ab rfl) rfl (AU.stCons (Ab rfl) rfl (AU.stCons (Ab rfl) rfl AU.stNil))))
theorem VK:AK Tryz.prog 64:=AK.mk Tryz.func64 rfl rfl
theorem P2:Ao Tryz.prog 80=some true:=by rfl
theorem Sy:Ah Tryz.prog 116=some ((([.int .i64 0]++([.slice none 0 0]++([.int .i64 0]++([.int .i64 0]++[]))))++[])):=by rfl
theorem RU:∀ g,AU g (.st [(4,(.st [(1,(AA (0:Int))),(1,(.fl (.slice none 0 0))),(1,(AA (0:Int))),(1,(AA (0:Int)))]))]) ((([.int .i64 0]++([.slice none 0 0]++([.int .i64 0]++([.int .i64 0]++[]))))++[])):=fun g=>(AU.stCons (AU.stCons (Ab rfl) rfl (AU.stCons (Ab rfl) rfl (AU.stCons (Ab rfl) rfl (AU.stCons (Ab rfl) rfl AU.stNil)))) rfl AU.stNil)
theorem U3:AK Tryz.prog 65:=AK.mk Tryz.func65 rfl rfl
theorem S6:Ao Tryz.prog 127=some true:=by rfl
theorem TG:BB Tryz.prog 120=some 32:=by rfl
theorem Vl:BB Tryz.prog 5=some 1:=by rfl
theorem TP:AK Tryz.prog 94:=AK.mk Tryz.func94 rfl rfl
theorem UO:Ah Tryz.prog 38=some ((List.replicate 256 (.int .u8 0))):=by rfl
theorem Qi:∀ g,AU g (.ar 1 ((Vector.replicate 256 (0:Int)).toList.map AY)) ((List.replicate 256 (.int .u8 0))):=fun g=>(D0 (Ab rfl))
theorem WA:AK Tryz.prog 91:=AK.mk Tryz.func91 rfl rfl
theorem SP:Ah Tryz.prog 3=some ([.int .i64 0]):=by rfl
theorem Sb:∀ g,∃ zv,((Tryz.prog.info? 3).bind (·.zero))=some zv∧V1 g (AA (0:Int)) zv:=fun g=>⟨_,rfl,rfl⟩
theorem UE:Ao Tryz.prog 38=some true:=by rfl
theorem PV:AX Tryz.prog 38=some 256:=by rfl
theorem KS:BB Tryz.prog 4=some 1:=by rfl
theorem GV:Ah Tryz.prog 4=some ([.bool false]):=by rfl
theorem E8:∀ g,AU g (AB false) ([.bool false]):=fun g=>(Ab rfl)
theorem G3:AX Tryz.prog 40=some 1:=by rfl
theorem VC:Ao Tryz.prog 40=some false:=by rfl
theorem Tz:AK Tryz.prog 115:=AK.mk Tryz.func115 rfl rfl
theorem VO:AK Tryz.prog 92:=AK.mk Tryz.func92 rfl rfl
theorem U7:AX Tryz.prog 97=some 1:=by rfl
theorem Vm:Ao Tryz.prog 97=some false:=by rfl
theorem Sq:AX Tryz.prog 93=some 1:=by rfl
theorem Vw:Ao Tryz.prog 93=some false:=by rfl
theorem Pz:AX Tryz.prog 95=some 1:=by rfl
theorem UH:Ah Tryz.prog 95=some ([.slice none 0 0]):=by rfl
theorem UN:∀ g,AU g (.fl (.slice none 0 0)) ([.slice none 0 0]):=fun g=>(Ab rfl)
theorem Un:BB Tryz.prog 95=some 24:=by rfl
theorem EV:AX Tryz.prog 42=some 258:=by rfl
theorem U6:AK Tryz.prog 93:=AK.mk Tryz.func93 rfl rfl
theorem ND:∀ g,AU g (AA (0:Int)) ([.int .i64 0]):=fun g=>(Ab rfl)
theorem V9:BB Tryz.prog 3=some 8:=by rfl
theorem JU:Ah Tryz.prog 42=some (((List.replicate 256 (.int .u8 0))++([.slice none 0 0]++([.slice none 0 0]++[])))):=by rfl
theorem Fb:∀ g,AU g (.st [(256,(.ar 1 ((Vector.replicate 256 (0:Int)).toList.map AY))),(1,(.fl (.slice none 0 0))),(1,(.fl (.slice none 0 0)))]) (((List.replicate 256 (.int .u8 0))++([.slice none 0 0]++([.slice none 0 0]++[])))):=fun g=>(AU.stCons (D0 (Ab rfl)) rfl (AU.stCons (Ab rfl) rfl (AU.stCons (Ab rfl) rfl AU.stNil)))
theorem Tp:AK Tryz.prog 66:=AK.mk Tryz.func66 rfl rfl
theorem Io:Ao Tryz.prog 42=some true:=by rfl
theorem UG:Ah Tryz.prog 132=some ((([.int .i64 0]++([.slice none 0 0]++([.int .i64 0]++([.int .i64 0]++[]))))++([.slice none 0 0]++([.slice none 0 0]++([.map none]++([.slice none 0 0]++(((List.replicate 256 (.int .u8 0))++([.slice none 0 0]++([.slice none 0 0]++[])))++[]))))))):=by rfl
theorem R4:∀ g,AU g (.st [(4,(.st [(1,(AA (0:Int))),(1,(.fl (.slice none 0 0))),(1,(AA (0:Int))),(1,(AA (0:Int)))])),(1,(.fl (.slice none 0 0))),(1,(.fl (.slice none 0 0))),(1,(.fl (.map none))),(1,(.fl (.slice none 0 0))),(258,(.st [(256,(.ar 1 ((Vector.replicate 256 (0:Int)).toList.map AY))),(1,(.fl (.slice none 0 0))),(1,(.fl (.slice none 0 0)))]))]) ((([.int .i64 0]++([.slice none 0 0]++([.int .i64 0]++([.int .i64 0]++[]))))++([.slice none 0 0]++([.slice none 0 0]++([.map none]++([.slice none 0 0]++(((List.replicate 256 (.int .u8 0))++([.slice none 0 0]++([.slice none 0 0]++[])))++[]))))))):=fun g=>(AU.stCons (AU.stCons (Ab rfl) rfl (AU.stCons (Ab rfl) rfl (AU.stCons (Ab rfl) rfl (AU.stCons (Ab rfl) rfl AU.stNil)))) rfl (AU.stCons (Ab rfl) rfl (AU.stCons (Ab rfl) rfl (AU.stCons (Ab rfl) rfl (AU.stCons (Ab rfl) rfl (AU.stCons (AU.stCons (D0 (Ab rfl)) rfl (AU.stCons (Ab rfl) rfl (AU.stCons (Ab rfl) rfl AU.stNil))) rfl AU.stNil))))))
theorem VX:AK Tryz.prog 68:=AK.mk Tryz.func68 rfl rfl
theorem U1:AK Tryz.prog 67:=AK.mk Tryz.func67 rfl rfl
theorem LY:AX Tryz.prog 130=some 1:=by rfl
theorem Qn:Ao Tryz.prog 130=some false:=by rfl
theorem TS:AK Tryz.prog 70:=AK.mk Tryz.func70 rfl rfl
theorem T6:AK Tryz.prog 69:=AK.mk Tryz.func69 rfl rfl
theorem TB:Ao Tryz.prog 95=some false:=by rfl
theorem Uh:AK Tryz.prog 71:=AK.mk Tryz.func71 rfl rfl
theorem QE:AX Tryz.prog 39=some 1:=by rfl
theorem UF:Ao Tryz.prog 39=some false:=by rfl
theorem Tg:Ah Tryz.prog 40=some ([.slice none 0 0]):=by rfl
theorem Sw:∀ g,AU g (.fl (.slice none 0 0)) ([.slice none 0 0]):=fun g=>(Ab rfl)
theorem VG:BB Tryz.prog 40=some 24:=by rfl
theorem VY:AK Tryz.prog 39:=AK.mk Tryz.func39 rfl rfl
theorem Vj:AK Tryz.prog 36:=AK.mk Tryz.func36 rfl rfl
theorem VS:AK Tryz.prog 37:=AK.mk Tryz.func37 rfl rfl
theorem TY:AK Tryz.prog 107:=AK.mk Tryz.func107 rfl rfl
theorem Tf:AK Tryz.prog 122:=AK.mk Tryz.func122 rfl rfl
theorem TX:AK Tryz.prog 109:=AK.mk Tryz.func109 rfl rfl
theorem To:AK Tryz.prog 108:=AK.mk Tryz.func108 rfl rfl
theorem RZ:AK Tryz.prog 51:=AK.mk Tryz.func51 rfl rfl
theorem Vc:AK Tryz.prog 79:=AK.mk Tryz.func79 rfl rfl
theorem Us:AK Tryz.prog 80:=AK.mk Tryz.func80 rfl rfl
theorem VP:Ao Tryz.prog 53=some true:=by rfl
theorem Ni:Ah Tryz.prog 53=some (([.string ByteArray.empty]++([.int .i64 0]++([.string ByteArray.empty]++[])))):=by rfl
theorem Je:∀ g,AU g (.st [(1,(AI ByteArray.empty)),(1,(AA (0:Int))),(1,(AI ByteArray.empty))]) (([.string ByteArray.empty]++([.int .i64 0]++([.string ByteArray.empty]++[])))):=fun g=>(AU.stCons (Ab rfl) rfl (AU.stCons (Ab rfl) rfl (AU.stCons (Ab rfl) rfl AU.stNil)))
theorem Vr:AK Tryz.prog 50:=AK.mk Tryz.func50 rfl rfl
theorem V2:AK Tryz.prog 82:=AK.mk Tryz.func82 rfl rfl
theorem Du:Ah Tryz.prog 32=some (([.int .i64 0]++([.int .i64 0]++([.int .i64 0]++[])))):=by rfl
theorem B6:∀ g,AU g (.st [(1,(AA (0:Int))),(1,(AA (0:Int))),(1,(AA (0:Int)))]) (([.int .i64 0]++([.int .i64 0]++([.int .i64 0]++[])))):=fun g=>(AU.stCons (Ab rfl) rfl (AU.stCons (Ab rfl) rfl (AU.stCons (Ab rfl) rfl AU.stNil)))
theorem Bj:AX Tryz.prog 32=some 3:=by rfl
theorem E9:Ao Tryz.prog 32=some true:=by rfl
theorem VJ:AK Tryz.prog 52:=AK.mk Tryz.func52 rfl rfl
theorem Vx:AK Tryz.prog 53:=AK.mk Tryz.func53 rfl rfl
theorem Qd (x y:A7):Bc Tryz.prog 2 55 (Ea x) (Ea y) (decide (x=y)):=(Bc.struct (bs:=[decide (x.f0=y.f0),decide (x.f1=y.f1)]) Tryz.underlying55 (by decide+kernel) ⟨⟨rfl,(AB x.f0),(AB y.f0),(At.cast (At.fld0 At.here) rfl),(At.cast (At.fld0 At.here) rfl),TU,TU,C1,C1,(Bc.bool Tryz.underlying4)⟩,⟨rfl,(AA x.f1),(AA y.f1),(At.cast (At.fldS (At.fld0 At.here)) rfl),(At.cast (At.fldS (At.fld0 At.here)) rfl),Mx,Mx,DZ,DZ,(Bc.int Tryz.underlying3)⟩,trivial⟩).of (by cases x;cases y;simp)
theorem S4:Tryz.prog.eqGuardType Tryz.prog.depth 55=false:=by decide+kernel
theorem RR:AK Tryz.prog 54:=AK.mk Tryz.func54 rfl rfl
theorem U0:AK Tryz.prog 55:=AK.mk Tryz.func55 rfl rfl
theorem Tx:AX Tryz.prog 25=some 1:=by rfl
theorem Ui:Ao Tryz.prog 25=some false:=by rfl
theorem LC:AX Tryz.prog 61=some 2:=by rfl
theorem VM:Ao Tryz.prog 61=some true:=by rfl
theorem QI:Ah Tryz.prog 61=some (([.int .i64 0]++([.slice none 0 0]++[]))):=by rfl
theorem Lr:∀ g,AU g (.st [(1,(AA (0:Int))),(1,(.fl (.slice none 0 0)))]) (([.int .i64 0]++([.slice none 0 0]++[]))):=fun g=>(AU.stCons (Ab rfl) rfl (AU.stCons (Ab rfl) rfl AU.stNil))
theorem VI:AK Tryz.prog 22:=AK.mk Tryz.func22 rfl rfl
theorem V0:AK Tryz.prog 23:=AK.mk Tryz.func23 rfl rfl
theorem Rl:AX Tryz.prog 30=some 1:=by rfl
theorem RG:Ao Tryz.prog 30=some false:=by rfl
theorem Ux:AK Tryz.prog 24:=AK.mk Tryz.func24 rfl rfl
theorem Uz:AK Tryz.prog 25:=AK.mk Tryz.func25 rfl rfl
theorem WK:Ah Tryz.prog 9=some ([.string ByteArray.empty]):=by rfl
theorem V8:∀ g,AU g (AI ByteArray.empty) ([.string ByteArray.empty]):=fun g=>(Ab rfl)
theorem T5:Ah Tryz.prog 27=some (([.slice none 0 0]++([.slice none 0 0]++([.slice none 0 0]++([.slice none 0 0]++([.int .i64 0]++[])))))):=by rfl
theorem RB:∀ g,AU g (.st [(1,(.fl (.slice none 0 0))),(1,(.fl (.slice none 0 0))),(1,(.fl (.slice none 0 0))),(1,(.fl (.slice none 0 0))),(1,(AA (0:Int)))]) (([.slice none 0 0]++([.slice none 0 0]++([.slice none 0 0]++([.slice none 0 0]++([.int .i64 0]++[])))))):=fun g=>(AU.stCons (Ab rfl) rfl (AU.stCons (Ab rfl) rfl (AU.stCons (Ab rfl) rfl (AU.stCons (Ab rfl) rfl (AU.stCons (Ab rfl) rfl AU.stNil)))))
theorem VA:AK Tryz.prog 21:=AK.mk Tryz.func21 rfl rfl
theorem WB:AK Tryz.prog 7:=AK.mk Tryz.func7 rfl rfl
theorem TQ (x y:Ca):Bc Tryz.prog 2 32 (GW x) (GW y) (decide (x=y)):=(Bc.struct (bs:=[decide (x.f0=y.f0),decide (x.f1=y.f1),decide (x.f2=y.f2)]) Tryz.underlying32 (by decide+kernel) ⟨⟨rfl,(AA x.f0),(AA y.f0),(At.cast (At.fld0 At.here) rfl),(At.cast (At.fld0 At.here) rfl),RG,RG,Rl,Rl,(Bc.int Tryz.underlying30)⟩,⟨rfl,(AA x.f1),(AA y.f1),(At.cast (At.fldS (At.fld0 At.here)) rfl),(At.cast (At.fldS (At.fld0 At.here)) rfl),Mx,Mx,DZ,DZ,(Bc.int Tryz.underlying3)⟩,⟨rfl,(AA x.f2),(AA y.f2),(At.cast (At.fldS (At.fldS (At.fld0 At.here))) rfl),(At.cast (At.fldS (At.fldS (At.fld0 At.here))) rfl),Mx,Mx,DZ,DZ,(Bc.int Tryz.underlying3)⟩,trivial⟩).of (by cases x;cases y;simp)
theorem Vt:Tryz.prog.eqGuardType Tryz.prog.depth 32=false:=by decide+kernel
theorem V5:AK Tryz.prog 11:=AK.mk Tryz.func11 rfl rfl
theorem L0:AK Tryz.prog 110:=AK.mk Tryz.func110 rfl rfl
theorem Q4:AK Tryz.prog 111:=AK.mk Tryz.func111 rfl rfl
theorem Up:AK Tryz.prog 83:=AK.mk Tryz.func83 rfl rfl
theorem Oj:AK Tryz.prog 104:=AK.mk Tryz.func104 rfl rfl
theorem O9:AK Tryz.prog 132:=AK.mk Tryz.func132 rfl rfl
theorem TE:AK Tryz.prog 137:=AK.mk Tryz.func137 rfl rfl
theorem ON:AK Tryz.prog 131:=AK.mk Tryz.func131 rfl rfl
theorem Ji:AK Tryz.prog 119:=AK.mk Tryz.func119 rfl rfl
theorem Qc:AK Tryz.prog 129:=AK.mk Tryz.func129 rfl rfl
theorem Ql:AK Tryz.prog 102:=AK.mk Tryz.func102 rfl rfl
theorem Q8:AK Tryz.prog 118:=AK.mk Tryz.func118 rfl rfl
theorem UK:AK Tryz.prog 124:=AK.mk Tryz.func124 rfl rfl
theorem Tr:AK Tryz.prog 130:=AK.mk Tryz.func130 rfl rfl
theorem UB:AK Tryz.prog 77:=AK.mk Tryz.func77 rfl rfl
theorem Qp:AK Tryz.prog 120:=AK.mk Tryz.func120 rfl rfl
theorem UL:AK Tryz.prog 121:=AK.mk Tryz.func121 rfl rfl
theorem VN:BB Tryz.prog 75=some 24:=by rfl
theorem TJ:AK Tryz.prog 103:=AK.mk Tryz.func103 rfl rfl
theorem J6:AK Tryz.prog 78:=AK.mk Tryz.func78 rfl rfl
theorem NX:AK Tryz.prog 105:=AK.mk Tryz.func105 rfl rfl
theorem Q5:AK Tryz.prog 106:=AK.mk Tryz.func106 rfl rfl
theorem Ro:AK Tryz.prog 56:=AK.mk Tryz.func56 rfl rfl
theorem VT:AK Tryz.prog 45:=AK.mk Tryz.func45 rfl rfl
theorem Uo:AK Tryz.prog 46:=AK.mk Tryz.func46 rfl rfl
theorem Ur:AK Tryz.prog 41:=AK.mk Tryz.func41 rfl rfl
theorem RT:AK Tryz.prog 57:=AK.mk Tryz.func57 rfl rfl
theorem Vz:AK Tryz.prog 58:=AK.mk Tryz.func58 rfl rfl
theorem Vh:AK Tryz.prog 59:=AK.mk Tryz.func59 rfl rfl
theorem VR:AK Tryz.prog 13:=AK.mk Tryz.func13 rfl rfl
theorem VF:AK Tryz.prog 26:=AK.mk Tryz.func26 rfl rfl
theorem VU:AK Tryz.prog 27:=AK.mk Tryz.func27 rfl rfl
theorem Vg:AK Tryz.prog 28:=AK.mk Tryz.func28 rfl rfl
theorem Sx (x y:B7):Bc Tryz.prog 2 53 (DT x) (DT y) (decide (x=y)):=(Bc.struct (bs:=[decide (x.f0=y.f0),decide (x.f1=y.f1),decide (x.f2=y.f2)]) Tryz.underlying53 (by decide+kernel) ⟨⟨rfl,(AI x.f0),(AI y.f0),(At.cast (At.fld0 At.here) rfl),(At.cast (At.fld0 At.here) rfl),TK,TK,JZ,JZ,(Bc.str Tryz.underlying9)⟩,⟨rfl,(AA x.f1),(AA y.f1),(At.cast (At.fldS (At.fld0 At.here)) rfl),(At.cast (At.fldS (At.fld0 At.here)) rfl),Mx,Mx,DZ,DZ,(Bc.int Tryz.underlying3)⟩,⟨rfl,(AI x.f2),(AI y.f2),(At.cast (At.fldS (At.fldS (At.fld0 At.here))) rfl),(At.cast (At.fldS (At.fldS (At.fld0 At.here))) rfl),TK,TK,JZ,JZ,(Bc.str Tryz.underlying9)⟩,trivial⟩).of (by cases x;cases y;simp)
theorem Uw:Tryz.prog.eqGuardType Tryz.prog.depth 53=false:=by decide+kernel
theorem Vd:AK Tryz.prog 60:=AK.mk Tryz.func60 rfl rfl
theorem Tk:AK Tryz.prog 61:=AK.mk Tryz.func61 rfl rfl
theorem U8:AK Tryz.prog 32:=AK.mk Tryz.func32 rfl rfl
theorem VD:AK Tryz.prog 34:=AK.mk Tryz.func34 rfl rfl
theorem Ut:AK Tryz.prog 29:=AK.mk Tryz.func29 rfl rfl
theorem Vp:AK Tryz.prog 30:=AK.mk Tryz.func30 rfl rfl
theorem Uu:AK Tryz.prog 31:=AK.mk Tryz.func31 rfl rfl
theorem U2:AK Tryz.prog 33:=AK.mk Tryz.func33 rfl rfl
theorem WI:AK Tryz.prog 5:=AK.mk Tryz.func5 rfl rfl
theorem WJ:AK Tryz.prog 6:=AK.mk Tryz.func6 rfl rfl
theorem WO:AK Tryz.prog 8:=AK.mk Tryz.func8 rfl rfl
theorem WR:AK Tryz.prog 9:=AK.mk Tryz.func9 rfl rfl
instance:E4 Tryz.prog 3 false 1:=⟨Mx,DZ⟩
instance:E4 Tryz.prog 4 false 1:=⟨TU,C1⟩
instance:E4 Tryz.prog 5 false 1:=⟨Se,Hr⟩
instance:E4 Tryz.prog 9 false 1:=⟨TK,JZ⟩
instance:E4 Tryz.prog 22 false 1:=⟨VQ,TI⟩
instance:E4 Tryz.prog 23 false 1:=⟨Va,S3⟩
instance:E4 Tryz.prog 24 false 1:=⟨Vk,UI⟩
instance:E4 Tryz.prog 25 false 1:=⟨Ui,Tx⟩
instance:E4 Tryz.prog 27 true 5:=⟨Tn,SB⟩
instance:E4 Tryz.prog 30 false 1:=⟨RG,Rl⟩
instance:E4 Tryz.prog 32 true 3:=⟨E9,Bj⟩
instance:E4 Tryz.prog 38 true 256:=⟨UE,PV⟩
instance:E4 Tryz.prog 39 false 1:=⟨UF,QE⟩
instance:E4 Tryz.prog 40 false 1:=⟨VC,G3⟩
instance:E4 Tryz.prog 42 true 258:=⟨Io,EV⟩
instance:E4 Tryz.prog 53 true 3:=⟨VP,K6⟩
instance:E4 Tryz.prog 55 true 2:=⟨U5,Mb⟩
instance:E4 Tryz.prog 56 false 1:=⟨Uq,RH⟩
instance:E4 Tryz.prog 58 true 6:=⟨Vs,HQ⟩
instance:E4 Tryz.prog 61 true 2:=⟨VM,LC⟩
instance:E4 Tryz.prog 75 false 1:=⟨Ve,KG⟩
instance:E4 Tryz.prog 78 false 1:=⟨Uj,R0⟩
instance:E4 Tryz.prog 80 true 4:=⟨P2,Kb⟩
instance:E4 Tryz.prog 93 false 1:=⟨Vw,Sq⟩
instance:E4 Tryz.prog 95 false 1:=⟨TB,Pz⟩
instance:E4 Tryz.prog 97 false 1:=⟨Vm,U7⟩
instance:E4 Tryz.prog 118 false 1:=⟨Ec,BE⟩
instance:E4 Tryz.prog 120 true 4:=⟨Ft,BX⟩
instance:E4 Tryz.prog 122 true 5:=⟨Td,BC⟩
instance:E4 Tryz.prog 125 true 2:=⟨H3,CJ⟩
instance:E4 Tryz.prog 127 true 7:=⟨S6,Fe⟩
instance:E4 Tryz.prog 130 false 1:=⟨Qn,LY⟩
abbrev Z0 (a:Nat) (b:Int) (c:Nat) (d:Nat) (f:Int) (g:Int):Nat×EX:=(a,(.mem (.st [(4,(.st [(1,(AA b)),(1,(.own c 0 d)),(1,(AA f)),(1,(AA g))]))])))
abbrev Z1 (a:Nat) (b:Ay) (c:List Int) (d:List Int) (f:Nat) (g:Nat) (i:Nat) (j:List AV) (l:Nat) (m:Nat) (n:Nat) (o:Nat):Nat×EX:=(a,(.mem (.st [(4,(Bg b)),(1,(.fz 1 (c.map AA))),(1,(.fz 1 (d.map AY))),(1,(.mp f)),(1,(.own g 0 i)),(258,(.st [(256,(.ar 1 j)),(1,(.own l 0 m)),(1,(.own n 0 o))]))])))
abbrev Z2 (a:Nat) (b:Int) (c:List AR) (d:Int) (f:Int) (g:List Int) (i:List Int) (j:Nat) (l:Nat) (m:Nat) (n:List AV) (o:Nat) (p:Nat) (q:Nat) (s:Nat):Nat×EX:=(a,(.mem (.st [(4,(.st [(1,(AA b)),(1,(.fz 7 (c.map A9))),(1,(AA d)),(1,(AA f))])),(1,(.fz 1 (g.map AA))),(1,(.fz 1 (i.map AY))),(1,(.mp j)),(1,(.own l 0 m)),(258,(.st [(256,(.ar 1 n)),(1,(.own o 0 p)),(1,(.own q 0 s))]))])))
abbrev Z3 (a:List AV):AV:=(.st [(256,(.ar 1 a)),(1,(.fl (.slice none 0 0))),(1,(.fl (.slice none 0 0)))])
abbrev Z4 (a:Nat) (b:List Ar):Nat×EX:=(a,(.mem (.ar 2 (b.map Cb))))
abbrev Z5 (a:Nat) (b:List AR):Nat×EX:=(a,(.mem (.ar 7 (b.map A9))))
abbrev Z6 (a:Int):AV:=(.st [(1,(AA a)),(1,(.fl (.slice none 0 0))),(1,(AA a)),(1,(AA a))])
abbrev Z7 (a:List Int):EX:=(.mem (.ar 1 (a.map AA)))
abbrev Z8 (a:Nat) (b:List (List Int)):Nat×EX:=(a,(.mem (.ar 1 (b.map GY))))
abbrev Z9 (a:Nat) (b:List (List Bool)):Nat×EX:=(a,(.mem (.ar 1 (b.map IC))))
abbrev Cy (a:Nat) (b:List Bool):Nat×EX:=(a,(.mem (.ar 1 (b.map AB))))
abbrev BK (a:List AE):AV:=(.fz 5 (a.map AJ))
abbrev Lt (a:Int) (b:Int) (c:Int):AV:=(.st [(1,(AA a)),(1,(AA b)),(1,(AA c))])
abbrev IB (a:Nat) (b:ByteArray) (c:Int) (d:Int):Nat×EX:=(a,(.mem (.st [(1,(AI b)),(1,(AA c)),(1,(AA d))])))
abbrev Ba (a:Nat) (b:List AV):Nat×EX:=(a,(.mem (.ar 1 b)))
abbrev Hy (a:Int):EX:=(.mem (.st [(1,(AA a)),(1,(AA a))]))
abbrev Bb (a:Nat) (b:Ar):Nat×EX:=(a,(.mem (Cb b)))
abbrev Ff (a:Int) (b:List AV):AV:=(.st [(1,(AA a)),(4,(.ar 1 b))])
abbrev Kv (a:Nat) (b:Int):Nat×EX:=(a,(.mem (Lt b b b)))
abbrev EI (a:Nat) (b:Aa):Nat×EX:=(a,(.mem (CN b)))
abbrev FO (a:List AE):AV:=(nz 5 (a.map AJ))
abbrev Gy (a:List Int):AV:=(.fz 1 (a.map AA))
abbrev Uf (a:Ay) (b:List Int) (c:Nat) (d:Nat) (f:Nat) (g:List AV):EX:=(.mem (.st [(4,(Bg a)),(1,(.fz 1 (b.map AA))),(1,(.own c 0 d)),(1,(.mp f)),(1,(.fl (.slice none 0 0))),(258,(Z3 g))]))
abbrev S7 (a:List AV) (b:List (List Int)):AV:=(.st [(256,(.ar 1 a)),(1,(.fz 1 (b.map GY))),(1,(.fl (.slice none 0 0)))])
abbrev FW (a:Nat) (b:List AV):Nat×EX:=(a,(.mem (Z3 b)))
abbrev KP (a:List Bool):AV:=(.fz 1 (a.map AB))
abbrev PS (a:Nat) (b:List Int):Nat×EX:=(a,(.mem (.ar 1 (b.map AY))))
end Go.Avl.TC
namespace Go.Avl.TC
open Go Go.RowKit Go.Proofs Go.Avl
set_option linter.unusedVariables false
set_option maxRecDepth 100000
set_option maxHeartbeats 4000000
attribute [local irreducible] AW AO AQ AM Al AG
def Ud (k:Nat) (p0:A6) (p1:A7):Option ByteArray:=
 Option.bind (α:=Bool) (if p1.f0=true then if(0:Int)≤p1.f1 then some (decide (p1.f1<(p0.f1.length:Int)))
 else some (false)
 else some (false)) fun b5=>
 if b5=true then if 0≤p1.f1∧p1.f1<(p0.f1.length:Int)then some ((AC p0.f1 p1.f1))
 else none
 else Option.bind (α:=Bool) (if(!p1.f0)=true then if(0:Int)≤p1.f1 then some (decide (p1.f1<(p0.f0.length:Int)))
 else some (false)
 else some (false)) fun b11=>
 if b11=true then if 0≤p1.f1∧p1.f1<(p0.f0.length:Int)then some ((AC p0.f0 p1.f1).f0)
 else none
 else some ((ByteArray.mk #[63]))
theorem KC {k:Nat} {p0:A6} {p1:A7} {r:ByteArray} (h:Ud k p0 p1=some r):AM Tryz.prog 49 [(BA p0),(Ea p1)] (AI r):=by
 rw[Ud.eq_1]at h;refine AM.intro (res:=[.tmp 4]) Tryz.func49 rfl rfl rfl (Nat.le_of_ble_eq_true rfl) ?_;refine .sr ?_;refine .box rfl 2 rfl (by decide) rfl rfl rfl fun n3=>?_;refine .box rfl 3 rfl (by decide) rfl rfl rfl fun n4=>?_;refine .a 1 ?_;refine .nS [2,3] [1,0] ?_;refine .a 3 ?_;obtain⟨b5,q6,h⟩:=ob h;refine .regM [(2,(.ptr n3 0)),(3,(.ptr n4 0)),(5,(AB b5))] [(n3,(.mem (BA p0))),(n4,(.mem (Ea p1)))] ?_ ?_
 ·refine .a 3 ?_;rcases oi q6 with⟨c7,q6⟩|⟨c7,q6⟩
  ·refine .a 5 ?_;rcases oi q6 with⟨c8,q6⟩|⟨c8,q6⟩
   ·refine .a 8 ?_;cases q6;refine .nilE ⟨rfl,rfl⟩ ?_ ?_
    ·exact⟨rfl,rfl,rfl,trivial⟩
    exact(.refl _)
   refine .a 8 ?_;cases q6;refine .nilE ⟨rfl,rfl⟩ ?_ ?_
   ·exact⟨rfl,rfl,rfl,trivial⟩
   exact(.refl _)
  refine .a 13 ?_;cases q6;refine .nilE ⟨rfl,rfl⟩ ?_ ?_
  ·exact⟨rfl,rfl,rfl,trivial⟩
  exact(.refl _)
 rcases oi h with⟨c9,h⟩|⟨c9,h⟩
 ·refine .a 7 ?_;obtain⟨g10,h⟩:=AD h;refine .a 3 ?_;refine .nS [4] [] ?_;refine .rK [4] ?_;cases h;exact⟨[(AI (AC p0.f1 p1.f1))],⟨rfl,rfl,trivial⟩,rfl⟩
 refine .a 2 ?_;obtain⟨b11,q12,h⟩:=ob h;refine .regM [(2,(.ptr n3 0)),(3,(.ptr n4 0)),(27,(AB b11))] [(n3,(.mem (BA p0))),(n4,(.mem (Ea p1)))] ?_ ?_
 ·refine .a 4 ?_;rcases oi q12 with⟨c13,q12⟩|⟨c13,q12⟩
  ·refine .a 5 ?_;rcases oi q12 with⟨c14,q12⟩|⟨c14,q12⟩
   ·refine .a 8 ?_;cases q12;refine .nilE ⟨rfl,rfl⟩ ?_ ?_
    ·exact⟨rfl,rfl,rfl,trivial⟩
    exact(.refl _)
   refine .a 8 ?_;cases q12;refine .nilE ⟨rfl,rfl⟩ ?_ ?_
   ·exact⟨rfl,rfl,rfl,trivial⟩
   exact(.refl _)
  refine .a 13 ?_;cases q12;refine .nilE ⟨rfl,rfl⟩ ?_ ?_
  ·exact⟨rfl,rfl,rfl,trivial⟩
  exact(.refl _)
 rcases oi h with⟨c15,h⟩|⟨c15,h⟩
 ·refine .a 7 ?_;obtain⟨g16,h⟩:=AD h;refine .a 1 ?_;refine .c (.fldRp rfl rfl Tryz.underlying53 rfl JZ (.cast (.fld0 .here) rfl)) ?_;refine .a 2 ?_;refine .nS [4] [] ?_;refine .rK [4] ?_;cases h;exact⟨[(AI ((AC p0.f0 p1.f1).f0))],⟨rfl,rfl,trivial⟩,rfl⟩
 refine .a 1 ?_;refine .sH [] (H':=[]) (.nil _) ?_;refine .a 3 ?_;refine .nK [4] ?_;refine .rK [4] ?_;cases h;exact⟨[(AI (ByteArray.mk #[63]))],⟨rfl,rfl,trivial⟩,rfl⟩
def Kw (k:Nat) (x14:ByteArray):Option ByteArray:=
 some (x14)
def GL (k:Nat) (p0:A6) (p1:Int):Nat→ByteArray→Int→Option ByteArray
 | 0,_,_=>none
 | j+1,x15,x16=>
   if x16<(((AC p0.f2 p1).f2).length:Int)then if 0≤x16∧x16<(((AC p0.f2 p1).f2).length:Int)then(Ud k p0 (AC ((AC p0.f2 p1).f2) x16)).bind fun t22=>
   if(ByteArray.mk #[32]).size+t22.size≤9223372036854775807 then if x15.size+((ByteArray.mk #[32])++t22).size≤9223372036854775807 then(GL k p0 p1 j) (x15++((ByteArray.mk #[32])++t22)) (AH (x16+(1:Int)))
   else none
   else none
   else none
   else Kw k x15
def Ul (k:Nat) (p0:A6) (p1:Int):Option ByteArray:=
 Option.bind (α:=Bool) (if p1<(0:Int)then some (true)
 else some (decide ((p0.f2.length:Int)≤p1))) fun b4=>
 if b4=true then some ((ByteArray.mk #[]))
 else if 0≤p1∧p1<(p0.f2.length:Int)then(Ud k p0 (A7.mk true ((AC p0.f2 p1).f0))).bind fun t10=>
 if t10.size+(ByteArray.mk #[46]).size≤9223372036854775807 then if(t10++(ByteArray.mk #[46])).size+((AC p0.f2 p1).f1).size≤9223372036854775807 then if((t10++(ByteArray.mk #[46]))++((AC p0.f2 p1).f1)).size+(ByteArray.mk #[32,61]).size≤9223372036854775807 then GL k p0 p1 k (((t10++(ByteArray.mk #[46]))++((AC p0.f2 p1).f1))++(ByteArray.mk #[32,61])) (0:Int)
 else none
 else none
 else none
 else none
theorem OP {k:Nat} {p0:A6} {p1:Int} {r:ByteArray} (h:Ul k p0 p1=some r):AM Tryz.prog 21 [(BA p0),(AA p1)] (AI r):=by
 rw[Ul.eq_1]at h;refine AM.intro (res:=[.tmp 4]) Tryz.func21 rfl rfl rfl (Nat.le_of_ble_eq_true rfl) ?_;refine .sr ?_;refine .box rfl 2 rfl (by decide) rfl rfl rfl fun n3=>?_;refine .a 4 ?_;obtain⟨b4,q5,h⟩:=ob h;refine .regM [(1,(AA p1)),(2,(.ptr n3 0)),(17,(AB b4))] [(n3,(.mem (BA p0)))] ?_ ?_
 ·refine .a 3 ?_;rcases oi q5 with⟨c6,q5⟩|⟨c6,q5⟩
  ·refine .a 6 ?_;cases q5;refine .nilE ⟨rfl,rfl⟩ ?_ ?_
   ·exact⟨rfl,rfl,rfl,trivial⟩
   exact(.refl _)
  refine .a 6 ?_;cases q5;refine .nilE ⟨rfl,rfl⟩ ?_ ?_
  ·exact⟨rfl,rfl,rfl,trivial⟩
  exact(.refl _)
 rcases oi h with⟨c7,h⟩|⟨c7,h⟩
 ·refine .a 4 ?_;refine .nS [4] [] ?_;refine .rK [4] ?_;cases h;exact⟨[(AI (ByteArray.mk #[]))],⟨rfl,rfl,trivial⟩,rfl⟩
 refine .a 7 ?_;obtain⟨g8,h⟩:=AD h;refine .a 2 ?_;refine .alloc rfl 5 rfl (by decide) rfl KB GS fun n9=>?_;refine .store 0 rfl rfl rfl rfl rfl rfl (.cast .here rfl) rfl rfl HQ rfl ?_;refine .nS [2,5] [1,0] ?_;refine .seq ?_;refine .regQ (by rfl) (by decide+kernel) ?_;refine .a 3 ?_;refine .c (x:=(.st [(1,(AB true)),(1,(AA ((AC p0.f2 p1).f0)))])) (.build (qs:=[(0,(AB true)),(1,(AA ((AC p0.f2 p1).f0)))]) rfl ⟨rfl,rfl,rfl,rfl,rfl,rfl,trivial⟩ Tryz.underlying55 rfl GZ EU (.cons rfl rfl rfl rfl (.cast (.fld0 .here) rfl) (.cons rfl rfl rfl rfl (.cast (.fldS (.fld0 .here)) rfl) .nil)) rfl) ?_;obtain⟨t10,et10,h⟩:=ob h;refine .c (.call (args:=[(BA p0),(Ea (A7.mk true ((AC p0.f2 p1).f0)))]) rfl rfl S1 ⟨rfl,rfl,rfl,rfl,trivial⟩ rfl (KC et10)) ?_;obtain⟨g11,h⟩:=AD h;refine .c (x:=AI (t10++(ByteArray.mk #[46]))) (.cat rfl rfl rfl g11) ?_;refine .a 2 ?_;obtain⟨g12,h⟩:=AD h;refine .c (x:=AI ((t10++(ByteArray.mk #[46]))++((AC p0.f2 p1).f1))) (.cat rfl rfl rfl g12) ?_;obtain⟨g13,h⟩:=AD h;refine .c (x:=AI (((t10++(ByteArray.mk #[46]))++((AC p0.f2 p1).f1))++(ByteArray.mk #[32,61]))) (.cat rfl rfl rfl g13) ?_;refine .a 1 ?_;refine .nK [2,5,6] ?_;refine .seq_mid (fun ρ H=>∃ (x14:ByteArray),ρ=[(6,(AI x14))]∧H=[]∧Kw k x14=some r) ?_ ?_
 ·refine .a 6 ?_;refine .nS [2,6,34,35,36] [0] ?_;refine .a 1 ?_;refine .wK [2,6,34,35,36] ?_;refine .loop (fun kq ρ H=>∃ (x15:ByteArray) (x16:Int),ρ=[(2,(.ptr n3 0)),(6,(AI x15)),(34,(.fz 2 (((AC p0.f2 p1).f2).map Ea))),(35,(AA (((AC p0.f2 p1).f2).length:Int))),(36,(AA x16))]∧H=[(n3,(.mem (BA p0)))]∧GL k p0 p1 kq x15 x16=some r) k ⟨(((t10++(ByteArray.mk #[46]))++((AC p0.f2 p1).f1))++(ByteArray.mk #[32,61])),(0:Int),rfl,rfl,h⟩ ?_;rintro kq18 _ _ ⟨x15,x16,rfl,rfl,h⟩
  cases kq18 with
  | zero=>rw[GL.eq_1]at h;cases h
  | succ kq18=>
  rw[GL.eq_2]at h;generalize hrec17:GL k p0 p1 kq18=rec17 at h;refine .a 5 ?_;rcases oi h with⟨c19,h⟩|⟨c19,h⟩
  ·refine .a 6 ?_;obtain⟨g20,h⟩:=AD h;refine .a 2 ?_;refine .alloc rfl 8 rfl (by decide) rfl GZ EU fun n21=>?_;refine .store 0 rfl rfl rfl rfl rfl rfl (.cast .here rfl) rfl rfl Mb rfl ?_;refine .nS [2,6,8,34,35,36] [1,0] ?_;refine .a 4 ?_;obtain⟨t22,et22,h⟩:=ob h;refine .callS [(BA p0),(Ea (AC ((AC p0.f2 p1).f2) x16))] (AI t22) 43 rfl (by decide) S1 rfl rfl rfl ⟨rfl,rfl,rfl,rfl,trivial⟩ (KC et22) ?_;obtain⟨g23,h⟩:=AD h;refine .c (x:=AI ((ByteArray.mk #[32])++t22)) (.cat rfl rfl rfl g23) ?_;obtain⟨g24,h⟩:=AD h;refine .c (x:=AI (x15++((ByteArray.mk #[32])++t22))) (.cat rfl rfl rfl g24) ?_;refine .a 1 ?_;refine .nS [2,6,34,35,36] [0] ?_;refine .a 3 ?_;refine .nK [2,6,34,35,36] ?_;exact⟨kq18,Nat.lt_succ_self _,(x15++((ByteArray.mk #[32])++t22)),(AH (x16+(1:Int))),rfl,rfl,by rw[hrec17];exact h⟩
  refine .a 1 ?_;refine .eH [6] (H':=[]) (.nil _) ?_;exact⟨x15,rfl,rfl,h⟩
 rintro _ _ ⟨x14,rfl,rfl,h⟩;rw[Kw.eq_1]at h;refine .a 4 ?_;refine .nK [4] ?_;refine .rK [4] ?_;have hr:=Option.some.inj h;subst hr;exact⟨[(AI x14)],⟨rfl,rfl,trivial⟩,rfl⟩
def Kj (k:Nat):Option Int:=
 some ((0:Int))
def Kr (k:Nat):Option Int:=
 some ((4:Int))
def G5 (k:Nat):Option Int:=
 some ((3:Int))
def Ka (k:Nat):Option Int:=
 some ((2:Int))
def Kz (k:Nat):Option Int:=
 some ((1:Int))
def El (k:Nat) (p0:Int) (b2:Bool):Option Int:=
 if b2=true then Kz k
 else Option.bind (α:=Bool) (if(48:Int)≤p0 then some (decide (p0≤(57:Int)))
 else some (false)) fun b4=>
 if b4=true then Ka k
 else Option.bind (α:=Bool) (if(97:Int)≤p0 then some (decide (p0≤(122:Int)))
 else some (false)) fun b8=>
 if b8=true then G5 k
 else Option.bind (α:=Bool) (if(65:Int)≤p0 then some (decide (p0≤(90:Int)))
 else some (false)) fun b12=>
 if b12=true then G5 k
 else if p0=(95:Int)then G5 k
 else Option.bind (α:=Bool) (if(32:Int)<p0 then some (decide (p0≤(126:Int)))
 else some (false)) fun b17=>
 if b17=true then Kr k
 else Kj k
def P4 (k:Nat) (p0:Int):Option Int:=
 if p0=(32:Int)then El k p0 (decide (p0=(32:Int)))
 else if p0=(9:Int)then El k p0 (decide (p0=(9:Int)))
 else if p0=(10:Int)then El k p0 (decide (p0=(10:Int)))
 else El k p0 (decide (p0=(13:Int)))
theorem Jc {k:Nat} {p0:Int} {r:Int} (h:P4 k p0=some r):AM Tryz.prog 81 [(AY p0)] (AA r):=by
 rw[P4.eq_1]at h;refine AM.intro (res:=[.tmp 2]) Tryz.func81 rfl rfl rfl (Nat.le_of_ble_eq_true rfl) ?_;refine .a 3 ?_;refine .nK [0] ?_;refine .seq_mid (fun ρ H=>ρ=[]∧H=[]∧Kj k=some r) ?_ ?_
 ·refine .a 1 ?_;refine .seq_mid (fun ρ H=>ρ=[]∧H=[]∧Kr k=some r) ?_ ?_
  ·refine .a 1 ?_;refine .seq_mid (fun ρ H=>ρ=[]∧H=[]∧G5 k=some r) ?_ ?_
   ·refine .a 3 ?_;refine .seq_mid (fun ρ H=>ρ=[]∧H=[]∧Ka k=some r) ?_ ?_
    ·refine .a 1 ?_;refine .seq_mid (fun ρ H=>ρ=[]∧H=[]∧Kz k=some r) ?_ ?_
     ·refine .a 3 ?_;refine .seq_mid (fun ρ H=>∃ (b2:Bool),ρ=[(0,(AY p0)),(3,(AB b2))]∧H=[]∧El k p0 b2=some r) ?_ ?_
      ·refine .a 6 ?_;rcases oi h with⟨c21,h⟩|⟨c21,h⟩
       ·refine .a 1 ?_;refine .sK [0,3] ?_;exact⟨decide (p0=(32:Int)),rfl,rfl,h⟩
       refine .a 7 ?_;rcases oi h with⟨c22,h⟩|⟨c22,h⟩
       ·refine .a 1 ?_;refine .sK [0,3] ?_;exact⟨decide (p0=(9:Int)),rfl,rfl,h⟩
       refine .a 7 ?_;rcases oi h with⟨c23,h⟩|⟨c23,h⟩
       ·refine .a 1 ?_;refine .sK [0,3] ?_;exact⟨decide (p0=(10:Int)),rfl,rfl,h⟩
       refine .a 5 ?_;refine .nK [0,3] ?_;exact⟨decide (p0=(13:Int)),rfl,rfl,h⟩
      rintro _ _ ⟨b2,rfl,rfl,h⟩;rw[El.eq_1]at h;rcases oi h with⟨c3,h⟩|⟨c3,h⟩
      ·refine .a 1 ?_;refine .eK [] ?_;exact⟨rfl,rfl,h⟩
      refine .a 4 ?_;obtain⟨b4,q5,h⟩:=ob h;refine .regM [(0,(AY p0)),(12,(AB b4))] [] ?_ ?_
      ·refine .a 3 ?_;rcases oi q5 with⟨c6,q5⟩|⟨c6,q5⟩
       ·refine .a 4 ?_;cases q5;refine .nilE ⟨rfl,rfl⟩ ?_ ?_
        ·exact⟨rfl,rfl,trivial⟩
        exact(.refl _)
       refine .a 4 ?_;cases q5;refine .nilE ⟨rfl,rfl⟩ ?_ ?_
       ·exact⟨rfl,rfl,trivial⟩
       exact(.refl _)
      rcases oi h with⟨c7,h⟩|⟨c7,h⟩
      ·refine .a 1 ?_;refine .eK [] ?_;exact⟨rfl,rfl,h⟩
      refine .a 4 ?_;obtain⟨b8,q9,h⟩:=ob h;refine .regM [(0,(AY p0)),(19,(AB b8))] [] ?_ ?_
      ·refine .a 3 ?_;rcases oi q9 with⟨c10,q9⟩|⟨c10,q9⟩
       ·refine .a 4 ?_;cases q9;refine .nilE ⟨rfl,rfl⟩ ?_ ?_
        ·exact⟨rfl,rfl,trivial⟩
        exact(.refl _)
       refine .a 4 ?_;cases q9;refine .nilE ⟨rfl,rfl⟩ ?_ ?_
       ·exact⟨rfl,rfl,trivial⟩
       exact(.refl _)
      rcases oi h with⟨c11,h⟩|⟨c11,h⟩
      ·refine .a 1 ?_;refine .eK [] ?_;exact⟨rfl,rfl,h⟩
      refine .a 4 ?_;obtain⟨b12,q13,h⟩:=ob h;refine .regM [(0,(AY p0)),(26,(AB b12))] [] ?_ ?_
      ·refine .a 3 ?_;rcases oi q13 with⟨c14,q13⟩|⟨c14,q13⟩
       ·refine .a 4 ?_;cases q13;refine .nilE ⟨rfl,rfl⟩ ?_ ?_
        ·exact⟨rfl,rfl,trivial⟩
        exact(.refl _)
       refine .a 4 ?_;cases q13;refine .nilE ⟨rfl,rfl⟩ ?_ ?_
       ·exact⟨rfl,rfl,trivial⟩
       exact(.refl _)
      rcases oi h with⟨c15,h⟩|⟨c15,h⟩
      ·refine .a 1 ?_;refine .eK [] ?_;exact⟨rfl,rfl,h⟩
      refine .a 9 ?_;rcases oi h with⟨c16,h⟩|⟨c16,h⟩
      ·refine .a 1 ?_;refine .eK [] ?_;exact⟨rfl,rfl,h⟩
      refine .a 3 ?_;obtain⟨b17,q18,h⟩:=ob h;refine .regM [(36,(AB b17))] [] ?_ ?_
      ·refine .a 3 ?_;rcases oi q18 with⟨c19,q18⟩|⟨c19,q18⟩
       ·refine .a 4 ?_;cases q18;refine .nilE ⟨rfl,rfl⟩ ?_ ?_
        ·exact⟨rfl,trivial⟩
        exact(.refl _)
       refine .a 4 ?_;cases q18;refine .nilE ⟨rfl,rfl⟩ ?_ ?_
       ·exact⟨rfl,trivial⟩
       exact(.refl _)
      rcases oi h with⟨c20,h⟩|⟨c20,h⟩
      ·refine .a 1 ?_;refine .eK [] ?_;exact⟨rfl,rfl,h⟩
      refine .a 1 ?_;refine .sK [] ?_;refine .eK [] ?_;exact⟨rfl,rfl,h⟩
     rintro _ _ ⟨rfl,rfl,h⟩;rw[Kz.eq_1]at h;refine .a 4 ?_;refine .nK [2] ?_;refine .rK [2] ?_;cases h;exact⟨[(AA (1:Int))],⟨rfl,rfl,trivial⟩,rfl⟩
    rintro _ _ ⟨rfl,rfl,h⟩;rw[Ka.eq_1]at h;refine .a 4 ?_;refine .nK [2] ?_;refine .rK [2] ?_;cases h;exact⟨[(AA (2:Int))],⟨rfl,rfl,trivial⟩,rfl⟩
   rintro _ _ ⟨rfl,rfl,h⟩;rw[G5.eq_1]at h;refine .a 4 ?_;refine .nK [2] ?_;refine .rK [2] ?_;cases h;exact⟨[(AA (3:Int))],⟨rfl,rfl,trivial⟩,rfl⟩
  rintro _ _ ⟨rfl,rfl,h⟩;rw[Kr.eq_1]at h;refine .a 4 ?_;refine .nK [2] ?_;refine .rK [2] ?_;cases h;exact⟨[(AA (4:Int))],⟨rfl,rfl,trivial⟩,rfl⟩
 rintro _ _ ⟨rfl,rfl,h⟩;rw[Kj.eq_1]at h;refine .a 3 ?_;refine .nK [2] ?_;refine .rK [2] ?_;cases h;exact⟨[(AA (0:Int))],⟨rfl,rfl,trivial⟩,rfl⟩
def K7 (k:Nat):Option Bool:=
 some (true)
def Bn (k:Nat) (p0:ByteArray):Nat→Int→Option Bool
 | 0,_=>none
 | j+1,x9=>
   if x9<(p0.size:Int)then if 0≤x9∧x9<(p0.size:Int)then(P4 k (AF p0 x9)).bind fun t14=>
   Option.bind (α:=Bool) (if t14≠(2:Int)then some (decide (t14≠(3:Int)))
   else some (false)) fun b15=>
   if b15=true then some (false)
   else(Bn k p0 j) (AH (x9+(1:Int)))
   else none
   else K7 k
def Mz (k:Nat) (p0:ByteArray):Option Bool:=
 Option.bind (α:=Bool) (if(40:Int)<(p0.size:Int)then some (true)
 else if p0=(ByteArray.mk #[])then some (true)
 else if 0≤(0:Int)∧(0:Int)<(p0.size:Int)then(P4 k (AF p0 (0:Int))).bind fun t7=>
 some (decide (t7≠(3:Int)))
 else none) fun b2=>
 if b2=true then some (false)
 else Bn k p0 k (0:Int)
theorem Hp {k:Nat} {p0:ByteArray} {r:Bool} (h:Mz k p0=some r):AM Tryz.prog 51 [(AI p0)] (AB r):=by
 rw[Mz.eq_1]at h;refine AM.intro (res:=[.tmp 2]) Tryz.func51 rfl rfl rfl (Nat.le_of_ble_eq_true rfl) ?_;refine .a 6 ?_;obtain⟨b2,q3,h⟩:=ob h;refine .regM [(0,(AI p0)),(17,(AB b2))] [] ?_ ?_
 ·refine .a 4 ?_;rcases oi q3 with⟨c4,q3⟩|⟨c4,q3⟩
  ·refine .a 9 ?_;cases q3;refine .nilE ⟨rfl,rfl⟩ ?_ ?_
   ·exact⟨rfl,rfl,trivial⟩
   exact(.refl _)
  refine .a 4 ?_;rcases oi q3 with⟨c5,q3⟩|⟨c5,q3⟩
  ·refine .a 5 ?_;cases q3;refine .nilE ⟨rfl,rfl⟩ ?_ ?_
   ·exact⟨rfl,rfl,trivial⟩
   exact(.refl _)
  refine .a 1 ?_;obtain⟨g6,q3⟩:=AD q3;refine .a 1 ?_;obtain⟨t7,et7,q3⟩:=ob q3;refine .callG 7 false 12 [(AY (AF p0 (0:Int)))] (AA t7) 15 rfl (by decide) TN rfl rfl (bD (decide_eq_false c5)) rfl rfl ⟨rfl,rfl,trivial⟩ (Jc et7) ?_;refine .a 2 ?_;cases q3;refine .nilE ⟨rfl,rfl⟩ ?_ ?_
  ·exact⟨rfl,rfl,trivial⟩
  exact(.refl _)
 rcases oi h with⟨c8,h⟩|⟨c8,h⟩
 ·refine .a 4 ?_;refine .nK [2] ?_;refine .rK [2] ?_;have hr:=Option.some.inj h;subst hr;exact⟨[(AB false)],⟨rfl,rfl,trivial⟩,rfl⟩
 refine .a 1 ?_;refine .sK [0] ?_;refine .seq_mid (fun ρ H=>ρ=[]∧H=[]∧K7 k=some r) ?_ ?_
 ·refine .a 7 ?_;refine .wK [0,19,20] ?_;refine .loop (fun kq ρ H=>∃ (x9:Int),ρ=[(0,(AI p0)),(19,(AA (p0.size:Int))),(20,(AA x9))]∧H=[]∧Bn k p0 kq x9=some r) k ⟨(0:Int),rfl,rfl,h⟩ ?_;rintro kq11 _ _ ⟨x9,rfl,rfl,h⟩
  cases kq11 with
  | zero=>rw[Bn.eq_1]at h;cases h
  | succ kq11=>
  rw[Bn.eq_2]at h;generalize hrec10:Bn k p0 kq11=rec10 at h;refine .a 5 ?_;rcases oi h with⟨c12,h⟩|⟨c12,h⟩
  ·refine .a 13 ?_;obtain⟨g13,h⟩:=AD h;refine .a 1 ?_;obtain⟨t14,et14,h⟩:=ob h;refine .callS [(AY (AF p0 x9))] (AA t14) 26 rfl (by decide) TN rfl rfl rfl ⟨rfl,rfl,trivial⟩ (Jc et14) ?_;refine .a 3 ?_;obtain⟨b15,q16,h⟩:=ob h;refine .regM [(0,(AI p0)),(19,(AA (p0.size:Int))),(20,(AA x9)),(32,(AB b15))] [] ?_ ?_
   ·refine .a 3 ?_;rcases oi q16 with⟨c17,q16⟩|⟨c17,q16⟩
    ·refine .a 3 ?_;cases q16;refine .nilE ⟨rfl,rfl⟩ ?_ ?_
     ·exact⟨rfl,rfl,rfl,rfl,trivial⟩
     exact(.refl _)
    refine .a 3 ?_;cases q16;refine .nilE ⟨rfl,rfl⟩ ?_ ?_
    ·exact⟨rfl,rfl,rfl,rfl,trivial⟩
    exact(.refl _)
   rcases oi h with⟨c18,h⟩|⟨c18,h⟩
   ·refine .a 4 ?_;refine .nK [2] ?_;refine .rK [2] ?_;have hr:=Option.some.inj h;subst hr;exact⟨[(AB false)],⟨rfl,rfl,trivial⟩,rfl⟩
   refine .a 5 ?_;refine .nK [0,19,20] ?_;exact⟨kq11,Nat.lt_succ_self _,(AH (x9+(1:Int))),rfl,rfl,by rw[hrec10];exact h⟩
  refine .a 1 ?_;refine .eK [] ?_;exact⟨rfl,rfl,h⟩
 rintro _ _ ⟨rfl,rfl,h⟩;rw[K7.eq_1]at h;refine .a 3 ?_;refine .nK [2] ?_;refine .rK [2] ?_;have hr:=Option.some.inj h;subst hr;exact⟨[(AB true)],⟨rfl,rfl,trivial⟩,rfl⟩
def Hw (k:Nat) (p0:Aa) (p1:Int):Option (Bool×Aa):=
 Option.bind (α:=Bool) (if p0.f1<(p0.f0.size:Int)then if 0≤p0.f1∧p0.f1<(p0.f0.size:Int)then some (decide ((AF p0.f0 p0.f1)=p1))
 else none
 else some (false)) fun b3=>
 if b3=true then some (true,(Aa.mk p0.f0 (AH (p0.f1+(1:Int))) p0.f2))
 else some (false,p0)
theorem BQ {k:Nat} {p0:Aa} {p1:Int} {r:(Bool×Aa)} (h:Hw k p0 p1=some r) {q0:Nat} {T0:AN}:Al Tryz.prog 85 [(.ptr q0 0),(AY p1)] ((q0,(.mem (CN p0)))::T0) (fun x H'=>x=(AB r.1)∧BS ((q0,(.mem (CN r.2)))::T0) H'):=by
 rw[Hw.eq_1]at h;refine Al.intro (res:=[.tmp 4]) Tryz.func85 rfl rfl rfl (Nat.le_of_ble_eq_true rfl) ?_;refine .a 6 ?_;obtain⟨b3,q4,h⟩:=ob h;refine .regQM (by rfl) (by decide+kernel) [(0,(.ptr q0 0)),(27,(AB b3))] ?_ ?_
 ·refine .a 11 ?_;rcases oi q4 with⟨c5,q4⟩|⟨c5,q4⟩
  ·refine .a 8 ?_;obtain⟨g6,q4⟩:=AD q4;refine .a 4 ?_;cases q4;refine .nilE rfl ?_;exact⟨rfl,rfl,trivial⟩
  refine .a 12 ?_;cases q4;refine .nilE rfl ?_;exact⟨rfl,rfl,trivial⟩
 rcases oi h with⟨c7,h⟩|⟨c7,h⟩
 ·refine .a 10 ?_;refine .store 0 rfl rfl rfl rfl rfl rfl (.cast (.fldS (.fld0 .here)) rfl) rfl rfl DZ rfl ?_;refine .a 4 ?_;refine .nK [4] ?_;refine .rK [4] ?_;have hr:=Option.some.inj h;subst hr;exact⟨[(AB true)],⟨rfl,rfl,trivial⟩,rfl,(.cons 0 rfl (.refl _))⟩
 refine .a 5 ?_;refine .nK [4] ?_;refine .rK [4] ?_;have hr:=Option.some.inj h;subst hr;exact⟨[(AB false)],⟨rfl,rfl,trivial⟩,rfl,(.cons 0 rfl (.refl _))⟩
def Gx (k:Nat) (b6:Bool):Option Int:=
 if b6=true then some ((2:Int))
 else some ((-1:Int))
def GG (k:Nat) (p0:Int) (b4:Bool):Option Int:=
 if b4=true then some ((1:Int))
 else if p0=(2:Int)then Gx k (decide (p0=(2:Int)))
 else Gx k (decide (p0=(3:Int)))
def Gz (k:Nat) (p0:Int) (b2:Bool):Option Int:=
 if b2=true then some ((0:Int))
 else if p0=(4:Int)then GG k p0 (decide (p0=(4:Int)))
 else if p0=(5:Int)then GG k p0 (decide (p0=(5:Int)))
 else GG k p0 (decide (p0=(6:Int)))
def PQ (k:Nat) (p0:Int):Option Int:=
 if p0=(0:Int)then Gz k p0 (decide (p0=(0:Int)))
 else Gz k p0 (decide (p0=(1:Int)))
theorem G1 {k:Nat} {p0:Int} {r:Int} (h:PQ k p0=some r):AM Tryz.prog 87 [(AA p0)] (AA r):=by
 rw[PQ.eq_1]at h;refine AM.intro (res:=[.tmp 2]) Tryz.func87 rfl rfl rfl (Nat.le_of_ble_eq_true rfl) ?_;refine .a 10 ?_;refine .seq_mid (fun ρ H=>∃ (b2:Bool),ρ=[(3,(AA p0)),(4,(AB b2))]∧H=[]∧Gz k p0 b2=some r) ?_ ?_
 ·refine .a 5 ?_;rcases oi h with⟨c11,h⟩|⟨c11,h⟩
  ·refine .a 1 ?_;refine .sK [3,4] ?_;exact⟨decide (p0=(0:Int)),rfl,rfl,h⟩
  refine .a 4 ?_;refine .nK [3,4] ?_;exact⟨decide (p0=(1:Int)),rfl,rfl,h⟩
 rintro _ _ ⟨b2,rfl,rfl,h⟩;rw[Gz.eq_1]at h;rcases oi h with⟨c3,h⟩|⟨c3,h⟩
 ·refine .a 4 ?_;refine .nK [2] ?_;refine .rK [2] ?_;cases h;exact⟨[(AA (0:Int))],⟨rfl,rfl,trivial⟩,rfl⟩
 refine .a 1 ?_;refine .seq_mid (fun ρ H=>∃ (b4:Bool),ρ=[(3,(AA p0)),(7,(AB b4))]∧H=[]∧GG k p0 b4=some r) ?_ ?_
 ·refine .a 5 ?_;rcases oi h with⟨c9,h⟩|⟨c9,h⟩
  ·refine .a 1 ?_;refine .sK [3,7] ?_;exact⟨decide (p0=(4:Int)),rfl,rfl,h⟩
  refine .a 6 ?_;rcases oi h with⟨c10,h⟩|⟨c10,h⟩
  ·refine .a 1 ?_;refine .sK [3,7] ?_;exact⟨decide (p0=(5:Int)),rfl,rfl,h⟩
  refine .a 4 ?_;refine .nK [3,7] ?_;exact⟨decide (p0=(6:Int)),rfl,rfl,h⟩
 rintro _ _ ⟨b4,rfl,rfl,h⟩;rw[GG.eq_1]at h;rcases oi h with⟨c5,h⟩|⟨c5,h⟩
 ·refine .a 4 ?_;refine .nK [2] ?_;refine .rK [2] ?_;cases h;exact⟨[(AA (1:Int))],⟨rfl,rfl,trivial⟩,rfl⟩
 refine .a 1 ?_;refine .seq_mid (fun ρ H=>∃ (b6:Bool),ρ=[(11,(AB b6))]∧H=[]∧Gx k b6=some r) ?_ ?_
 ·refine .a 5 ?_;rcases oi h with⟨c8,h⟩|⟨c8,h⟩
  ·refine .a 1 ?_;refine .sK [11] ?_;exact⟨decide (p0=(2:Int)),rfl,rfl,h⟩
  refine .a 4 ?_;refine .nK [11] ?_;exact⟨decide (p0=(3:Int)),rfl,rfl,h⟩
 rintro _ _ ⟨b6,rfl,rfl,h⟩;rw[Gx.eq_1]at h;rcases oi h with⟨c7,h⟩|⟨c7,h⟩
 ·refine .a 4 ?_;refine .nK [2] ?_;refine .rK [2] ?_;cases h;exact⟨[(AA (2:Int))],⟨rfl,rfl,trivial⟩,rfl⟩
 refine .a 5 ?_;refine .nK [2] ?_;refine .rK [2] ?_;cases h;exact⟨[(AA (-1:Int))],⟨rfl,rfl,trivial⟩,rfl⟩
def HX (k:Nat) (p0:Int) (x9:(List AE)):Option (List AE):=
 if(x9++([(AE.mk p0 (Vector.replicate 4 (0:Int)))]:List AE)).length*40≤140737488355328 then some ((x9++([(AE.mk p0 (Vector.replicate 4 (0:Int)))]:List AE)))
 else none
def DG (k:Nat) (p0:Int) (p1:(List (List AE))):Nat→(List AE)→Int→Option (List AE)
 | 0,_,_=>none
 | j+1,x14,x15=>
   if x15<(p1.length:Int)then if 0≤x15∧x15<(p1.length:Int)then if(x14++(AC p1 x15)).length*40≤140737488355328 then(DG k p0 p1 j) (x14++(AC p1 x15)) (AH (x15+(1:Int)))
   else none
   else none
   else HX k p0 x14
def My (k:Nat) (p0:Int) (p1:(List (List AE))):Option (List AE):=
 Option.bind (α:=Bool) ((PQ k p0).bind fun t5=>
 if t5≠(p1.length:Int)then some (true)
 else some (decide ((p1.length:Int)=(0:Int)))) fun b3=>
 if b3=true then some ([])
 else DG k p0 p1 k ([]:List AE) (0:Int)
theorem Eb {k:Nat} {p0:Int} {p1:(List (List AE))} {r:(List AE)} (h:My k p0 p1=some r):AM Tryz.prog 86 [(AA p0),(.fz 1 (p1.map EZ))] (EZ r):=by
 rw[My.eq_1]at h;refine AM.intro (res:=[.tmp 4]) Tryz.func86 rfl rfl rfl (Nat.le_of_ble_eq_true rfl) ?_;refine .a 6 ?_;obtain⟨b3,q4,h⟩:=ob h;refine .regM [(0,(AA p0)),(1,(.fz 1 (p1.map EZ))),(17,(AB b3))] [] ?_ ?_
 ·refine .a 1 ?_;obtain⟨t5,et5,q4⟩:=ob q4;refine .callS [(AA p0)] (AA t5) 9 rfl (by decide) RL rfl rfl rfl ⟨rfl,rfl,trivial⟩ (G1 et5) ?_;refine .a 4 ?_;rcases oi q4 with⟨c6,q4⟩|⟨c6,q4⟩
  ·refine .a 4 ?_;cases q4;refine .nilE ⟨rfl,rfl⟩ ?_ ?_
   ·exact⟨rfl,rfl,rfl,trivial⟩
   exact(.refl _)
  refine .a 4 ?_;cases q4;refine .nilE ⟨rfl,rfl⟩ ?_ ?_
  ·exact⟨rfl,rfl,rfl,trivial⟩
  exact(.refl _)
 rcases oi h with⟨c7,h⟩|⟨c7,h⟩
 ·refine .a 4 ?_;refine .nK [4] ?_;refine .coeC 4 (y':=(BK ([]:List AE))) rfl EW.nil ?_;refine .rK [4] ?_;cases h;exact⟨[(BK ([]:List AE))],⟨rfl,rfl,trivial⟩,rfl⟩
 refine .a 5 ?_;refine .nK [0,1,5] ?_;refine .seq_mid (fun ρ H=>∃ (n8:Nat) (x9:(List AE)),ρ=[(0,(AA p0)),(5,(.own n8 0 x9.length))]∧H=[(n8,(.mem (.ar 5 (x9.map AJ))))]∧HX k p0 x9=some r) ?_ ?_
 ·refine .a 7 ?_;refine .nilOwn 5 5 rfl fun n22=>?_;refine .wK [0,5,18,19,20] ?_;refine .loop (fun kq ρ H=>∃ (n13:Nat) (x14:(List AE)) (x15:Int),ρ=[(0,(AA p0)),(5,(.own n13 0 x14.length)),(18,(.fz 1 (p1.map EZ))),(19,(AA (p1.length:Int))),(20,(AA x15))]∧H=[(n13,(.mem (.ar 5 (x14.map AJ))))]∧DG k p0 p1 kq x14 x15=some r) k ⟨n22,([]:List AE),(0:Int),rfl,rfl,h⟩ ?_;rintro kq17 _ _ ⟨n13,x14,x15,rfl,rfl,h⟩
  cases kq17 with
  | zero=>rw[DG.eq_1]at h;cases h
  | succ kq17=>
  rw[DG.eq_2]at h;generalize hrec16:DG k p0 p1 kq17=rec16 at h;refine .a 5 ?_;rcases oi h with⟨c18,h⟩|⟨c18,h⟩
  ·refine .a 6 ?_;obtain⟨g19,h⟩:=AD h;refine .a 7 ?_;obtain⟨g21,h⟩:=AD h;refine .appendL (l:=x14) (m:=(AC p1 x15)) 0 26 rfl (by decide) rfl rfl rfl rfl rfl EJ.fz Tryz.underlying75 Tryz.underlying75 BC FG Aw rfl g21 (by decide) fun n20=>?_;refine .a 5 ?_;refine .nK [0,5,18,19,20] ?_;exact⟨kq17,Nat.lt_succ_self _,n20,(x14++(AC p1 x15)),(AH (x15+(1:Int))),rfl,rfl,by rw[hrec16];exact h⟩
  refine .a 1 ?_;refine .eK [0,5] ?_;exact⟨n13,x14,rfl,rfl,h⟩
 rintro _ _ ⟨n8,x9,rfl,rfl,h⟩;rw[HX.eq_1]at h;refine .a 4 ?_;refine .c (x:=(Ff p0 ((Vector.replicate 4 (0:Int)).toList.map AL))) (.build (qs:=[(0,(AA p0))]) rfl ⟨rfl,rfl,rfl,trivial⟩ Tryz.underlying122 rfl Aw Au (.cons rfl rfl rfl rfl (.cast (.fld0 .here) rfl) .nil) rfl) ?_;refine .lit (Z:=(Ff (0:Int) ((Vector.replicate 4 (0:Int)).toList.map AL))) (xs:=(([(AE.mk p0 (Vector.replicate 4 (0:Int)))]:List AE).map AJ)) (qs:=[(0,(AJ (AE.mk p0 (Vector.replicate 4 (0:Int)))))]) rfl 31 rfl (by decide) rfl ⟨rfl,rfl,rfl,trivial⟩ Tryz.underlying75 BC Aw Au rfl (by decide) (Aj (z:=5) [(AJ (AE.mk p0 (Vector.replicate 4 (0:Int))))] rfl ⟨⟨rfl,rfl⟩,trivial⟩) rfl fun n10=>?_;obtain⟨g12,h⟩:=AD h;refine .appendL (l:=x9) (m:=([(AE.mk p0 (Vector.replicate 4 (0:Int)))]:List AE)) 1 32 rfl (by decide) rfl rfl rfl rfl rfl (EJ.ownL (f:=AJ) (l:=([(AE.mk p0 (Vector.replicate 4 (0:Int)))]:List AE)) 0 rfl) Tryz.underlying75 Tryz.underlying75 BC FG Aw rfl g12 (by decide) fun n11=>?_;refine .a 1 ?_;refine .nS [4] [1] ?_;refine .freezeS 0 [(4,(BK (x9++([(AE.mk p0 (Vector.replicate 4 (0:Int)))]:List AE))))] rfl ⟨Ad rfl,trivial⟩ ?_;refine .rK [4] ?_;cases h;exact⟨[(BK (x9++([(AE.mk p0 (Vector.replicate 4 (0:Int)))]:List AE)))],⟨rfl,rfl,trivial⟩,rfl⟩
def Iu (k:Nat):Option Bool:=
 some (false)
def CV (k:Nat) (p0:Aa) (p1:ByteArray):Nat→Int→Option Bool
 | 0,_=>none
 | j+1,x4=>
   if x4<(p1.size:Int)then if 0≤p0.f1∧p0.f1<(p0.f0.size:Int)then if 0≤x4∧x4<(p1.size:Int)then if(AF p0.f0 p0.f1)=(AF p1 x4)then some (true)
   else(CV k p0 p1 j) (AH (x4+(1:Int)))
   else none
   else none
   else Iu k
def I3 (k:Nat) (p0:Aa) (p1:ByteArray):Option Bool:=
 if(p0.f0.size:Int)≤p0.f1 then some (true)
 else CV k p0 p1 k (0:Int)
theorem D2 {k:Nat} {p0:Aa} {p1:ByteArray} {r:Bool} (h:I3 k p0 p1=some r) {q0:Nat} {T0:AN}:Al Tryz.prog 113 [(.ptr q0 0),(AI p1)] ((q0,(.mem (CN p0)))::T0) (fun x H'=>x=AB r∧BS ((q0,(.mem (CN p0)))::T0) H'):=by
 rw[I3.eq_1]at h;refine Al.intro (res:=[.tmp 4]) Tryz.func113 rfl rfl rfl (Nat.le_of_ble_eq_true rfl) ?_;refine .a 6 ?_;refine .regQ (by rfl) (by decide+kernel) ?_;refine .a 11 ?_;rcases oi h with⟨c3,h⟩|⟨c3,h⟩
 ·refine .a 4 ?_;refine .nK [4] ?_;refine .rK [4] ?_;have hr:=Option.some.inj h;subst hr;exact⟨[(AB true)],⟨rfl,rfl,trivial⟩,rfl,(.cons 0 rfl (.refl _))⟩
 refine .a 1 ?_;refine .sK [0,1] ?_;refine .seq_mid (fun ρ H=>ρ=[]∧H=((q0,(.mem (CN p0)))::T0)∧Iu k=some r) ?_ ?_
 ·refine .a 7 ?_;refine .wK [0,1,17,18] ?_;refine .loop (fun kq ρ H=>∃ (x4:Int),ρ=[(0,(.ptr q0 0)),(1,(AI p1)),(17,(AA (p1.size:Int))),(18,(AA x4))]∧H=((q0,(.mem (CN p0)))::T0)∧CV k p0 p1 kq x4=some r) k ⟨(0:Int),rfl,rfl,h⟩ ?_;rintro kq6 _ _ ⟨x4,rfl,rfl,h⟩
  cases kq6 with
  | zero=>rw[CV.eq_1]at h;cases h
  | succ kq6=>
  rw[CV.eq_2]at h;generalize hrec5:CV k p0 p1 kq6=rec5 at h;refine .a 5 ?_;rcases oi h with⟨c7,h⟩|⟨c7,h⟩
  ·refine .a 10 ?_;refine .regQ (by rfl) (by decide+kernel) ?_;refine .a 8 ?_;obtain⟨g8,h⟩:=AD h;refine .a 3 ?_;obtain⟨g9,h⟩:=AD h;refine .a 3 ?_;rcases oi h with⟨c10,h⟩|⟨c10,h⟩
   ·refine .a 4 ?_;refine .nK [4] ?_;refine .rK [4] ?_;have hr:=Option.some.inj h;subst hr;exact⟨[(AB true)],⟨rfl,rfl,trivial⟩,rfl,(.cons 0 rfl (.refl _))⟩
   refine .a 5 ?_;refine .nK [0,1,17,18] ?_;exact⟨kq6,Nat.lt_succ_self _,(AH (x4+(1:Int))),rfl,rfl,by rw[hrec5];exact h⟩
  refine .a 1 ?_;refine .eK [] ?_;exact⟨rfl,rfl,h⟩
 rintro _ _ ⟨rfl,rfl,h⟩;rw[Iu.eq_1]at h;refine .a 3 ?_;refine .nK [4] ?_;refine .rK [4] ?_;have hr:=Option.some.inj h;subst hr;exact⟨[(AB false)],⟨rfl,rfl,trivial⟩,rfl,(.cons 0 rfl (.refl _))⟩
def MP (k:Nat):Option (Vector Int 4):=
 some ((BG (BG (BG (BG (Vector.replicate 4 (0:Int)) (0:Int) (18446744073709551615:Int)) (1:Int) (18446744073709551615:Int)) (2:Int) (18446744073709551615:Int)) (3:Int) (18446744073709551615:Int)))
theorem H8 {k:Nat} {r:(Vector Int 4)} (h:MP k=some r):AM Tryz.prog 125 [] (Cc r):=by
 rw[MP.eq_1]at h;refine AM.intro (res:=[.cell 0 120]) Tryz.func125 rfl rfl rfl (Nat.le_of_ble_eq_true rfl) ?_;refine .sr ?_;refine .alloc rfl 0 rfl (by decide) rfl Bq BP fun n1=>?_;refine .a 3 ?_;refine .c (x:=.ar 1 ((BG (BG (BG (BG (Vector.replicate 4 (0:Int)) (0:Int) (18446744073709551615:Int)) (1:Int) (18446744073709551615:Int)) (2:Int) (18446744073709551615:Int)) (3:Int) (18446744073709551615:Int)).toList.map AL)) (.buildAr (qs:=[(0,(AL (18446744073709551615:Int))),(1,(AL (18446744073709551615:Int))),(2,(AL (18446744073709551615:Int))),(3,(AL (18446744073709551615:Int)))]) rfl ⟨rfl,rfl,rfl,rfl,rfl,rfl,rfl,rfl,rfl,rfl,rfl,rfl,trivial⟩ Tryz.underlying120 BE Bq BP (.cons rfl rfl rfl rfl (.cast (.vidx (0:Int) (18446744073709551615:Int) (by decide) (by decide) .here) rfl) (.cons rfl rfl rfl rfl (.cast (.vidx (1:Int) (18446744073709551615:Int) (by decide) (by decide) .here) rfl) (.cons rfl rfl rfl rfl (.cast (.vidx (2:Int) (18446744073709551615:Int) (by decide) (by decide) .here) rfl) (.cons rfl rfl rfl rfl (.cast (.vidx (3:Int) (18446744073709551615:Int) (by decide) (by decide) .here) rfl) .nil)))) rfl) ?_;refine .store 0 rfl rfl rfl rfl rfl rfl (.cast .here rfl) rfl (by simp[AV.size]) (by rw[BX];simp[AV.size]) rfl ?_;refine .nK [0] ?_;refine .rK [0] ?_;cases h
 exact⟨[(.ar 1 ((BG (BG (BG (BG (Vector.replicate 4 (0:Int)) (0:Int) (18446744073709551615:Int)) (1:Int) (18446744073709551615:Int)) (2:Int) (18446744073709551615:Int)) (3:Int) (18446744073709551615:Int)).toList.map AL))],⟨⟨_,0,rfl,rfl,Ft,(by rw[BX];simp[AV.size])⟩,trivial⟩,rfl⟩
def JJ (k:Nat) (p0:Int):Option Int:=
 Option.bind (α:=Bool) (if(48:Int)≤p0 then some (decide (p0≤(57:Int)))
 else some (false)) fun b2=>
 if b2=true then some ((AH (w8 (p0 - (48:Int)))))
 else Option.bind (α:=Bool) (if(97:Int)≤p0 then some (decide (p0≤(102:Int)))
 else some (false)) fun b6=>
 if b6=true then some ((AH ((AH (w8 (p0 - (97:Int))))+(10:Int))))
 else some ((-1:Int))
theorem Ev {k:Nat} {p0:Int} {r:Int} (h:JJ k p0=some r):AM Tryz.prog 139 [(AY p0)] (AA r):=by
 rw[JJ.eq_1]at h;refine AM.intro (res:=[.tmp 2]) Tryz.func139 rfl rfl rfl (Nat.le_of_ble_eq_true rfl) ?_;refine .a 7 ?_;obtain⟨b2,q3,h⟩:=ob h;refine .regM [(0,(AY p0)),(3,(AB b2))] [] ?_ ?_
 ·refine .a 3 ?_;rcases oi q3 with⟨c4,q3⟩|⟨c4,q3⟩
  ·refine .a 4 ?_;cases q3;refine .nilE ⟨rfl,rfl⟩ ?_ ?_
   ·exact⟨rfl,rfl,trivial⟩
   exact(.refl _)
  refine .a 4 ?_;cases q3;refine .nilE ⟨rfl,rfl⟩ ?_ ?_
  ·exact⟨rfl,rfl,trivial⟩
  exact(.refl _)
 rcases oi h with⟨c5,h⟩|⟨c5,h⟩
 ·refine .a 7 ?_;refine .nK [2] ?_;refine .rK [2] ?_;cases h;exact⟨[(AA (AH (w8 (p0 - (48:Int)))))],⟨rfl,rfl,trivial⟩,rfl⟩
 refine .a 2 ?_;obtain⟨b6,q7,h⟩:=ob h;refine .regM [(0,(AY p0)),(13,(AB b6))] [] ?_ ?_
 ·refine .a 3 ?_;rcases oi q7 with⟨c8,q7⟩|⟨c8,q7⟩
  ·refine .a 4 ?_;cases q7;refine .nilE ⟨rfl,rfl⟩ ?_ ?_
   ·exact⟨rfl,rfl,trivial⟩
   exact(.refl _)
  refine .a 4 ?_;cases q7;refine .nilE ⟨rfl,rfl⟩ ?_ ?_
  ·exact⟨rfl,rfl,trivial⟩
  exact(.refl _)
 rcases oi h with⟨c9,h⟩|⟨c9,h⟩
 ·refine .a 8 ?_;refine .nK [2] ?_;refine .rK [2] ?_;cases h;exact⟨[(AA (AH ((AH (w8 (p0 - (97:Int))))+(10:Int))))],⟨rfl,rfl,trivial⟩,rfl⟩
 refine .a 5 ?_;refine .nK [2] ?_;refine .rK [2] ?_;cases h;exact⟨[(AA (-1:Int))],⟨rfl,rfl,trivial⟩,rfl⟩
def CO (k:Nat) (p0:ByteArray):Option (Int×Int×Bool):=
 Option.bind (α:=Bool) (if(48:Int)≤(AF p0 (1:Int))then if(AF p0 (1:Int))≤(57:Int)then some (true)
 else if(97:Int)≤(AF p0 (1:Int))then if(AF p0 (1:Int))≤(122:Int)then some (true)
 else if(65:Int)≤(AF p0 (1:Int))then if(AF p0 (1:Int))≤(90:Int)then some (true)
 else if(AF p0 (1:Int))<(32:Int)then some (true)
 else some (decide ((126:Int)<(AF p0 (1:Int))))
 else if(AF p0 (1:Int))<(32:Int)then some (true)
 else some (decide ((126:Int)<(AF p0 (1:Int))))
 else if(65:Int)≤(AF p0 (1:Int))then if(AF p0 (1:Int))≤(90:Int)then some (true)
 else if(AF p0 (1:Int))<(32:Int)then some (true)
 else some (decide ((126:Int)<(AF p0 (1:Int))))
 else if(AF p0 (1:Int))<(32:Int)then some (true)
 else some (decide ((126:Int)<(AF p0 (1:Int))))
 else if(97:Int)≤(AF p0 (1:Int))then if(AF p0 (1:Int))≤(122:Int)then some (true)
 else if(65:Int)≤(AF p0 (1:Int))then if(AF p0 (1:Int))≤(90:Int)then some (true)
 else if(AF p0 (1:Int))<(32:Int)then some (true)
 else some (decide ((126:Int)<(AF p0 (1:Int))))
 else if(AF p0 (1:Int))<(32:Int)then some (true)
 else some (decide ((126:Int)<(AF p0 (1:Int))))
 else if(65:Int)≤(AF p0 (1:Int))then if(AF p0 (1:Int))≤(90:Int)then some (true)
 else if(AF p0 (1:Int))<(32:Int)then some (true)
 else some (decide ((126:Int)<(AF p0 (1:Int))))
 else if(AF p0 (1:Int))<(32:Int)then some (true)
 else some (decide ((126:Int)<(AF p0 (1:Int))))) fun b8=>
 if b8=true then some ((0:Int),(0:Int),false)
 else some ((AF p0 (1:Int)),(2:Int),true)
def Fi (k:Nat):Option (Int×Int×Bool):=
 some ((0:Int),(0:Int),false)
def Ez (k:Nat) (p0:ByteArray):Option (Int×Int×Bool):=
 Option.bind (α:=Bool) (if(4:Int)≤(p0.size:Int)then if 0≤(2:Int)∧(2:Int)<(p0.size:Int)then(JJ k (AF p0 (2:Int))).bind fun t37=>
 if(0:Int)≤t37 then if 0≤(3:Int)∧(3:Int)<(p0.size:Int)then(JJ k (AF p0 (3:Int))).bind fun t40=>
 some (decide ((0:Int)≤t40))
 else none
 else some (false)
 else none
 else some (false)) fun b33=>
 if b33=true then if 0≤(2:Int)∧(2:Int)<(p0.size:Int)then(JJ k (AF p0 (2:Int))).bind fun t43=>
 if 0≤(3:Int)∧(3:Int)<(p0.size:Int)then(JJ k (AF p0 (3:Int))).bind fun t45=>
 some ((w8 (bits .or .i64 (IntKind.i64.wrap (t43*2 ^ (min (4:Int).toNat IntKind.i64.bits))) t45)),(4:Int),true)
 else none
 else none
 else Fi k
def JS (k:Nat):Option (Int×Int×Bool):=
 some ((13:Int),(2:Int),true)
def JX (k:Nat):Option (Int×Int×Bool):=
 some ((9:Int),(2:Int),true)
def Ih (k:Nat):Option (Int×Int×Bool):=
 some ((10:Int),(2:Int),true)
def Jz (k:Nat) (p0:ByteArray):Option (Int×Int×Bool):=
 if p0=(ByteArray.mk #[])then some ((0:Int),(0:Int),false)
 else if 0≤(0:Int)∧(0:Int)<(p0.size:Int)then if(AF p0 (0:Int))≠(92:Int)then if 0≤(0:Int)∧(0:Int)<(p0.size:Int)then some ((AF p0 (0:Int)),(1:Int),true)
 else none
 else if(p0.size:Int)<(2:Int)then some ((0:Int),(0:Int),false)
 else if 0≤(1:Int)∧(1:Int)<(p0.size:Int)then if(AF p0 (1:Int))=(110:Int)then Ih k
 else if(AF p0 (1:Int))=(116:Int)then JX k
 else if(AF p0 (1:Int))=(114:Int)then JS k
 else if(AF p0 (1:Int))=(120:Int)then Ez k p0
 else if(AF p0 (1:Int))=(0:Int)then Fi k
 else CO k p0
 else none
 else none
theorem MX {k:Nat} {p0:ByteArray} {r:(Int×Int×Bool)} (h:Jz k p0=some r):AM Tryz.prog 136 [(AI p0)] (.tup [(AY r.1),(AA r.2.1),(AB r.2.2)]):=by
 rw[Jz.eq_1]at h;refine AM.intro (res:=[.tmp 2,.tmp 3,.tmp 4]) Tryz.func136 rfl rfl rfl (Nat.le_of_ble_eq_true rfl) ?_;refine .a 14 ?_;rcases oi h with⟨c2,h⟩|⟨c2,h⟩
 ·refine .a 6 ?_;refine .nK [2,3,4] ?_;refine .rK [2,3,4] ?_;have hr:=Option.some.inj h;subst hr;exact⟨[(AY (0:Int)),(AA (0:Int)),(AB false)],⟨rfl,rfl,rfl,rfl,rfl,rfl,trivial⟩,rfl⟩
 refine .a 4 ?_;obtain⟨g3,h⟩:=AD h;refine .a 4 ?_;rcases oi h with⟨c4,h⟩|⟨c4,h⟩
 ·refine .a 4 ?_;obtain⟨g5,h⟩:=AD h;refine .a 4 ?_;refine .nK [2,3,4] ?_;refine .rK [2,3,4] ?_;have hr:=Option.some.inj h;subst hr;exact⟨[(AY (AF p0 (0:Int))),(AA (1:Int)),(AB true)],⟨rfl,rfl,rfl,rfl,rfl,rfl,trivial⟩,rfl⟩
 refine .a 8 ?_;rcases oi h with⟨c6,h⟩|⟨c6,h⟩
 ·refine .a 6 ?_;refine .nK [2,3,4] ?_;refine .rK [2,3,4] ?_;have hr:=Option.some.inj h;subst hr;exact⟨[(AY (0:Int)),(AA (0:Int)),(AB false)],⟨rfl,rfl,rfl,rfl,rfl,rfl,trivial⟩,rfl⟩
 refine .a 5 ?_;obtain⟨g7,h⟩:=AD h;refine .a 2 ?_;refine .nK [0,5] ?_;refine .seq_mid (fun ρ H=>ρ=[(5,(AY (AF p0 (1:Int))))]∧H=[]∧CO k p0=some r) ?_ ?_
 ·refine .a 5 ?_;refine .seq_mid (fun ρ H=>ρ=[]∧H=[]∧Fi k=some r) ?_ ?_
  ·refine .a 1 ?_;refine .seq_mid (fun ρ H=>ρ=[(0,(AI p0))]∧H=[]∧Ez k p0=some r) ?_ ?_
   ·refine .a 1 ?_;refine .seq_mid (fun ρ H=>ρ=[]∧H=[]∧JS k=some r) ?_ ?_
    ·refine .a 1 ?_;refine .seq_mid (fun ρ H=>ρ=[]∧H=[]∧JX k=some r) ?_ ?_
     ·refine .a 1 ?_;refine .seq_mid (fun ρ H=>ρ=[]∧H=[]∧Ih k=some r) ?_ ?_
      ·refine .a 8 ?_;rcases oi h with⟨c46,h⟩|⟨c46,h⟩
       ·refine .a 1 ?_;refine .eK [] ?_;exact⟨rfl,rfl,h⟩
       refine .a 8 ?_;rcases oi h with⟨c47,h⟩|⟨c47,h⟩
       ·refine .a 1 ?_;refine .eK [] ?_;exact⟨rfl,rfl,h⟩
       refine .a 8 ?_;rcases oi h with⟨c48,h⟩|⟨c48,h⟩
       ·refine .a 1 ?_;refine .eK [] ?_;exact⟨rfl,rfl,h⟩
       refine .a 8 ?_;rcases oi h with⟨c49,h⟩|⟨c49,h⟩
       ·refine .a 1 ?_;refine .eK [0] ?_;exact⟨rfl,rfl,h⟩
       refine .a 7 ?_;rcases oi h with⟨c50,h⟩|⟨c50,h⟩
       ·refine .a 1 ?_;refine .eK [] ?_;exact⟨rfl,rfl,h⟩
       refine .a 1 ?_;refine .sK [5] ?_;refine .eK [5] ?_;exact⟨rfl,rfl,h⟩
      rintro _ _ ⟨rfl,rfl,h⟩;rw[Ih.eq_1]at h;refine .a 6 ?_;refine .nK [2,3,4] ?_;refine .rK [2,3,4] ?_;have hr:=Option.some.inj h;subst hr;exact⟨[(AY (10:Int)),(AA (2:Int)),(AB true)],⟨rfl,rfl,rfl,rfl,rfl,rfl,trivial⟩,rfl⟩
     rintro _ _ ⟨rfl,rfl,h⟩;rw[JX.eq_1]at h;refine .a 6 ?_;refine .nK [2,3,4] ?_;refine .rK [2,3,4] ?_;have hr:=Option.some.inj h;subst hr;exact⟨[(AY (9:Int)),(AA (2:Int)),(AB true)],⟨rfl,rfl,rfl,rfl,rfl,rfl,trivial⟩,rfl⟩
    rintro _ _ ⟨rfl,rfl,h⟩;rw[JS.eq_1]at h;refine .a 6 ?_;refine .nK [2,3,4] ?_;refine .rK [2,3,4] ?_;have hr:=Option.some.inj h;subst hr;exact⟨[(AY (13:Int)),(AA (2:Int)),(AB true)],⟨rfl,rfl,rfl,rfl,rfl,rfl,trivial⟩,rfl⟩
   rintro _ _ ⟨rfl,rfl,h⟩;rw[Ez.eq_1]at h;refine .seq ?_;obtain⟨b33,q34,h⟩:=ob h;refine .regM [(0,(AI p0)),(46,(AB b33))] [] ?_ ?_
   ·refine .a 4 ?_;rcases oi q34 with⟨c35,q34⟩|⟨c35,q34⟩
    ·refine .a 1 ?_;obtain⟨g36,q34⟩:=AD q34;refine .a 1 ?_;obtain⟨t37,et37,q34⟩:=ob q34;refine .callG 3 true 35 [(AY (AF p0 (2:Int)))] (AA t37) 38 rfl (by decide) Lj rfl rfl (bD (decide_eq_true c35)) rfl rfl ⟨rfl,rfl,trivial⟩ (Ev et37) ?_;refine .a 3 ?_;rcases oi q34 with⟨c38,q34⟩|⟨c38,q34⟩
     ·refine .a 1 ?_;obtain⟨g39,q34⟩:=AD q34;refine .a 1 ?_;obtain⟨t40,et40,q34⟩:=ob q34;refine .callG 9 true 41 [(AY (AF p0 (3:Int)))] (AA t40) 44 rfl (by decide) Lj rfl rfl (bD (decide_eq_true c38)) rfl rfl ⟨rfl,rfl,trivial⟩ (Ev et40) ?_;refine .a 2 ?_;cases q34;refine .nilE ⟨rfl,rfl⟩ ?_ ?_
      ·exact⟨rfl,rfl,trivial⟩
      exact(.refl _)
     refine .a 5 ?_;cases q34;refine .nilE ⟨rfl,rfl⟩ ?_ ?_
     ·exact⟨rfl,rfl,trivial⟩
     exact(.refl _)
    refine .a 11 ?_;cases q34;refine .nilE ⟨rfl,rfl⟩ ?_ ?_
    ·exact⟨rfl,rfl,trivial⟩
    exact(.refl _)
   rcases oi h with⟨c41,h⟩|⟨c41,h⟩
   ·refine .a 2 ?_;refine .regQ (by rfl) (by decide+kernel) ?_;refine .a 1 ?_;obtain⟨g42,h⟩:=AD h;refine .a 1 ?_;obtain⟨t43,et43,h⟩:=ob h;refine .c (.call (args:=[(AY (AF p0 (2:Int)))]) rfl rfl Lj ⟨rfl,rfl,trivial⟩ rfl (Ev et43)) ?_;refine .c (x:=AA (IntKind.i64.wrap (t43*2 ^ (min (4:Int).toNat IntKind.i64.bits)))) (.shl rfl rfl rfl (by decide)) ?_;refine .a 1 ?_;obtain⟨g44,h⟩:=AD h;refine .a 1 ?_;obtain⟨t45,et45,h⟩:=ob h;refine .c (.call (args:=[(AY (AF p0 (3:Int)))]) rfl rfl Lj ⟨rfl,rfl,trivial⟩ rfl (Ev et45)) ?_;refine .a 5 ?_;refine .nK [2,3,4] ?_;refine .rK [2,3,4] ?_;have hr:=Option.some.inj h;subst hr;exact⟨[(AY (w8 (bits .or .i64 (IntKind.i64.wrap (t43*2 ^ (min (4:Int).toNat IntKind.i64.bits))) t45))),(AA (4:Int)),(AB true)],⟨rfl,rfl,rfl,rfl,rfl,rfl,trivial⟩,rfl⟩
   refine .a 1 ?_;refine .sK [] ?_;exact⟨rfl,rfl,h⟩
  rintro _ _ ⟨rfl,rfl,h⟩;rw[Fi.eq_1]at h;refine .a 6 ?_;refine .nK [2,3,4] ?_;refine .rK [2,3,4] ?_;have hr:=Option.some.inj h;subst hr;exact⟨[(AY (0:Int)),(AA (0:Int)),(AB false)],⟨rfl,rfl,rfl,rfl,rfl,rfl,trivial⟩,rfl⟩
 rintro _ _ ⟨rfl,rfl,h⟩;rw[CO.eq_1]at h;refine .a 2 ?_;obtain⟨b8,q9,h⟩:=ob h;refine .regM [(5,(AY (AF p0 (1:Int)))),(85,(AB b8))] [] ?_ ?_
 ·refine .a 3 ?_;rcases oi q9 with⟨c10,q9⟩|⟨c10,q9⟩
  ·refine .a 4 ?_;rcases oi q9 with⟨c11,q9⟩|⟨c11,q9⟩
   ·refine .a 23 ?_;cases q9;refine .nilE ⟨rfl,rfl⟩ ?_ ?_
    ·exact⟨rfl,rfl,trivial⟩
    exact(.refl _)
   refine .a 3 ?_;rcases oi q9 with⟨c12,q9⟩|⟨c12,q9⟩
   ·refine .a 5 ?_;rcases oi q9 with⟨c13,q9⟩|⟨c13,q9⟩
    ·refine .a 15 ?_;cases q9;refine .nilE ⟨rfl,rfl⟩ ?_ ?_
     ·exact⟨rfl,rfl,trivial⟩
     exact(.refl _)
    refine .a 3 ?_;rcases oi q9 with⟨c14,q9⟩|⟨c14,q9⟩
    ·refine .a 5 ?_;rcases oi q9 with⟨c15,q9⟩|⟨c15,q9⟩
     ·refine .a 7 ?_;cases q9;refine .nilE ⟨rfl,rfl⟩ ?_ ?_
      ·exact⟨rfl,rfl,trivial⟩
      exact(.refl _)
     refine .a 4 ?_;rcases oi q9 with⟨c16,q9⟩|⟨c16,q9⟩
     ·refine .a 3 ?_;cases q9;refine .nilE ⟨rfl,rfl⟩ ?_ ?_
      ·exact⟨rfl,rfl,trivial⟩
      exact(.refl _)
     refine .a 3 ?_;cases q9;refine .nilE ⟨rfl,rfl⟩ ?_ ?_
     ·exact⟨rfl,rfl,trivial⟩
     exact(.refl _)
    refine .a 9 ?_;rcases oi q9 with⟨c17,q9⟩|⟨c17,q9⟩
    ·refine .a 3 ?_;cases q9;refine .nilE ⟨rfl,rfl⟩ ?_ ?_
     ·exact⟨rfl,rfl,trivial⟩
     exact(.refl _)
    refine .a 3 ?_;cases q9;refine .nilE ⟨rfl,rfl⟩ ?_ ?_
    ·exact⟨rfl,rfl,trivial⟩
    exact(.refl _)
   refine .a 8 ?_;rcases oi q9 with⟨c18,q9⟩|⟨c18,q9⟩
   ·refine .a 5 ?_;rcases oi q9 with⟨c19,q9⟩|⟨c19,q9⟩
    ·refine .a 7 ?_;cases q9;refine .nilE ⟨rfl,rfl⟩ ?_ ?_
     ·exact⟨rfl,rfl,trivial⟩
     exact(.refl _)
    refine .a 4 ?_;rcases oi q9 with⟨c20,q9⟩|⟨c20,q9⟩
    ·refine .a 3 ?_;cases q9;refine .nilE ⟨rfl,rfl⟩ ?_ ?_
     ·exact⟨rfl,rfl,trivial⟩
     exact(.refl _)
    refine .a 3 ?_;cases q9;refine .nilE ⟨rfl,rfl⟩ ?_ ?_
    ·exact⟨rfl,rfl,trivial⟩
    exact(.refl _)
   refine .a 9 ?_;rcases oi q9 with⟨c21,q9⟩|⟨c21,q9⟩
   ·refine .a 3 ?_;cases q9;refine .nilE ⟨rfl,rfl⟩ ?_ ?_
    ·exact⟨rfl,rfl,trivial⟩
    exact(.refl _)
   refine .a 3 ?_;cases q9;refine .nilE ⟨rfl,rfl⟩ ?_ ?_
   ·exact⟨rfl,rfl,trivial⟩
   exact(.refl _)
  refine .a 7 ?_;rcases oi q9 with⟨c22,q9⟩|⟨c22,q9⟩
  ·refine .a 5 ?_;rcases oi q9 with⟨c23,q9⟩|⟨c23,q9⟩
   ·refine .a 15 ?_;cases q9;refine .nilE ⟨rfl,rfl⟩ ?_ ?_
    ·exact⟨rfl,rfl,trivial⟩
    exact(.refl _)
   refine .a 3 ?_;rcases oi q9 with⟨c24,q9⟩|⟨c24,q9⟩
   ·refine .a 5 ?_;rcases oi q9 with⟨c25,q9⟩|⟨c25,q9⟩
    ·refine .a 7 ?_;cases q9;refine .nilE ⟨rfl,rfl⟩ ?_ ?_
     ·exact⟨rfl,rfl,trivial⟩
     exact(.refl _)
    refine .a 4 ?_;rcases oi q9 with⟨c26,q9⟩|⟨c26,q9⟩
    ·refine .a 3 ?_;cases q9;refine .nilE ⟨rfl,rfl⟩ ?_ ?_
     ·exact⟨rfl,rfl,trivial⟩
     exact(.refl _)
    refine .a 3 ?_;cases q9;refine .nilE ⟨rfl,rfl⟩ ?_ ?_
    ·exact⟨rfl,rfl,trivial⟩
    exact(.refl _)
   refine .a 9 ?_;rcases oi q9 with⟨c27,q9⟩|⟨c27,q9⟩
   ·refine .a 3 ?_;cases q9;refine .nilE ⟨rfl,rfl⟩ ?_ ?_
    ·exact⟨rfl,rfl,trivial⟩
    exact(.refl _)
   refine .a 3 ?_;cases q9;refine .nilE ⟨rfl,rfl⟩ ?_ ?_
   ·exact⟨rfl,rfl,trivial⟩
   exact(.refl _)
  refine .a 8 ?_;rcases oi q9 with⟨c28,q9⟩|⟨c28,q9⟩
  ·refine .a 5 ?_;rcases oi q9 with⟨c29,q9⟩|⟨c29,q9⟩
   ·refine .a 7 ?_;cases q9;refine .nilE ⟨rfl,rfl⟩ ?_ ?_
    ·exact⟨rfl,rfl,trivial⟩
    exact(.refl _)
   refine .a 4 ?_;rcases oi q9 with⟨c30,q9⟩|⟨c30,q9⟩
   ·refine .a 3 ?_;cases q9;refine .nilE ⟨rfl,rfl⟩ ?_ ?_
    ·exact⟨rfl,rfl,trivial⟩
    exact(.refl _)
   refine .a 3 ?_;cases q9;refine .nilE ⟨rfl,rfl⟩ ?_ ?_
   ·exact⟨rfl,rfl,trivial⟩
   exact(.refl _)
  refine .a 9 ?_;rcases oi q9 with⟨c31,q9⟩|⟨c31,q9⟩
  ·refine .a 3 ?_;cases q9;refine .nilE ⟨rfl,rfl⟩ ?_ ?_
   ·exact⟨rfl,rfl,trivial⟩
   exact(.refl _)
  refine .a 3 ?_;cases q9;refine .nilE ⟨rfl,rfl⟩ ?_ ?_
  ·exact⟨rfl,rfl,trivial⟩
  exact(.refl _)
 rcases oi h with⟨c32,h⟩|⟨c32,h⟩
 ·refine .a 6 ?_;refine .nK [2,3,4] ?_;refine .rK [2,3,4] ?_;have hr:=Option.some.inj h;subst hr;exact⟨[(AY (0:Int)),(AA (0:Int)),(AB false)],⟨rfl,rfl,rfl,rfl,rfl,rfl,trivial⟩,rfl⟩
 refine .a 8 ?_;refine .nK [2,3,4] ?_;refine .rK [2,3,4] ?_;have hr:=Option.some.inj h;subst hr;exact⟨[(AY (AF p0 (1:Int))),(AA (2:Int)),(AB true)],⟨rfl,rfl,rfl,rfl,rfl,rfl,trivial⟩,rfl⟩
def JR (k:Nat) (p0:Aa):Option (Int×Bool×Aa):=
 if 0≤p0.f1∧p0.f1≤(p0.f0.size:Int)∧(p0.f0.size:Int)≤(p0.f0.size:Int)then(Jz k (p0.f0.extract p0.f1.toNat (p0.f0.size:Int).toNat)).bind fun t3=>
 some (t3.1,t3.2.2,(Aa.mk p0.f0 (AH (p0.f1+t3.2.1)) p0.f2))
 else none
theorem GM {k:Nat} {p0:Aa} {r:(Int×Bool×Aa)} (h:JR k p0=some r) {q0:Nat} {T0:AN}:Al Tryz.prog 127 [(.ptr q0 0)] ((q0,(.mem (CN p0)))::T0) (fun x H'=>x=.tup [(AY r.1),(AB r.2.1)]∧BS ((q0,(.mem (CN r.2.2)))::T0) H'):=by
 rw[JR.eq_1]at h;refine Al.intro (res:=[.tmp 2,.tmp 3]) Tryz.func127 rfl rfl rfl (Nat.le_of_ble_eq_true rfl) ?_;refine .a 6 ?_;refine .regQ (by rfl) (by decide+kernel) ?_;refine .a 8 ?_;obtain⟨g2,h⟩:=AD h;refine .c (x:=AI (p0.f0.extract p0.f1.toNat (p0.f0.size:Int).toNat)) (.sliceS rfl rfl rfl rfl g2 Tryz.underlying9) ?_;obtain⟨t3,et3,h⟩:=ob h;refine .c (.call (args:=[(AI (p0.f0.extract p0.f1.toNat (p0.f0.size:Int).toNat))]) rfl rfl TR ⟨rfl,rfl,trivial⟩ rfl (MX et3)) ?_;refine .a 18 ?_;refine .store 0 rfl rfl rfl rfl rfl rfl (.cast (.fldS (.fld0 .here)) rfl) rfl rfl DZ rfl ?_;refine .a 7 ?_;refine .nK [2,3] ?_;refine .rK [2,3] ?_;cases h;exact⟨[(AY t3.1),(AB t3.2.2)],⟨rfl,rfl,rfl,rfl,trivial⟩,rfl,(.cons 0 rfl (.refl _))⟩
def Ge (k:Nat) (x5:(Vector Int 4)):Option (Vector Int 4):=
 some (x5)
def Cv (k:Nat) (p1:Int):Nat→(Vector Int 4)→Int→Option (Vector Int 4)
 | 0,_,_=>none
 | j+1,x6,x7=>
   if x7≤(AH p1)then if 0≤(IntKind.i64.wrap (x7.tdiv (64:Int)))∧(IntKind.i64.wrap (x7.tdiv (64:Int)))<(4:Int)then if 0≤(u64 (x7.tmod (64:Int)))then if 0≤(IntKind.i64.wrap (x7.tdiv (64:Int)))∧(IntKind.i64.wrap (x7.tdiv (64:Int)))<(4:Int)then(Cv k p1 j) (BG x6 (IntKind.i64.wrap (x7.tdiv (64:Int))) (bits .or .u64 (Ag x6 (IntKind.i64.wrap (x7.tdiv (64:Int)))) (IntKind.u64.wrap ((1:Int)*2 ^ (min (u64 (x7.tmod (64:Int))).toNat IntKind.u64.bits))))) (AH (x7+(1:Int)))
   else none
   else none
   else none
   else Ge k x6
def MZ (k:Nat) (p0:Int) (p1:Int):Option (Vector Int 4):=
 Cv k p1 k (Vector.replicate 4 (0:Int)) (AH p0)
theorem Mo {k:Nat} {p0:Int} {p1:Int} {r:(Vector Int 4)} (h:MZ k p0 p1=some r):AM Tryz.prog 134 [(AY p0),(AY p1)] (Cc r):=by
 rw[MZ.eq_1]at h;refine AM.intro (res:=[.cell 4 120]) Tryz.func134 rfl rfl rfl (Nat.le_of_ble_eq_true rfl) ?_;refine .sr ?_;refine .alloc rfl 4 rfl (by decide) rfl Bq BP fun n3=>?_;refine .a 3 ?_;refine .alloc rfl 5 rfl (by decide) rfl Bq BP fun n4=>?_;refine .nS [0,1,4,5] [1,0] ?_;refine .seq_mid (fun ρ H=>∃ (x5:(Vector Int 4)),ρ=[(4,(.ptr n3 0)),(5,(.ptr n4 0))]∧H=[(Ba n3 ((Vector.replicate 4 (0:Int)).toList.map AL)),(Ba n4 (x5.toList.map AL))]∧Ge k x5=some r) ?_ ?_
 ·refine .a 7 ?_;refine .wK [1,4,5,6] ?_;refine .loop (fun kq ρ H=>∃ (x6:(Vector Int 4)) (x7:Int),ρ=[(1,(AY p1)),(4,(.ptr n3 0)),(5,(.ptr n4 0)),(6,(AA x7))]∧H=[(Ba n3 ((Vector.replicate 4 (0:Int)).toList.map AL)),(Ba n4 (x6.toList.map AL))]∧Cv k p1 kq x6 x7=some r) k ⟨(Vector.replicate 4 (0:Int)),(AH p0),rfl,rfl,h⟩ ?_;rintro kq9 _ _ ⟨x6,x7,rfl,rfl,h⟩
  cases kq9 with
  | zero=>rw[Cv.eq_1]at h;cases h
  | succ kq9=>
  rw[Cv.eq_2]at h;generalize hrec8:Cv k p1 kq9=rec8 at h;refine .a 8 ?_;rcases oi h with⟨c10,h⟩|⟨c10,h⟩
  ·refine .a 6 ?_;refine .c (x:=AA (IntKind.i64.wrap (x7.tdiv (64:Int)))) (.quo rfl rfl rfl (by decide)) ?_;obtain⟨g11,h⟩:=AD h;refine .c (.idxP rfl rfl rfl g11 Tryz.underlying120 BE) ?_;refine .c (.load 1 rfl rfl rfl (.cast (.vidx (IntKind.i64.wrap (x7.tdiv (64:Int))) g11.1 g11.2 .here) (by omega)) Ec BE) ?_;refine .mv rfl rfl ?_;refine .c (x:=AA (x7.tmod (64:Int))) (.rem rfl rfl rfl (by decide)) ?_;refine .a 1 ?_;obtain⟨g12,h⟩:=AD h;refine .c (x:=AL (IntKind.u64.wrap ((1:Int)*2 ^ (min (u64 (x7.tmod (64:Int))).toNat IntKind.u64.bits)))) (.shl rfl rfl rfl g12) ?_;refine .a 1 ?_;obtain⟨g13,h⟩:=AD h;refine .c (.idxP rfl rfl rfl g13 Tryz.underlying120 BE) ?_;refine .store 1 rfl rfl rfl rfl rfl rfl (.cast (.vidx (IntKind.i64.wrap (x7.tdiv (64:Int))) (bits .or .u64 (Ag x6 (IntKind.i64.wrap (x7.tdiv (64:Int)))) (IntKind.u64.wrap ((1:Int)*2 ^ (min (u64 (x7.tmod (64:Int))).toNat IntKind.u64.bits)))) g13.1 g13.2 .here) (by omega)) rfl rfl BE rfl ?_;refine .a 5 ?_;refine .nK [1,4,5,6] ?_;exact⟨kq9,Nat.lt_succ_self _,(BG x6 (IntKind.i64.wrap (x7.tdiv (64:Int))) (bits .or .u64 (Ag x6 (IntKind.i64.wrap (x7.tdiv (64:Int)))) (IntKind.u64.wrap ((1:Int)*2 ^ (min (u64 (x7.tmod (64:Int))).toNat IntKind.u64.bits))))),(AH (x7+(1:Int))),rfl,rfl,by rw[hrec8];exact h⟩
  refine .a 1 ?_;refine .eK [4,5] ?_;exact⟨x6,rfl,rfl,h⟩
 rintro _ _ ⟨x5,rfl,rfl,h⟩;rw[Ge.eq_1]at h;refine .a 3 ?_;refine .store 0 rfl rfl rfl rfl rfl rfl (.cast .here rfl) rfl (by simp[AV.size]) (by rw[BX];simp[AV.size]) rfl ?_;refine .nS [4] [0] ?_;refine .rK [4] ?_;have hr:=Option.some.inj h;subst hr;exact⟨[(.ar 1 (x5.toList.map AL))],⟨⟨_,0,rfl,rfl,Ft,(by rw[BX];simp[AV.size])⟩,trivial⟩,rfl⟩
def Gf (k:Nat) (x6:(Vector Int 4)):Option (Vector Int 4):=
 some (x6)
def Cq (k:Nat) (p1:(Vector Int 4)):Nat→(Vector Int 4)→Int→Option (Vector Int 4)
 | 0,_,_=>none
 | j+1,x7,x8=>
   if x8<(4:Int)then if 0≤x8∧x8<(4:Int)then if 0≤x8∧x8<(4:Int)then if 0≤x8∧x8<(4:Int)then(Cq k p1 j) (BG x7 x8 (bits .or .u64 (Ag x7 x8) (Ag p1 x8))) (AH (x8+(1:Int)))
   else none
   else none
   else none
   else Gf k x7
def P8 (k:Nat) (p0:(Vector Int 4)) (p1:(Vector Int 4)):Option (Vector Int 4):=
 Cq k p1 k p0 (0:Int)
theorem Md {k:Nat} {p0:(Vector Int 4)} {p1:(Vector Int 4)} {r:(Vector Int 4)} (h:P8 k p0 p1=some r):AM Tryz.prog 133 [(.ar 1 (p0.toList.map AL)),(.ar 1 (p1.toList.map AL))] (Cc r):=by
 rw[P8.eq_1]at h;refine AM.intro (res:=[.cell 4 120]) Tryz.func133 rfl rfl rfl (Nat.le_of_ble_eq_true rfl) ?_;refine .sr ?_;refine .box rfl 2 rfl (by decide) rfl rfl rfl fun n3=>?_;refine .box rfl 3 rfl (by decide) rfl rfl rfl fun n4=>?_;refine .alloc rfl 4 rfl (by decide) rfl Bq BP fun n5=>?_;refine .nS [2,3,4] [2,1,0] ?_;refine .seq_mid (fun ρ H=>∃ (x6:(Vector Int 4)),ρ=[(2,(.ptr n3 0)),(4,(.ptr n5 0))]∧H=[(Ba n3 (x6.toList.map AL)),(Ba n5 ((Vector.replicate 4 (0:Int)).toList.map AL))]∧Gf k x6=some r) ?_ ?_
 ·refine .a 5 ?_;refine .wK [2,3,4,6] ?_;refine .loop (fun kq ρ H=>∃ (x7:(Vector Int 4)) (x8:Int),ρ=[(2,(.ptr n3 0)),(3,(.ptr n4 0)),(4,(.ptr n5 0)),(6,(AA x8))]∧H=[(Ba n3 (x7.toList.map AL)),(Ba n4 (p1.toList.map AL)),(Ba n5 ((Vector.replicate 4 (0:Int)).toList.map AL))]∧Cq k p1 kq x7 x8=some r) k ⟨p0,(0:Int),rfl,rfl,h⟩ ?_;rintro kq10 _ _ ⟨x7,x8,rfl,rfl,h⟩
  cases kq10 with
  | zero=>rw[Cq.eq_1]at h;cases h
  | succ kq10=>
  rw[Cq.eq_2]at h;generalize hrec9:Cq k p1 kq10=rec9 at h;refine .a 5 ?_;rcases oi h with⟨c11,h⟩|⟨c11,h⟩
  ·refine .a 9 ?_;obtain⟨g12,h⟩:=AD h;obtain⟨g13,h⟩:=AD h;obtain⟨g14,h⟩:=AD h;refine .regAnyL rfl rfl (by rfl) (by decide+kernel) (by decide+kernel) [(AA x8),(.ptr n3 (0+x8.toNat*1)),(AL (Ag x7 x8)),(AA x8),(.ptr n4 (0+x8.toNat*1)),(AL (Ag p1 x8)),(AL (bits .or .u64 (Ag x7 x8) (Ag p1 x8))),(.ptr n3 (0+x8.toNat*1))] [(2,(.ptr n3 0)),(3,(.ptr n4 0)),(4,(.ptr n5 0)),(5,(AA x8)),(6,(AA x8))] ⟨rfl,rfl,rfl,rfl,rfl,trivial⟩ rfl ?_ [(2,(.ptr n3 0)),(3,(.ptr n4 0)),(4,(.ptr n5 0)),(6,(AA x8)),(15,(AL (bits .or .u64 (Ag x7 x8) (Ag p1 x8)))),(16,(.ptr n3 (0+x8.toNat*1)))] ⟨rfl,rfl,rfl,rfl,rfl,rfl,trivial⟩ ?_
   ·refine⟨?_,?_,?_,?_,?_,?_,?_,?_,trivial⟩
    ·refine .a 1 ?_;exact .q 9
    ·refine .a 1 ?_;exact .q 10
    ·refine .wK [10] ?_;refine .c (.load 0 rfl rfl rfl (.cast (.vidx x8 g12.1 g12.2 .here) (by omega)) Ec BE) ?_;exact .q 11
    ·refine .a 1 ?_;exact .q 12
    ·refine .a 1 ?_;exact .q 13
    ·refine .wK [13] ?_;refine .c (.load 1 rfl rfl rfl (.cast (.vidx x8 g13.1 g13.2 .here) (by omega)) Ec BE) ?_;exact .q 14
    ·refine .a 1 ?_;exact .q 15
    refine .a 1 ?_;exact .q 16
   refine .store 0 rfl rfl rfl rfl rfl rfl (.cast (.vidx x8 (bits .or .u64 (Ag x7 x8) (Ag p1 x8)) g14.1 g14.2 .here) (by omega)) rfl rfl BE rfl ?_;refine .a 4 ?_;refine .nK [2,3,4,6] ?_;exact⟨kq10,Nat.lt_succ_self _,(BG x7 x8 (bits .or .u64 (Ag x7 x8) (Ag p1 x8))),(AH (x8+(1:Int))),rfl,rfl,by rw[hrec9];exact h⟩
  refine .a 1 ?_;refine .eH [2,4] (H':=[(Ba n3 (x7.toList.map AL)),(Ba n5 ((Vector.replicate 4 (0:Int)).toList.map AL))]) (.cons 0 rfl (.cons 1 rfl (.nil _))) ?_;exact⟨x7,rfl,rfl,h⟩
 rintro _ _ ⟨x6,rfl,rfl,h⟩;rw[Gf.eq_1]at h;refine .a 3 ?_;refine .store 1 rfl rfl rfl rfl rfl rfl (.cast .here rfl) rfl (by simp[AV.size]) (by rw[BX];simp[AV.size]) rfl ?_;refine .nS [4] [1] ?_;refine .rK [4] ?_;have hr:=Option.some.inj h;subst hr;exact⟨[(.ar 1 (x6.toList.map AL))],⟨⟨_,0,rfl,rfl,Ft,(by rw[BX];simp[AV.size])⟩,trivial⟩,rfl⟩
def Gr (k:Nat) (x6:(Vector Int 4)):Option (Vector Int 4):=
 some (x6)
def Cp (k:Nat) (p1:(Vector Int 4)):Nat→(Vector Int 4)→Int→Option (Vector Int 4)
 | 0,_,_=>none
 | j+1,x7,x8=>
   if x8<(4:Int)then if 0≤x8∧x8<(4:Int)then if 0≤x8∧x8<(4:Int)then if 0≤x8∧x8<(4:Int)then(Cp k p1 j) (BG x7 x8 (bits .andNot .u64 (Ag x7 x8) (Ag p1 x8))) (AH (x8+(1:Int)))
   else none
   else none
   else none
   else Gr k x7
def Pp (k:Nat) (p0:(Vector Int 4)) (p1:(Vector Int 4)):Option (Vector Int 4):=
 Cp k p1 k p0 (0:Int)
theorem Mg {k:Nat} {p0:(Vector Int 4)} {p1:(Vector Int 4)} {r:(Vector Int 4)} (h:Pp k p0 p1=some r):AM Tryz.prog 138 [(.ar 1 (p0.toList.map AL)),(.ar 1 (p1.toList.map AL))] (Cc r):=by
 rw[Pp.eq_1]at h;refine AM.intro (res:=[.cell 4 120]) Tryz.func138 rfl rfl rfl (Nat.le_of_ble_eq_true rfl) ?_;refine .sr ?_;refine .box rfl 2 rfl (by decide) rfl rfl rfl fun n3=>?_;refine .box rfl 3 rfl (by decide) rfl rfl rfl fun n4=>?_;refine .alloc rfl 4 rfl (by decide) rfl Bq BP fun n5=>?_;refine .nS [2,3,4] [2,1,0] ?_;refine .seq_mid (fun ρ H=>∃ (x6:(Vector Int 4)),ρ=[(2,(.ptr n3 0)),(4,(.ptr n5 0))]∧H=[(Ba n3 (x6.toList.map AL)),(Ba n5 ((Vector.replicate 4 (0:Int)).toList.map AL))]∧Gr k x6=some r) ?_ ?_
 ·refine .a 5 ?_;refine .wK [2,3,4,6] ?_;refine .loop (fun kq ρ H=>∃ (x7:(Vector Int 4)) (x8:Int),ρ=[(2,(.ptr n3 0)),(3,(.ptr n4 0)),(4,(.ptr n5 0)),(6,(AA x8))]∧H=[(Ba n3 (x7.toList.map AL)),(Ba n4 (p1.toList.map AL)),(Ba n5 ((Vector.replicate 4 (0:Int)).toList.map AL))]∧Cp k p1 kq x7 x8=some r) k ⟨p0,(0:Int),rfl,rfl,h⟩ ?_;rintro kq10 _ _ ⟨x7,x8,rfl,rfl,h⟩
  cases kq10 with
  | zero=>rw[Cp.eq_1]at h;cases h
  | succ kq10=>
  rw[Cp.eq_2]at h;generalize hrec9:Cp k p1 kq10=rec9 at h;refine .a 5 ?_;rcases oi h with⟨c11,h⟩|⟨c11,h⟩
  ·refine .a 9 ?_;obtain⟨g12,h⟩:=AD h;obtain⟨g13,h⟩:=AD h;obtain⟨g14,h⟩:=AD h;refine .regAnyL rfl rfl (by rfl) (by decide+kernel) (by decide+kernel) [(AA x8),(.ptr n3 (0+x8.toNat*1)),(AL (Ag x7 x8)),(AA x8),(.ptr n4 (0+x8.toNat*1)),(AL (Ag p1 x8)),(AL (bits .andNot .u64 (Ag x7 x8) (Ag p1 x8))),(.ptr n3 (0+x8.toNat*1))] [(2,(.ptr n3 0)),(3,(.ptr n4 0)),(4,(.ptr n5 0)),(5,(AA x8)),(6,(AA x8))] ⟨rfl,rfl,rfl,rfl,rfl,trivial⟩ rfl ?_ [(2,(.ptr n3 0)),(3,(.ptr n4 0)),(4,(.ptr n5 0)),(6,(AA x8)),(15,(AL (bits .andNot .u64 (Ag x7 x8) (Ag p1 x8)))),(16,(.ptr n3 (0+x8.toNat*1)))] ⟨rfl,rfl,rfl,rfl,rfl,rfl,trivial⟩ ?_
   ·refine⟨?_,?_,?_,?_,?_,?_,?_,?_,trivial⟩
    ·refine .a 1 ?_;exact .q 9
    ·refine .a 1 ?_;exact .q 10
    ·refine .wK [10] ?_;refine .c (.load 0 rfl rfl rfl (.cast (.vidx x8 g12.1 g12.2 .here) (by omega)) Ec BE) ?_;exact .q 11
    ·refine .a 1 ?_;exact .q 12
    ·refine .a 1 ?_;exact .q 13
    ·refine .wK [13] ?_;refine .c (.load 1 rfl rfl rfl (.cast (.vidx x8 g13.1 g13.2 .here) (by omega)) Ec BE) ?_;exact .q 14
    ·refine .a 1 ?_;exact .q 15
    refine .a 1 ?_;exact .q 16
   refine .store 0 rfl rfl rfl rfl rfl rfl (.cast (.vidx x8 (bits .andNot .u64 (Ag x7 x8) (Ag p1 x8)) g14.1 g14.2 .here) (by omega)) rfl rfl BE rfl ?_;refine .a 4 ?_;refine .nK [2,3,4,6] ?_;exact⟨kq10,Nat.lt_succ_self _,(BG x7 x8 (bits .andNot .u64 (Ag x7 x8) (Ag p1 x8))),(AH (x8+(1:Int))),rfl,rfl,by rw[hrec9];exact h⟩
  refine .a 1 ?_;refine .eH [2,4] (H':=[(Ba n3 (x7.toList.map AL)),(Ba n5 ((Vector.replicate 4 (0:Int)).toList.map AL))]) (.cons 0 rfl (.cons 1 rfl (.nil _))) ?_;exact⟨x7,rfl,rfl,h⟩
 rintro _ _ ⟨x6,rfl,rfl,h⟩;rw[Gr.eq_1]at h;refine .a 3 ?_;refine .store 1 rfl rfl rfl rfl rfl rfl (.cast .here rfl) rfl (by simp[AV.size]) (by rw[BX];simp[AV.size]) rfl ?_;refine .nS [4] [1] ?_;refine .rK [4] ?_;have hr:=Option.some.inj h;subst hr;exact⟨[(.ar 1 (x6.toList.map AL))],⟨⟨_,0,rfl,rfl,Ft,(by rw[BX];simp[AV.size])⟩,trivial⟩,rfl⟩
def M4 (k:Nat) (p0:(Vector Int 4)):Option (Vector Int 4):=
 (MP k).bind fun t4=>
 (Pp k t4 p0).bind fun t5=>
 some (t5)
theorem MJ {k:Nat} {p0:(Vector Int 4)} {r:(Vector Int 4)} (h:M4 k p0=some r):AM Tryz.prog 135 [(.ar 1 (p0.toList.map AL))] (Cc r):=by
 rw[M4.eq_1]at h;refine AM.intro (res:=[.cell 2 120]) Tryz.func135 rfl rfl rfl (Nat.le_of_ble_eq_true rfl) ?_;refine .sr ?_;refine .box rfl 1 rfl (by decide) rfl rfl rfl fun n2=>?_;refine .alloc rfl 2 rfl (by decide) rfl Bq BP fun n3=>?_;refine .nS [1,2] [1,0] ?_;refine .seq ?_;obtain⟨t4,et4,h⟩:=ob h;obtain⟨t5,et5,h⟩:=ob h;refine .regAnyL rfl rfl (by rfl) (by decide+kernel) (by decide+kernel) [(.ar 1 (t4.toList.map AL)),(.ar 1 (p0.toList.map AL)),(.ar 1 (t5.toList.map AL))] [(1,(.ptr n2 0)),(2,(.ptr n3 0))] ⟨rfl,rfl,trivial⟩ rfl ?_ [(2,(.ptr n3 0)),(5,(.ar 1 (t5.toList.map AL)))] ⟨rfl,rfl,trivial⟩ ?_
 ·refine⟨?_,?_,?_,trivial⟩
  ·refine .wK [] ?_;refine .callS [] (.ar 1 (t4.toList.map AL)) 3 rfl (by decide) Q6 rfl rfl rfl trivial (H8 et4) ?_;exact .q 3
  ·refine .a 1 ?_;exact .q 4
  refine .wK [3,4] ?_;refine .callS [(.ar 1 (t4.toList.map AL)),(.ar 1 (p0.toList.map AL))] (.ar 1 (t5.toList.map AL)) 5 rfl (by decide) Sv rfl rfl rfl ⟨rfl,rfl,rfl,rfl,trivial⟩ (Mg et5) ?_;exact .q 5
 refine .store 1 rfl rfl rfl rfl rfl rfl (.cast .here rfl) rfl (by simp[AV.size]) (by rw[BX];simp[AV.size]) rfl ?_;refine .nS [2] [1] ?_;refine .rK [2] ?_;have hr:=Option.some.inj h;subst hr;exact⟨[(.ar 1 (t5.toList.map AL))],⟨⟨_,0,rfl,rfl,Ft,(by rw[BX];simp[AV.size])⟩,trivial⟩,rfl⟩
def Sp (k:Nat) (p0:(Vector Int 4)):Option Bool:=
 some (decide (p0=(Vector.replicate 4 (0:Int))))
theorem KM {k:Nat} {p0:(Vector Int 4)} {r:Bool} (h:Sp k p0=some r):AM Tryz.prog 88 [(.ar 1 (p0.toList.map AL))] (AB r):=by
 rw[Sp.eq_1]at h;refine AM.intro (res:=[.tmp 2]) Tryz.func88 rfl rfl rfl (Nat.le_of_ble_eq_true rfl) ?_;refine .sr ?_;refine .box rfl 1 rfl (by decide) rfl rfl rfl fun n2=>?_;refine .a 5 ?_;refine .c (x:=.ar 1 ((Vector.replicate 4 (0:Int)).toList.map AL)) (.buildAr (qs:=[]) rfl trivial Tryz.underlying120 BE Bq BP .nil rfl) ?_;refine .c (x:=AB (decide (p0=(Vector.replicate 4 (0:Int))))) (.eqA rfl rfl rfl Qe (PG p0 (Vector.replicate 4 (0:Int))) (by decide)) ?_;refine .a 1 ?_;refine .nS [2] [] ?_;refine .rK [2] ?_;cases h;exact⟨[(AB (decide (p0=(Vector.replicate 4 (0:Int)))))],⟨rfl,rfl,trivial⟩,rfl⟩
end Go.Avl.TC
