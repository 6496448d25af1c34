/- Parts: TCW, TCS1, TCP1, TCP2, TCP3, TCC1, TCC2, TCA0, TCN1, TCN2, TCM1, TCM2, TCM3, TCM4, TCP4, TCD0, TCG1, TCG2, TCP5. -/
import Derived.Test.YtpkgpmmcbpfenaaGreatAF1
import Derived.Test.YtpkgpmmcbpfenaaGreatAv3
import Derived.Laws.Bits64b
import Derived.Test.YtpkgpmmcbpfenaaGreatAF3
import Derived.Test.YtpkgpmmcbpfenaaGreatAF2
import Derived.Test.YtpkgpmmcbpfenaaGreatAF4
import Derived.Test.YtpkgpmmcbpfenaaGreatAF7
import Derived.Test.YtpkgpmmcbpfenaaGreatAF5
namespace Go.Avl.TC
open Go Go.RowKit Go.Proofs Go.Avl
set_option linter.unusedVariables false
set_option maxRecDepth 100000
abbrev WG (l:List B7):AV:=.fz 3 (l.map DT)
abbrev WQ (l:List ByteArray):AV:=.fz 1 (l.map AI)
abbrev WH (l:List A7):AV:=.fz 2 (l.map Ea)
abbrev WP (l:List Dx):AV:=.fz 6 (l.map Di)
abbrev WM (l:List IX):AV:=.fz 2 (l.map IV)
abbrev S2:ByteArray→Prop:=(fun s:ByteArray=>s.size≤9223372036854775807)
theorem Ua:BT Tryz.prog 9 AI S2:=I7 Tryz.underlying9
abbrev Qu:Int→Prop:=(fun n:Int=>(Lit.int .i64 n).wf=true)
theorem R7:BT Tryz.prog 3 AA Qu:=MF Tryz.underlying3
abbrev TA:B7→Prop:=(fun x:B7=>S2 x.f0∧Qu x.f1∧S2 x.f2)
theorem Vv:BT Tryz.prog 53 DT TA:=(CB Tryz.underlying53 K6 (Af rfl JZ (by decide) Ua (Af rfl DZ (by decide) R7 (Af rfl JZ (by decide) Ua (DB _))))).map (fun p=>B7.mk p.1 p.2.1 p.2.2.1) (fun _=>rfl) (fun _ h=>⟨h.1,h.2.1,h.2.2.1⟩)
abbrev S9:(List B7)→Prop:=(fun l:List B7=>l.length≤9223372036854775807∧∀ a∈l,TA a)
theorem Vi:BT Tryz.prog 22 WG S9:=B4 Tryz.underlying22 K6 Vv
abbrev Su:(List ByteArray)→Prop:=(fun l:List ByteArray=>l.length≤9223372036854775807∧∀ a∈l,S2 a)
theorem Vo:BT Tryz.prog 23 WQ Su:=B4 Tryz.underlying23 JZ Ua
abbrev V3:Bool→Prop:=(fun _:Bool=>True)
theorem WD:BT Tryz.prog 4 AB V3:=KX Tryz.underlying4
abbrev Tt:A7→Prop:=(fun x:A7=>V3 x.f0∧Qu x.f1)
theorem Uv:BT Tryz.prog 55 Ea Tt:=(CB Tryz.underlying55 Mb (Af rfl C1 (by decide) WD (Af rfl DZ (by decide) R7 (DB _)))).map (fun p=>A7.mk p.1 p.2.1) (fun _=>rfl) (fun _ h=>⟨h.1,h.2.1⟩)
abbrev T7:(List A7)→Prop:=(fun l:List A7=>l.length≤9223372036854775807∧∀ a∈l,Tt a)
theorem Uy:BT Tryz.prog 56 WH T7:=B4 Tryz.underlying56 Mb Uv
abbrev R9:(List Int)→Prop:=(fun l:List Int=>l.length≤9223372036854775807∧∀ a∈l,Qu a)
theorem Tj:BT Tryz.prog 40 GY R9:=B4 Tryz.underlying40 DZ R7
abbrev TT:Dx→Prop:=(fun x:Dx=>Qu x.f0∧S2 x.f1∧T7 x.f2∧V3 x.f3∧Qu x.f4∧R9 x.f5)
theorem V4:BT Tryz.prog 58 Di TT:=(CB Tryz.underlying58 HQ (Af rfl DZ (by decide) R7 (Af rfl JZ (by decide) Ua (Af rfl RH (by decide) Uy (Af rfl C1 (by decide) WD (Af rfl DZ (by decide) R7 (Af rfl G3 (by decide) Tj (DB _)))))))).map (fun p=>Dx.mk p.1 p.2.1 p.2.2.1 p.2.2.2.1 p.2.2.2.2.1 p.2.2.2.2.2.1) (fun _=>rfl) (fun _ h=>⟨h.1,h.2.1,h.2.2.1,h.2.2.2.1,h.2.2.2.2.1,h.2.2.2.2.2.1⟩)
abbrev S0:(List Dx)→Prop:=(fun l:List Dx=>l.length≤9223372036854775807∧∀ a∈l,TT a)
theorem Uk:BT Tryz.prog 24 WP S0:=B4 Tryz.underlying24 HQ V4
abbrev Ta:IX→Prop:=(fun x:IX=>Qu x.f0∧R9 x.f1)
theorem Vq:BT Tryz.prog 61 IV Ta:=(CB Tryz.underlying61 LC (Af rfl DZ (by decide) R7 (Af rfl G3 (by decide) Tj (DB _)))).map (fun p=>IX.mk p.1 p.2.1) (fun _=>rfl) (fun _ h=>⟨h.1,h.2.1⟩)
abbrev Tc:(List IX)→Prop:=(fun l:List IX=>l.length≤9223372036854775807∧∀ a∈l,Ta a)
theorem Vn:BT Tryz.prog 25 WM Tc:=B4 Tryz.underlying25 LC Vq
abbrev Sz:A6→Prop:=(fun x:A6=>S9 x.f0∧Su x.f1∧S0 x.f2∧Tc x.f3∧Qu x.f4)
theorem V6:BT Tryz.prog 27 BA Sz:=(CB Tryz.underlying27 SB (Af rfl TI (by decide) Vi (Af rfl S3 (by decide) Vo (Af rfl UI (by decide) Uk (Af rfl Tx (by decide) Vn (Af rfl DZ (by decide) R7 (DB _))))))).map (fun p=>A6.mk p.1 p.2.1 p.2.2.1 p.2.2.2.1 p.2.2.2.2.1) (fun _=>rfl) (fun _ h=>⟨h.1,h.2.1,h.2.2.1,h.2.2.2.1,h.2.2.2.2.1⟩)
end Go.Avl.TC
namespace Go.Avl.TC
open Go Go.RowKit Go.Proofs Go.Avl
set_option linter.all false
set_option maxRecDepth 10000
def U (a:Vector Int 4):Prop:=∀ j:Nat,j<4→0≤Ag a (j:Int)∧Ag a (j:Int)<18446744073709551616
def wd (a:Vector Int 4) (j:Nat):Nat:=(Ag a (j:Int)).toNat
def tb (a:Vector Int 4) (b:Nat):Bool:=(wd a (b / 64)).testBit (b%64)
theorem FE {a:Vector Int 4} (h:U a) (j:Nat) (hj:j<4):Ag a (j:Int)=(wd a j:Int)∧wd a j<18446744073709551616:=by
 have:=h j hj;unfold wd;omega
theorem C0 (v:Vector Int 4) (i j:Nat) (x:Int) (hi:i<4) (hj:j<4):Ag (BG v (i:Int) x) (j:Int)=if j=i then x else Ag v (j:Int):=by
 unfold Ag BG;rw[Int.toNat_natCast,Int.toNat_natCast,Vector.toList_setIfInBounds,List.getD,List.getD,List.getElem?_set];by_cases e:i=j
 ·subst e;rw[if_pos rfl,if_pos rfl,if_pos (by simpa using hi)];rfl
 ·rw[if_neg e,if_neg (fun h=>e h.symm)]
theorem VH {a c:Vector Int 4} (h:∀ j:Nat,j<4→Ag a (j:Int)=Ag c (j:Int)):a=c:=by
 apply Vector.toList_inj.1;apply List.ext_getElem
 ·simp
 ·intro j h1 h2;have hj:j<4:=by simpa using h1
  have:=h j hj;unfold Ag at this;rw[Int.toNat_natCast,List.getD,List.getD,List.getElem?_eq_getElem h1,List.getElem?_eq_getElem h2]at this;simpa using this
theorem JV {a c:Vector Int 4} (ha:U a) (hc:U c) (h:∀ b,b<256→tb a b=tb c b):a=c:=by
 apply VH;intro j hj;obtain⟨e1,l1⟩:=FE ha j hj;obtain⟨e2,l2⟩:=FE hc j hj;rw[e1,e2];congr 1;apply Nat.eq_of_testBit_eq;intro i;by_cases hi:i<64
 ·have:=h (64*j+i) (by omega);unfold tb at this;rwa [show (64*j+i) / 64=j by omega,show (64*j+i)%64=i by omega]at this
 ·have hp:18446744073709551616≤2 ^ i:=Nat.le_trans (by decide:18446744073709551616≤2 ^ 64) (Nat.pow_le_pow_right (by omega) (by omega));rw[Nat.testBit_lt_two_pow (by omega),Nat.testBit_lt_two_pow (by omega)]
theorem FK:U (Vector.replicate 4 (0:Int)):=by
 intro j hj;have:Ag (Vector.replicate 4 (0:Int)) (j:Int)=0:=by
  have:j=0∨j=1∨j=2∨j=3:=by omega
  rcases this with rfl|rfl|rfl|rfl<;>rfl
 rw[this];omega
theorem Fc (b:Nat) (hb:b<256):tb (Vector.replicate 4 (0:Int)) b=false:=by
 have hj:b / 64<4:=by omega
 have:Ag (Vector.replicate 4 (0:Int)) ((b / 64:Nat):Int)=0:=by
  generalize b / 64=j at hj;have:j=0∨j=1∨j=2∨j=3:=by omega
  rcases this with rfl|rfl|rfl|rfl<;>rfl
 unfold tb wd;rw[this];simp
theorem M1 {w:Nat} (hw:w<18446744073709551616) {i:Nat} (hi:i<64):bits .or .u64 (w:Int) (IntKind.u64.wrap ((1:Int)*2 ^ (min i IntKind.u64.bits)))=((w ||| 2 ^ i:Nat):Int)∧w ||| 2 ^ i<18446744073709551616:=by
 have hp:(2:Nat) ^ i<18446744073709551616:=Nat.lt_of_lt_of_le (Nat.pow_lt_pow_right (by omega) hi) (by decide:2 ^ 64≤18446744073709551616);have e:IntKind.u64.wrap ((1:Int)*2 ^ (min i IntKind.u64.bits))=((2 ^ i:Nat):Int):=by
  rw[show min i IntKind.u64.bits=i by show min i 64=i;omega];have:=FM (1*2 ^ i);unfold u64 at this;rw[this];have e3:((1:Int)*2 ^ i)=((2 ^ i:Nat):Int):=by simp
  rw[e3];generalize 2 ^ i=q at hp⊢
  omega
 rw[e,bits_or_u64_nat w (2 ^ i) hw hp];exact⟨rfl,Nat.or_lt_two_pow (n:=64) hw hp⟩
theorem JL {a:Vector Int 4} (h:U a) {b:Nat} (hb:b<256):∀ c,c=BG a ((b / 64:Nat):Int) (bits .or .u64 (Ag a ((b / 64:Nat):Int)) (IntKind.u64.wrap ((1:Int)*2 ^ (min (b%64) IntKind.u64.bits))))→U c∧∀ x,x<256→tb c x=(tb a x||decide (x=b)):=by
 rintro c rfl;have hj:b / 64<4:=by omega
 obtain⟨e,l⟩:=FE h (b / 64) hj;obtain⟨o1,o2⟩:=M1 l (i:=b%64) (by omega);rw[e,o1];constructor
 ·intro j hj';rw[C0 _ _ _ _ hj hj'];split
  ·omega
  ·exact h j hj'
 ·intro x hx;unfold tb wd;rw[C0 _ _ _ _ hj (by omega)];by_cases q:x / 64=b / 64
  ·rw[if_pos q,Int.toNat_natCast,Nat.testBit_or,Nat.testBit_two_pow,q];congr 1;rw[decide_eq_decide];omega
  ·rw[if_neg q];have:decide (x=b)=false:=decide_eq_false (fun e=>q (by rw[e]));rw[this,Bool.or_false]
theorem SE (x k:Nat) (hk:k≤64):Int.fdiv (x:Int) (2 ^ (min (k:Int).toNat IntKind.u64.bits))=((x / 2 ^ k:Nat):Int):=by
 rw[Int.toNat_natCast,show min k IntKind.u64.bits=k by show min k 64=k;omega,Int.fdiv_eq_ediv_of_nonneg _ (by exact_mod_cast Nat.zero_le _)]
 norm_cast
theorem N5 (i:Nat) (hi:i<100000):IntKind.i64.wrap ((i:Int).tdiv 64)=((i / 64:Nat):Int):=by
 have h1:(i:Int).tdiv 64=((i / 64:Nat):Int):=by rw[Int.tdiv_eq_ediv_of_nonneg (by omega)];omega
 rw[h1];have:=Ax (n:=((i / 64:Nat):Int)) (by omega) (by omega);exact this
theorem Ry (i:Nat) (hi:i<100000):u64 ((i:Int).tmod 64)=((i%64:Nat):Int):=by
 have h1:(i:Int).tmod 64=((i%64:Nat):Int):=by rw[Int.tmod_eq_emod_of_nonneg (by omega)];omega
 rw[h1,FM];omega
theorem Iy (i:Nat):(i:Int).tmod 64=((i%64:Nat):Int):=by rw[Int.tmod_eq_emod_of_nonneg (by omega)];omega
theorem Qy (i:Nat) (hi:i<256):IntKind.u8.wrap ((i:Int).tdiv 64)=((i / 64:Nat):Int):=by
 have h1:(i:Int).tdiv 64=((i / 64:Nat):Int):=by rw[Int.tdiv_eq_ediv_of_nonneg (by omega)];omega
 rw[h1];have:=G7 (n:=((i / 64:Nat):Int)) (by omega) (by omega);exact this
theorem LG {a:Vector Int 4} (ha:U a) {x:Nat} (hx:x<256):R3 20000 a (x:Int)=some (tb a x):=by
 obtain⟨e,l⟩:=FE ha (x / 64) (by omega);unfold R3;rw[Qy x hx,Iy,if_pos ⟨by omega,by omega⟩,if_pos (by omega),e,SE _ (x%64) (by omega)];have hb:=bits_and_u64_nat (wd a (x / 64) / 2 ^ (x%64)) 1 (Nat.lt_of_le_of_lt (Nat.div_le_self _ _) l) (by omega);have hb':bits .and .u64 ((wd a (x / 64) / 2 ^ (x%64):Nat):Int) 1=_:=hb;rw[hb'];unfold tb;congr 1;rw[Nat.and_one_is_mod];have h2:(wd a (x / 64)).testBit (x%64)=(wd a (x / 64) / 2 ^ (x%64)).testBit 0:=by
  rw[Nat.testBit_div_two_pow,Nat.zero_add]
 rw[h2,Nat.testBit_zero,decide_eq_decide];omega
theorem CH {x:Int} (h0: -1000000000000≤x) (h1:x≤1000000000000):AH x=x:=Ax (by omega) (by omega)
theorem J9 {α β:Type} {o:Option α} {f:α→Option β} {Q:β→Prop} (h:∃ b,o=some b) (k:∀ b,o=some b→∃ y,f b=some y∧Q y):∃ y,o.bind f=some y∧Q y:=by
 obtain⟨b,hb⟩:=h;obtain⟨y,y1,y2⟩:=k b hb;exact⟨y,by rw[hb,Option.bind_some];exact y1,y2⟩
theorem IE (x:Int):∃ v,JJ 20000 x=some v:=by
 unfold JJ;split
 ·rw[Option.bind_some];split
  ·exact⟨_,rfl⟩
  ·split
   ·rw[Option.bind_some];split<;>exact⟨_,rfl⟩
   ·exact⟨_,rfl⟩
 ·rw[Option.bind_some,if_neg (by decide)];split
  ·rw[Option.bind_some];split<;>exact⟨_,rfl⟩
  ·exact⟨_,rfl⟩
def EQ (s:ByteArray) (y:Int×Int×Bool):Prop:=∃ c n:Nat,y=((c:Int),(n:Int),y.2.2)∧c<256∧n≤s.size∧(y.2.2=true→1≤n)
theorem EQ.mk {s:ByteArray} {c:Int} {n:Nat} {b:Bool} (h:0≤c∧c≤255) (hn:n≤s.size) (hb:b=true→1≤n):EQ s (c,(n:Int),b):=by
 obtain⟨m,rfl⟩:=Int.eq_ofNat_of_zero_le h.1;exact⟨m,n,rfl,by omega,hn,hb⟩
theorem WN (x:Int):0≤w8 x∧w8 x≤255:=by rw[Qk];omega
theorem Mk (s:ByteArray):∃ y,Jz 20000 s=some y∧EQ s y:=by
 have c1:∃ y,Fi 20000=some y∧EQ s y:=⟨_,rfl,EQ.mk (n:=0) (by omega) (Nat.zero_le _) (fun h=>by cases h)⟩;unfold Jz;by_cases e:s=ByteArray.mk #[]
 ·rw[if_pos e];exact⟨_,rfl,EQ.mk (n:=0) (by omega) (Nat.zero_le _) (fun h=>by cases h)⟩
 ·rw[if_neg e];have hs:0<s.size:=by
   refine Classical.byContradiction fun q=>e ?_;have h0:s.size=0:=by omega
   have h1:s.data.size=0:=h0
   cases s with
   | mk d=>congr 1;exact Array.eq_empty_of_size_eq_zero h1
  have u0:=A5 s 0;have u1:=A5 s 1;rw[if_pos ⟨by omega,by omega⟩];by_cases b:AF s 0≠92
  ·rw[if_pos b,if_pos ⟨by omega,by omega⟩];exact⟨_,rfl,EQ.mk (n:=1) u0 (by omega) (fun _=>Nat.le_refl _)⟩
  ·rw[if_neg b];by_cases c:(s.size:Int)<2
   ·rw[if_pos c];exact⟨_,rfl,EQ.mk (n:=0) (by omega) (Nat.zero_le _) (fun h=>by cases h)⟩
   ·rw[if_neg c,if_pos ⟨by omega,by omega⟩];split
    ·exact⟨_,rfl,EQ.mk (n:=2) (by omega) (by omega) (fun _=>by omega)⟩
    ·split
     ·exact⟨_,rfl,EQ.mk (n:=2) (by omega) (by omega) (fun _=>by omega)⟩
     ·split
      ·exact⟨_,rfl,EQ.mk (n:=2) (by omega) (by omega) (fun _=>by omega)⟩
      ·split
       ·unfold Ez;obtain⟨v2,e2⟩:=IE (AF s 2);obtain⟨v3,e3⟩:=IE (AF s 3);by_cases q:(4:Int)≤(s.size:Int)
        ·have g2:(0:Int)≤2∧(2:Int)<(s.size:Int):=⟨by omega,by omega⟩;have g3:(0:Int)≤3∧(3:Int)<(s.size:Int):=⟨by omega,by omega⟩;rw[if_pos q];refine J9 ?_ fun b hb=>?_
         ·rw[if_pos g2,e2,Option.bind_some];by_cases v:0≤v2
          ·rw[if_pos v,if_pos g3,e3,Option.bind_some];exact⟨_,rfl⟩
          ·rw[if_neg v];exact⟨_,rfl⟩
         ·cases b with
          | true=>
            rw[if_pos rfl,if_pos g2,e2,Option.bind_some,if_pos g3,e3,Option.bind_some];exact⟨_,rfl,EQ.mk (n:=4) (WN _) (by omega) (fun _=>by omega)⟩
          | false=>exact c1
        ·rw[if_neg q,Option.bind_some,if_neg (by decide)];exact c1
       ·split
        ·exact c1
        ·unfold CO;refine J9 (by repeat' (first|exact⟨_,rfl⟩|split)) fun b hb=>?_
         cases b with
         | true=>exact⟨_,rfl,EQ.mk (n:=0) (by omega) (Nat.zero_le _) (fun h=>by cases h)⟩
         | false=>exact⟨_,rfl,EQ.mk (n:=2) u1 (by omega) (fun _=>by omega)⟩
theorem Nj (x:Int):PQ 20000 x=some (if x=0∨x=1 then 0 else if x=4∨x=5∨x=6 then 1 else if x=2∨x=3 then 2 else -1):=by
 unfold PQ Gz GG Gx;by_cases h0:x=0
 ·subst h0;rfl
 by_cases h1:x=1
 ·subst h1;rfl
 by_cases h2:x=2
 ·subst h2;rfl
 by_cases h3:x=3
 ·subst h3;rfl
 by_cases h4:x=4
 ·subst h4;rfl
 by_cases h5:x=5
 ·subst h5;rfl
 by_cases h6:x=6
 ·subst h6;rfl
 simp[h0,h1,h2,h3,h4,h5,h6]
def UX (k:Int):AE:=AE.mk k (Vector.replicate 4 0)
theorem Qz {k:Int} (hk:k=2∨k=3) {a b:List AE} (ha:a.length≤100000) (hb:b.length≤100000):My 20000 k [a,b]=some (a++b++[UX k]):=by
 have hl:([a,b]:List (List AE)).length=2:=rfl;have g0:AC [a,b] (0:Int)=a:=rfl;have g1:AC [a,b] (1:Int)=b:=rfl;have w1:AH ((0:Int)+1)=1:=CH (by omega) (by omega);have w2:AH ((1:Int)+1)=2:=CH (by omega) (by omega);have ht:PQ 20000 k=some 2:=by rcases hk with rfl|rfl<;>rfl
 unfold My;rw[ht,Option.bind_some,hl,if_neg (by decide),Option.bind_some,decide_eq_false (by decide),if_neg (by decide),show (20000:Nat)=19997+1+1+1 from rfl,DG.eq_2,hl,if_pos (by decide),if_pos (by decide),g0,if_pos (by simp;omega),w1,DG.eq_2,hl,if_pos (by decide),if_pos (by decide),g1,if_pos (by simp;omega),w2,DG.eq_2,hl,if_neg (by decide)];unfold HX;rw[if_pos (by simp;omega),List.nil_append];rfl
theorem T2 {k:Int} (hk:k=4∨k=5∨k=6) {a:List AE} (ha:a.length≤100000):My 20000 k [a]=some (a++[UX k]):=by
 have hl:([a]:List (List AE)).length=1:=rfl;have g0:AC [a] (0:Int)=a:=rfl;have w1:AH ((0:Int)+1)=1:=CH (by omega) (by omega);have ht:PQ 20000 k=some 1:=by rcases hk with rfl|rfl|rfl<;>rfl
 unfold My;rw[ht,Option.bind_some,hl,if_neg (by decide),Option.bind_some,decide_eq_false (by decide),if_neg (by decide),show (20000:Nat)=19998+1+1 from rfl,DG.eq_2,hl,if_pos (by decide),if_pos (by decide),g0,if_pos (by simp;omega),w1,DG.eq_2,hl,if_neg (by decide)];unfold HX;rw[if_pos (by simp;omega),List.nil_append];rfl
def PR (s:ByteArray) (a:Nat) (o:Option (List AE×Bool×Aa)):Prop:=
 ∃ (l:List AE) (ok:Bool) (a':Nat) (dp:Int),o=some (l,ok,Aa.mk s (a':Int) dp)∧a≤a'∧a'≤s.size∧(∀ p∈l,U p.f1)∧l.length≤2*(a'-a)+1∧(ok=true→l.length+1≤2*(a'-a))
theorem PR.one {s:ByteArray} {a a':Nat} (h:a≤a') (h2:a'≤s.size) {v:Vector Int 4} (hv:U v) (k dp:Int) (b:Bool) (hb:b=true→a<a'):PR s a (some ([AE.mk k v],b,Aa.mk s (a':Int) dp)):=
 ⟨_,b,a',dp,rfl,h,h2,(fun p hp=>by rw[List.mem_singleton.1 hp];exact hv),by simp,fun q=>by have:=hb q;simp;omega⟩
theorem HE (a b:Nat) (ha:a<256) (hb:b<256):bits .or .u8 (a:Int) (b:Int)=((a ||| b:Nat):Int)∧a ||| b<256:=by
 have hx:a ||| b<2 ^ 8:=Nat.or_lt_two_pow (by omega) (by omega);have h1:(BitVec.ofInt 8 (a:Int)).toNat=a:=by
  rw[BitVec.ofInt_natCast,BitVec.toNat_ofNat];exact Nat.mod_eq_of_lt (by omega)
 have h2:(BitVec.ofInt 8 (b:Int)).toNat=b:=by
  rw[BitVec.ofInt_natCast,BitVec.toNat_ofNat];exact Nat.mod_eq_of_lt (by omega)
 refine⟨?_,hx⟩;show IntKind.u8.wrap ((BitVec.ofInt 8 (a:Int) ||| BitVec.ofInt 8 (b:Int)).toNat:Int)=_;rw[BitVec.toNat_or,h1,h2];exact G7 (by omega) (by omega)
def sg (L:List (Vector Int 4)) (b x:Nat):Bool:=decide (x<L.length)&&tb (L.getD x default) b
def bt (row:List Int) (x:Nat):Bool:=(row.getD (x / 8) 0).toNat.testBit (x%8)
def HV (L:List (Vector Int 4)) (b q i:Nat) (row:List Int):Prop:=
 row.length=q∧(∀ x∈row,0≤x∧x≤255)∧∀ x,x<8*q→bt row x=(decide (x<i)&&sg L b x)
theorem QB {L:List (Vector Int 4)} {b q i:Nat} {row:List Int} (h:HV L b q i row) (hi:i<8*q) (hs:sg L b i=true):
 HV L b q (i+1) (Ac row ((i / 8:Nat):Int) (bits .or .u8 (AC row ((i / 8:Nat):Int)) (IntKind.u8.wrap ((1:Int)*2 ^ (min (i%8) IntKind.u8.bits))))):=by
 obtain⟨h1,h2,h3⟩:=h;have hj:i / 8<row.length:=by omega
 have el:AC row ((i / 8:Nat):Int)=row[i / 8]:=by
  unfold AC;rw[Int.toNat_natCast,List.getD,List.getElem?_eq_getElem hj];rfl
 have hb:=h2 row[i / 8] (List.getElem_mem hj);obtain⟨w,hw⟩:∃ w:Nat,row[i / 8]=w:=⟨row[i / 8].toNat,by omega⟩;have hp:(2:Nat) ^ (i%8)<256:=Nat.lt_of_lt_of_le (Nat.pow_lt_pow_right (by omega) (by omega:i%8<8)) (by decide:2 ^ 8≤256);have e5:IntKind.u8.wrap ((1:Int)*2 ^ (min (i%8) IntKind.u8.bits))=((2 ^ (i%8):Nat):Int):=by
  rw[show min (i%8) IntKind.u8.bits=i%8 by show min (i%8) 8=i%8;omega];have e3:((1:Int)*2 ^ (i%8))=((2 ^ (i%8):Nat):Int):=by simp
  rw[e3];generalize 2 ^ (i%8)=z at hp⊢
  exact G7 (by omega) (by omega)
 obtain⟨o1,o2⟩:=HE w (2 ^ (i%8)) (by omega) hp;rw[el,hw,e5,o1];refine⟨by unfold Ac;rw[List.length_set];exact h1,fun x hx=>?_,fun x hx=>?_⟩
 ·unfold Ac at hx;rcases List.mem_or_eq_of_mem_set hx with h|h
  ·exact h2 x h
  ·rw[h];omega
 ·have hb0:=h3 x hx;unfold bt Ac at *
  rw[Int.toNat_natCast];by_cases r:x / 8=i / 8
  ·rw[r,List.getD,List.getElem?_set_self hj];rw[r,List.getD,List.getElem?_eq_getElem hj,hw]at hb0;simp only[Option.getD_some,Int.toNat_natCast]at hb0⊢
   rw[Nat.testBit_or,hb0,Nat.testBit_two_pow];by_cases u:x=i
   ·subst u;rw[hs];simp
   ·rw[decide_eq_false (p:=i%8=x%8) (by omega),Bool.or_false];congr 1;rw[decide_eq_decide];omega
  ·rw[List.getD,List.getElem?_set_ne (fun h=>r h.symm)];rw[List.getD]at hb0;rw[hb0];congr 1;rw[decide_eq_decide];have:x≠i:=fun h=>r (by rw[h]);omega
theorem PP {L:List (Vector Int 4)} {b q i:Nat} {row:List Int} (h:HV L b q i row) (hs:sg L b i=false):HV L b q (i+1) row:=by
 obtain⟨h1,h2,h3⟩:=h;refine⟨h1,h2,fun x hx=>?_⟩;rw[h3 x hx];by_cases u:x=i
 ·subst u;rw[hs];simp
 ·congr 1;rw[decide_eq_decide];omega
theorem OZ (L:List (Vector Int 4)) (hL:∀ a∈L,U a) (b:Nat) (hb:b<256) (q:Nat) (hq:L.length≤8*q) (hz:q≤8000):∀ (m i fuel:Nat) (row:List Int),i+m=L.length→m<fuel→HV L b q i row→
 ∃ row',CM 20000 L (b:Int) fuel row i=some (strOfNums row')∧HV L b q L.length row'
 | 0,i,f+1,row,h,_,hr=>by
   rw[CM.eq_2,if_neg (by omega),Ia];exact⟨row,rfl,by rw[show L.length=i by omega];exact hr⟩
 | m+1,i,f+1,row,h,hf,hr=>by
   have hi:i<L.length:=by omega
   have g:0≤(i:Int)∧(i:Int)<(L.length:Int):=⟨by omega,by omega⟩;have eb:AC L (i:Int)=L[i]:=by
    unfold AC;rw[show (i:Int).toNat=i by omega,List.getD,List.getElem?_eq_getElem hi];rfl
   have ed:L.getD i default=L[i]:=by rw[List.getD,List.getElem?_eq_getElem hi];rfl
   have hs:sg L b i=tb L[i] b:=by unfold sg;rw[decide_eq_true hi,Bool.true_and,ed]
   have e1:IntKind.i64.wrap ((i:Int).tdiv 8)=((i / 8:Nat):Int):=by
    have h1:(i:Int).tdiv 8=((i / 8:Nat):Int):=by rw[Int.tdiv_eq_ediv_of_nonneg (by omega)];omega
    rw[h1];have:=Ax (n:=((i / 8:Nat):Int)) (by omega) (by omega);exact this
   have e2:u64 ((i:Int).tmod 8)=((i%8:Nat):Int):=by
    have h1:(i:Int).tmod 8=((i%8:Nat):Int):=by rw[Int.tmod_eq_emod_of_nonneg (by omega)];omega
    rw[h1,FM];omega
   have hlen:=hr.1;rw[CM.eq_2,if_pos g.2,if_pos g,eb,LG (hL _ (List.getElem_mem hi)) hb,Option.bind_some];by_cases t:tb L[i] b=true
   ·rw[if_pos t,e1,e2,if_pos ⟨by omega,by omega⟩,if_pos (by omega),if_pos ⟨by omega,by omega⟩,Int.toNat_natCast];unfold FN;rw[Ax (by omega) (by omega)];have:=OZ L hL b hb q hq hz m (i+1) f _ (by omega) (by omega) (QB hr (by omega) (by rw[hs];exact t));exact_mod_cast this
   ·rw[if_neg t];unfold FN;rw[Ax (by omega) (by omega)];have:=OZ L hL b hb q hq hz m (i+1) f row (by omega) (by omega) (PP hr (by rw[hs];simpa using t));exact_mod_cast this
theorem OB (L:List (Vector Int 4)) (hL:∀ a∈L,U a) (hn:L.length≤8000) (b:Nat) (hb:b<256):∃ row,O5 20000 L (b:Int)=some (strOfNums row)∧HV L b ((L.length+7) / 8) L.length row:=by
 have e:IntKind.i64.wrap ((AH ((L.length:Int)+7)).tdiv 8)=(((L.length+7) / 8:Nat):Int):=by
  rw[Ax (by omega) (by omega)];have h1:((L.length:Int)+7).tdiv 8=(((L.length+7) / 8:Nat):Int):=by rw[Int.tdiv_eq_ediv_of_nonneg (by omega)];omega
  rw[h1];have:=Ax (n:=(((L.length+7) / 8:Nat):Int)) (by omega) (by omega);exact this
 unfold O5;rw[e,if_pos ⟨by omega,by omega,by omega⟩,Int.toNat_natCast]
 have:=OZ L hL b hb ((L.length+7) / 8) (by omega) (by omega) L.length 0 20000 (List.replicate ((L.length+7) / 8) 0) (by omega) (by omega) ⟨by simp,fun x hx=>by rw[(List.mem_replicate.1 hx).2];omega,fun x hx=>by
  unfold bt
  rw[List.getD,List.getElem?_replicate,if_pos (by omega)];simp⟩
 exact this
theorem QK {L:List (Vector Int 4)} {b c q:Nat} (hq:L.length≤8*q) {r s:List Int} (hr:HV L b q L.length r) (hs:HV L c q L.length s):strOfNums r=strOfNums s↔∀ x,sg L b x=sg L c x:=by
 constructor
 ·intro h x;have e:=E5 hr.2.1 hs.2.1 h;by_cases hx:x<L.length
  ·have h1:=hr.2.2 x (by omega);have h2:=hs.2.2 x (by omega);rw[e,h2,decide_eq_true hx,Bool.true_and,Bool.true_and]at h1;exact h1.symm
  ·unfold sg;rw[decide_eq_false hx];rfl
 ·intro h;congr 1;apply List.ext_getElem (by rw[hr.1,hs.1]);intro j h1 h2;have b1:=hr.2.1 r[j] (List.getElem_mem h1);have b2:=hs.2.1 s[j] (List.getElem_mem h2);have:r[j].toNat=s[j].toNat:=by
   apply Nat.eq_of_testBit_eq;intro t;by_cases ht:t<8
   ·have k1:=hr.2.2 (8*j+t) (by have:=hr.1;omega);have k2:=hs.2.2 (8*j+t) (by have:=hr.1;omega);rw[h]at k1;rw[←k2]at k1;unfold bt at k1;rw[show (8*j+t) / 8=j by omega,show (8*j+t)%8=t by omega,List.getD,List.getD,List.getElem?_eq_getElem h1,List.getElem?_eq_getElem h2]at k1;exact k1
   ·have hp:256≤2 ^ t:=Nat.le_trans (by decide:256≤2 ^ 8) (Nat.pow_le_pow_right (by omega) (by omega));rw[Nat.testBit_lt_two_pow (by omega),Nat.testBit_lt_two_pow (by omega)]
  omega
def Q3 (e:Nat→Bool) (b:Nat):Nat→Nat→Nat
 | 0,_=>b
 | f+1,i=>if e i=true then i else Q3 e b f (i+1)
theorem Jq (e:Nat→Bool) (b:Nat) (hb:e b=true):∀ (f i:Nat),i+f=b→Q3 e b f i≤b∧i≤Q3 e b f i∧e (Q3 e b f i)=true∧∀ c,i≤c→c<Q3 e b f i→e c=false
 | 0,i,h=>by rw[Q3];exact⟨by omega,by omega,hb,fun c h1 h2=>by omega⟩
 | f+1,i,h=>by
   rw[Q3];by_cases q:e i=true
   ·rw[if_pos q];exact⟨by omega,by omega,q,fun c h1 h2=>by omega⟩
   ·rw[if_neg q];obtain⟨h1,h2,h3,h4⟩:=Jq e b hb f (i+1) (by omega);refine⟨h1,by omega,h3,fun c k1 k2=>?_⟩;by_cases r:c=i
    ·subst r;simpa using q
    ·exact h4 c (by omega) k2
section
variable (kk:Nat→ByteArray)
def rc (b:Nat):Nat:=Q3 (fun c=>decide (kk c=kk b)) b b 0
theorem E0 (b:Nat):rc kk b≤b∧kk (rc kk b)=kk b∧∀ c,c<rc kk b→kk c≠kk b:=by
 obtain⟨h1,h2,h3,h4⟩:=Jq (fun c=>decide (kk c=kk b)) b (by simp) b 0 (by omega);exact⟨h1,of_decide_eq_true h3,fun c hc=>of_decide_eq_false (h4 c (by omega) hc)⟩
theorem QH {b r:Nat} (h1:kk r=kk b) (h2:∀ c,c<r→kk c≠kk b):rc kk b=r:=by
 obtain⟨k1,k2,k3⟩:=E0 kk b;rcases Nat.lt_trichotomy (rc kk b) r with h|h|h
 ·exact absurd k2 (h2 _ h)
 ·exact h
 ·exact absurd h1 (k3 _ h)
theorem MB {b c:Nat} (h:kk c=kk b):rc kk c=rc kk b:=by
 obtain⟨k1,k2,k3⟩:=E0 kk b;exact QH kk (by rw[k2,h]) (fun d hd=>by rw[h];exact k3 d hd)
theorem TO (b:Nat):rc kk (rc kk b)=rc kk b:=MB kk (E0 kk b).2.1
def nc:Nat→Nat
 | 0=>0
 | b+1=>nc b+if rc kk b=b then 1 else 0
theorem Nq (b:Nat):nc kk b≤b:=by
 induction b with
 | zero=>exact Nat.le_refl _
 | succ b ih=>rw[nc];split<;>omega
theorem Pj {b c:Nat} (h:b≤c):nc kk b≤nc kk c:=by
 induction h with
 | refl=>exact Nat.le_refl _
 | step _ ih=>rw[nc];omega
def ck (b:Nat):Nat:=nc kk (rc kk b)
theorem QR {b c:Nat} (h:kk c=kk b):ck kk c=ck kk b:=by unfold ck;rw[MB kk h]
theorem Qm (b:Nat):ck kk b≤b:=Nat.le_trans (Nq kk _) (E0 kk b).1
theorem I9 (v:Vector Int 256) (i j:Nat) (x:Int) (hi:i<256) (hj:j<256):Ag (BG v (i:Int) x) (j:Int)=if j=i then x else Ag v (j:Int):=by
 unfold Ag BG;rw[Int.toNat_natCast,Int.toNat_natCast,Vector.toList_setIfInBounds,List.getD,List.getD,List.getElem?_set];by_cases e:i=j
 ·subst e;rw[if_pos rfl,if_pos rfl,if_pos (by simpa using hi)];rfl
 ·rw[if_neg e,if_neg (fun h=>e h.symm)]
def Qs (b:Nat) (m:List (ByteArray×Int)):Prop:=
 m.length=nc kk b∧(∀ c,c<b→An m (kk c)=some (ck kk c:Int))∧∀ s,(∀ c,c<b→kk c≠s)→An m s=none
theorem HF {L:List (Vector Int 4)} (hk:∀ b:Nat,b<256→O5 20000 L (b:Int)=some (kk b)):∀ (m b fuel:Nat) (v:Vector Int 256) (mp:List (ByteArray×Int)),b+m=256→m<fuel→Qs kk b mp→(∀ c,c<b→Ag v (c:Int)=(ck kk c:Int))→
 ∃ v',DA 20000 L fuel v mp b=some v'∧∀ c:Nat,c<256→Ag v' (c:Int)=(ck kk c:Int)
 | 0,b,f+1,v,mp,h,_,_,hv=>by
   rw[DA.eq_2,if_neg (by omega),Im];exact⟨v,rfl,fun c hc=>hv c (by omega)⟩
 | m+1,b,f+1,v,mp,h,hf,hm,hv=>by
   have hb:b<256:=by omega
   have hcl:=Qm kk b;have fin:∀ mp',Qs kk (b+1) mp'→∃ v',Fy 20000 (DA 20000 L f) v (b:Int) mp' (ck kk b:Int)=some v'∧∀ c:Nat,c<256→Ag v' (c:Int)=(ck kk c:Int):=by
    intro mp' hm';unfold Fy;rw[if_pos ⟨by omega,by omega⟩,G7 (by omega) (by omega),Ax (by omega) (by omega)]
    have:=HF hk m (b+1) f (BG v (b:Int) (ck kk b:Int)) mp' (by omega) (by omega) hm' (fun c hc=>by
     rw[I9 _ _ _ _ hb (by omega)];by_cases q:c=b
     ·subst q;rw[if_pos rfl]
     ·rw[if_neg q];exact hv c (by omega))
    exact_mod_cast this
   rw[DA.eq_2,if_pos (by omega),G7 (by omega) (by omega),hk b hb,Option.bind_some];obtain⟨r1,r2,r3⟩:=E0 kk b;obtain⟨m1,m2,m3⟩:=hm;by_cases q:rc kk b=b
   ·have hn:An mp (kk b)=none:=m3 _ (fun c hc=>r3 c (by omega));have hc:ck kk b=nc kk b:=by unfold ck;rw[q]
    rw[hn,if_pos (by rfl),m1, ←hc];refine fin _ ⟨?_,fun c hc'=>?_,fun s hs=>?_⟩
    ·rw[Ms hn,List.length_append,m1,nc,if_pos q];rfl
    ·rw[Dz];by_cases r:c=b
     ·subst r;rw[if_pos rfl]
     ·rw[if_neg (fun h=>r3 c (by omega) h.symm),m2 c (by omega)]
    ·rw[Dz,if_neg (hs b (by omega)),m3 s (fun c hc=>hs c (by omega))]
   ·have hg:An mp (kk b)=some (ck kk b:Int):=by
     rw[←r2,m2 _ (by omega),QR kk r2]
    rw[hg,if_neg (by simp)];refine fin mp ⟨by rw[m1,nc,if_neg q];rfl,fun c hc'=>?_,fun s hs=>m3 s (fun c hc=>hs c (by omega))⟩;by_cases r:c=b
    ·subst r;exact hg
    ·exact m2 c (by omega)
end
end Go.Avl.TC
namespace Go.Avl.TC
open Go Go.RowKit Go.Proofs Go.Avl
theorem Ai {α:Type} [Inhabited α] (l:List α) (i:Nat) (h:i<l.length):AC l (i:Int)=l[i]:=by simp[AC,List.getD,List.getElem?_eq_getElem h]
end Go.Avl.TC
namespace Go.Avl.TC
open Go Go.RowKit Go.Proofs Go.Avl
set_option linter.all false
set_option maxRecDepth 10000
theorem BN {α:Type} (l:List α) (i:Int) (x:α):(Ac l i x).length=l.length:=by simp[Ac]
def NN (n:Ay):Nat:=n.f0.toNat
def SU (n:Ay) (e:AR):Bool:=decide (0≤e.f0∧e.f0<n.f0∧0≤e.f1∧e.f1<n.f0)
def VB (n:Ay):Bool:=decide (0≤n.f2∧n.f2<n.f0∧0≤n.f3∧n.f3<n.f0)
def UW (n:Ay):Bool:=VB n&&n.f1.all (SU n)
theorem Ls (n:Ay) (hl:n.f1.length≤8000):∀ (d i m:Nat),i+d=n.f1.length→d<m→ED 20000 n m (i:Int)=some ((n.f1.drop i).all (SU n))
 | 0,i,m+1,hi,_=>by
   rw[ED.eq_2,if_neg (by omega),Iz,List.drop_of_length_le (by omega)];simp
 | d+1,i,m+1,hi,hm=>by
   have hi':i<n.f1.length:=by omega
   have g:0≤(i:Int)∧(i:Int)<(n.f1.length:Int):=⟨by omega,by omega⟩;have ih:=Ls n hl d (i+1) m (by omega) (by omega);rw[ED.eq_2,if_pos g.2,if_pos g,Ai _ i hi',List.drop_eq_getElem_cons hi',Ax (by omega) (by omega),show (i:Int)+1=((i+1:Nat):Int)by omega,ih];have key:(if n.f1[i].f0<(0:Int)then some true else if n.f0≤n.f1[i].f0 then some true else if n.f1[i].f1<(0:Int)then some true else some (decide (n.f0≤n.f1[i].f1)))=some (!SU n n.f1[i]):=by
    unfold SU;by_cases a1:n.f1[i].f0<(0:Int)
    ·rw[if_pos a1,decide_eq_false (by omega)];rfl
    ·rw[if_neg a1];by_cases a2:n.f0≤n.f1[i].f0
     ·rw[if_pos a2,decide_eq_false (by omega)];rfl
     ·rw[if_neg a2];by_cases a3:n.f1[i].f1<(0:Int)
      ·rw[if_pos a3,decide_eq_false (by omega)];rfl
      ·rw[if_neg a3];by_cases a4:n.f0≤n.f1[i].f1
       ·rw[decide_eq_true a4,decide_eq_false (by omega)];rfl
       ·rw[decide_eq_false a4,decide_eq_true (by omega)];rfl
   rw[key,Option.bind_some,List.all_cons];cases SU n n.f1[i]
   ·rw[if_pos (by decide)];rfl
   ·rw[if_neg (by decide),Bool.true_and]
theorem Js (n:Ay) (hl:n.f1.length≤8000):Sl 20000 n=some (UW n):=by
 unfold Sl UW VB;have key:(if n.f2<(0:Int)then some true else if n.f0≤n.f2 then some true else if n.f3<(0:Int)then some true else some (decide (n.f0≤n.f3)))=some (!decide (0≤n.f2∧n.f2<n.f0∧0≤n.f3∧n.f3<n.f0)):=by
  by_cases a1:n.f2<(0:Int)
  ·rw[if_pos a1,decide_eq_false (by omega)];rfl
  ·rw[if_neg a1];by_cases a2:n.f0≤n.f2
   ·rw[if_pos a2,decide_eq_false (by omega)];rfl
   ·rw[if_neg a2];by_cases a3:n.f3<(0:Int)
    ·rw[if_pos a3,decide_eq_false (by omega)];rfl
    ·rw[if_neg a3];by_cases a4:n.f0≤n.f3
     ·rw[decide_eq_true a4,decide_eq_false (by omega)];rfl
     ·rw[decide_eq_false a4,decide_eq_true (by omega)];rfl
 have:=Ls n hl n.f1.length 0 20000 (by omega) (by omega);rw[key,Option.bind_some];cases decide (0≤n.f2∧n.f2<n.f0∧0≤n.f3∧n.f3<n.f0)
 ·rfl
 ·simpa using this
structure Rt (n:Ay):Prop where
 first:0≤n.f2∧n.f2<n.f0
 last:0≤n.f3∧n.f3<n.f0
 ed:∀ e∈n.f1,0≤e.f0∧e.f0<n.f0∧0≤e.f1∧e.f1<n.f0
 n1:n.f0≤8000
 n2:n.f1.length≤8000
 u:∀ e∈n.f1,U e.f2
theorem Rt.nn {n:Ay} (h:Rt n):((NN n:Nat):Int)=n.f0:=by have:=h.first;unfold NN;omega
theorem Rt.rt {n:Ay} (h:Rt n):UW n=true:=by
 simp only[UW,VB,Bool.and_eq_true,decide_eq_true_eq,List.all_eq_true,SU];exact⟨⟨h.first.1,h.first.2,h.last⟩,h.ed⟩
def Fn (s:List Bool×Bool) (e:AR):List Bool×Bool:=if e.f3=true∧AC s.1 e.f0=true∧AC s.1 e.f1=false then(Ac s.1 e.f1 true,true)else s
def Bi (l:List AR) (s:List Bool×Bool):List Bool×Bool:=l.foldl Fn s
theorem Gd (s:List Bool×Bool) (e:AR):(Fn s e).1.length=s.1.length:=by
 unfold Fn;split
 ·exact BN _ _ _
 ·rfl
theorem CZ:∀ (l:List AR) (s:List Bool×Bool),(Bi l s).1.length=s.1.length
 | [],s=>rfl
 | e::l,s=>by
   show (Bi l (Fn s e)).1.length=_;rw[CZ l,Gd]
theorem Pf {x:List Bool} {e:AR} (N:Nat) (hx:x.length=N) (he:0≤e.f0∧e.f0<(N:Int)∧0≤e.f1∧e.f1<(N:Int)):
 (if e.f3=true then if 0≤e.f0∧e.f0<(x.length:Int)then if(AC x e.f0)=true then if 0≤e.f1∧e.f1<(x.length:Int)then some (!(AC x e.f1))else none else some false else none else some false)=some (decide (e.f3=true∧AC x e.f0=true∧AC x e.f1=false)):=by
 have g0:0≤e.f0∧e.f0<(x.length:Int):=⟨he.1,by omega⟩;have g1:0≤e.f1∧e.f1<(x.length:Int):=⟨he.2.2.1,by omega⟩;rw[if_pos g0,if_pos g1];cases e.f3<;>cases AC x e.f0<;>cases AC x e.f1<;>simp
theorem HR {n:Ay} (h:Rt n) (rec9:List Bool→Bool→Option (List Bool)):∀ (d i m:Nat) (x:List Bool) (b:Bool),i+d=n.f1.length→d<m→x.length=NN n→
 Dj 20000 rec9 n m x b (i:Int)=rec9 (Bi (n.f1.drop i) (x,b)).1 (Bi (n.f1.drop i) (x,b)).2
 | 0,i,m+1,x,b,hi,_,hx=>by
   rw[Dj.eq_2,if_neg (by omega),List.drop_of_length_le (by omega)];rfl
 | d+1,i,m+1,x,b,hi,hm,hx=>by
   have hi':i<n.f1.length:=by omega
   have g:0≤(i:Int)∧(i:Int)<(n.f1.length:Int):=⟨by omega,by omega⟩;have he:=h.ed n.f1[i] (List.getElem_mem hi');have hN:=h.n2;have hf:=h.first;have hnn:=h.nn;rw[Dj.eq_2,if_pos g.2,if_pos g,Ai _ i hi',List.drop_eq_getElem_cons hi',Pf (NN n) hx ⟨he.1,by have:=he.2.1;omega,he.2.2.1,by have:=he.2.2.2;omega⟩,Option.bind_some];show _=rec9 (Bi (n.f1.drop (i+1)) (Fn (x,b) n.f1[i])).1 (Bi (n.f1.drop (i+1)) (Fn (x,b) n.f1[i])).2;unfold Fn;by_cases q:n.f1[i].f3=true∧AC x n.f1[i].f0=true∧AC x n.f1[i].f1=false
   ·rw[if_pos (decide_eq_true q),if_pos q,if_pos ⟨he.2.2.1,by have:=he.2.2.2;omega⟩,GE,Ax (by omega) (by omega)];have ih:=HR h rec9 d (i+1) m (Ac x n.f1[i].f1 true) true (by omega) (by omega) (by rw[BN,hx]);exact_mod_cast ih
   ·rw[if_neg (by simpa using q),if_neg q,GE,Ax (by omega) (by omega)];have ih:=HR h rec9 d (i+1) m x b (by omega) (by omega) hx;exact_mod_cast ih
def cnt (x:List Bool):Nat:=x.count true
theorem JT (x:List Bool):cnt x≤x.length:=List.count_le_length
theorem MA:∀ (x:List Bool) (i:Nat),i<x.length→x[i]? =some false→cnt (x.set i true)=cnt x+1
 | b::x,0,_,h=>by simp at h;subst h;simp[cnt]
 | b::x,i+1,hi,h=>by
   have:=MA x i (by simpa using hi) (by simpa using h);simp only[cnt,List.set_cons_succ,List.count_cons]at this⊢
   omega
theorem Pe (s:List Bool×Bool) (e:AR) (he:0≤e.f1∧e.f1<(s.1.length:Int)):Fn s e=s∨((Fn s e).2=true∧cnt (Fn s e).1=cnt s.1+1):=by
 unfold Fn;split
 ·rename_i q;refine .inr ⟨rfl,?_⟩;have hi:e.f1.toNat<s.1.length:=by omega
  refine MA s.1 e.f1.toNat hi ?_;have:=q.2.2;unfold AC at this;rw[List.getD,List.getElem?_eq_getElem hi]at this;rw[List.getElem?_eq_getElem hi];simpa using this
 ·exact .inl rfl
theorem Fd (N:Int):∀ (l:List AR) (s:List Bool×Bool),(∀ e∈l,0≤e.f1∧e.f1<N)→(s.1.length:Int)=N→Bi l s=s∨((Bi l s).2=true∧cnt s.1<cnt (Bi l s).1)
 | [],s,_,_=>.inl rfl
 | e::l,s,h,hs=>by
   have ih:=Fd N l (Fn s e) (fun e' h'=>h e' (by simp[h'])) (by rw[Gd];exact hs);show Bi l (Fn s e)=s∨((Bi l (Fn s e)).2=true∧cnt s.1<cnt (Bi l (Fn s e)).1);rcases Pe s e (by rw[hs];exact h e (by simp))with q|⟨q1,q2⟩
   ·rw[q]at ih⊢;exact ih
   ·rcases ih with r|⟨r1,r2⟩
    ·rw[r];exact .inr ⟨q1,by omega⟩
    ·exact .inr ⟨r1,by omega⟩
def cl (l:List AR):Nat→List Bool→List Bool
 | 0,x=>x
 | k+1,x=>if(Bi l (x,false)).2=true then cl l k (Bi l (x,false)).1 else(Bi l (x,false)).1
theorem M6 (l:List AR):∀ (k:Nat) (x:List Bool),(cl l k x).length=x.length
 | 0,_=>rfl
 | k+1,x=>by
   rw[cl];split
   ·rw[M6 l k,CZ]
   ·rw[CZ]
theorem L6 {n:Ay} (h:Rt n):∀ (j:Nat) (x:List Bool),x.length=NN n→NN n-cnt x<j→cl n.f1 j x=cl n.f1 (j+1) x
 | 0,x,_,h=>by omega
 | j+1,x,hx,hj=>by
   rw[cl,cl];split
   ·rename_i q;have hp:=CZ n.f1 (x,false);have hle:=JT (Bi n.f1 (x,false)).1;have hf:=h.first;have hnn:=h.nn;rcases Fd n.f0 n.f1 (x,false) (fun e he=>⟨(h.ed e he).2.2.1,(h.ed e he).2.2.2⟩) (by show (x.length:Int)=_;omega)with r|⟨_,r⟩
    ·rw[r]at q;cases q
    ·have r':cnt x<cnt (Bi n.f1 (x,false)).1:=r;have hp':(Bi n.f1 (x,false)).1.length=x.length:=hp;exact L6 h j _ (hp'.trans hx) (by rw[hp']at hle;omega)
   ·rfl
def CL (n:Ay) (x:List Bool):List Bool:=cl n.f1 (NN n+1) x
theorem M9 (n:Ay) (x:List Bool):(CL n x).length=x.length:=M6 _ _ _
theorem UP {n:Ay} (h:Rt n) {x:List Bool} (hx:x.length=NN n):∀ {j:Nat},NN n-cnt x<j→cl n.f1 j x=CL n x:=by
 have up:∀ (d j:Nat),NN n-cnt x<j→cl n.f1 j x=cl n.f1 (j+d) x:=by
  intro d
  induction d with
  | zero=>intro j _;rfl
  | succ d ih=>intro j hj;rw[ih j hj,L6 h (j+d) x hx (by omega)];rfl
 intro j hj;unfold CL;rcases Nat.le_total j (NN n+1)with q|q
 ·have:=up (NN n+1-j) j hj;rwa [show j+(NN n+1-j)=NN n+1 by omega]at this
 ·have:=up (j - (NN n+1)) (NN n+1) (by omega);rw[show NN n+1+(j - (NN n+1))=j by omega]at this;exact this.symm
theorem KE {n:Ay} (h:Rt n):∀ (m:Nat) (x:List Bool),x.length=NN n→NN n-cnt x+1<m→C9 20000 n m x true=some (cl n.f1 m x)
 | m+1,x,hx,hm=>by
   have h2:=h.n2;rw[C9.eq_2,if_pos rfl];have e:=HR h (C9 20000 n m) n.f1.length 0 20000 x false (by omega) (by omega) hx;rw[Int.natCast_zero,List.drop_zero]at e;rw[e,cl];have hp:=CZ n.f1 (x,false);have hp':(Bi n.f1 (x,false)).1.length=x.length:=hp;by_cases q:(Bi n.f1 (x,false)).2=true
   ·rw[if_pos q,q];have hf:=h.first;have hnn:=h.nn;have hle:=JT (Bi n.f1 (x,false)).1;rcases Fd n.f0 n.f1 (x,false) (fun e he=>⟨(h.ed e he).2.2.1,(h.ed e he).2.2.2⟩) (by show (x.length:Int)=_;omega)with r|⟨_,r⟩
    ·rw[r]at q;cases q
    ·have r':cnt x<cnt (Bi n.f1 (x,false)).1:=r;exact KE h m _ (hp'.trans hx) (by rw[hp']at hle;omega)
   ·rw[if_neg q]
    cases m with
    | zero=>omega
    | succ m=>rw[C9.eq_2,if_neg q,I1]
def Sh (n:Ay) (x:List Bool):List Bool:=Cn (List.replicate (NN n) false) x
theorem LW (n:Ay) (x:List Bool):(Sh n x).length=NN n:=by unfold Sh;rw[Ep,List.length_replicate]
theorem J4 {n:Ay} {x:List Bool} (hx:x.length=NN n):Sh n x=x:=by
 unfold Sh Cn;rw[List.length_replicate,List.take_of_length_le (by omega),List.drop_of_length_le (by simp;omega),List.append_nil]
theorem J2 {n:Ay} (h:Rt n) (x:List Bool):Sg 20000 n x=some (CL n (Sh n x)):=by
 have h1:=h.n1;have hf:=h.first;have hnn:=h.nn;unfold Sg;rw[show n.f0.toNat=NN n from rfl];rw[if_pos ⟨by omega,by omega,by omega⟩];show C9 20000 n 20000 (Sh n x) true=_;rw[KE h 20000 _ (LW n x) (by omega),UP h (LW n x) (by omega)]
def Qa (x:List Bool) (b:Nat) (o:List Bool) (e:AR):List Bool:=if e.f3=false∧e.f0<(x.length:Int)∧AC x e.f0=true∧tb e.f2 b=true then Ac o e.f1 true else o
def MV (n:Ay) (x:List Bool) (b:Nat):List Bool:=n.f1.foldl (Qa x b) (List.replicate (NN n) false)
theorem Pa (x:List Bool) (b:Nat) (o:List Bool) (e:AR):(Qa x b o e).length=o.length:=by
 unfold Qa;split
 ·exact BN _ _ _
 ·rfl
theorem La (x:List Bool) (b:Nat):∀ (l:List AR) (o:List Bool),(l.foldl (Qa x b) o).length=o.length
 | [],_=>rfl
 | e::l,o=>by rw[List.foldl_cons,La x b l,Pa]
theorem Or (n:Ay) (x:List Bool) (b:Nat):(MV n x b).length=NN n:=by unfold MV;rw[La,List.length_replicate]
theorem QC {x:List Bool} {e:AR} {t:Option Bool} {b:Nat} (he:0≤e.f0) (ht:t=some (tb e.f2 b)):
 (if(!(e.f3))=true then if e.f0<(x.length:Int)then if 0≤e.f0∧e.f0<(x.length:Int)then if(AC x e.f0)=true then t.bind fun t22=>some (t22)else some (false)else none else some (false)else some (false))=some (decide (e.f3=false∧e.f0<(x.length:Int)∧AC x e.f0=true∧tb e.f2 b=true)):=by
 subst ht;by_cases q:e.f0<(x.length:Int)
 ·cases e.f3<;>cases AC x e.f0<;>simp[q,he]
 ·cases e.f3<;>simp[q]
theorem Kd {n:Ay} (h:Rt n) (x:List Bool) {b:Nat} (hb:b<256):∀ (d i m:Nat) (o:List Bool),i+d=n.f1.length→d<m→o.length=NN n→
 DW 20000 n x (b:Int) m o (i:Int)=some ((n.f1.drop i).foldl (Qa x b) o)
 | 0,i,m+1,o,hi,_,ho=>by
   rw[DW.eq_2,if_neg (by omega),List.drop_of_length_le (by omega),JP];rfl
 | d+1,i,m+1,o,hi,hm,ho=>by
   have hi':i<n.f1.length:=by omega
   have g:0≤(i:Int)∧(i:Int)<(n.f1.length:Int):=⟨by omega,by omega⟩;have he:=h.ed n.f1[i] (List.getElem_mem hi');have hN:=h.n2;have hf:=h.first;have hnn:=h.nn;rw[DW.eq_2,if_pos g.2,if_pos g,Ai _ i hi',List.drop_eq_getElem_cons hi',QC he.1 (LG (h.u _ (List.getElem_mem hi')) hb),Option.bind_some,List.foldl_cons];unfold Qa;by_cases q:n.f1[i].f3=false∧n.f1[i].f0<(x.length:Int)∧AC x n.f1[i].f0=true∧tb n.f1[i].f2 b=true
   ·rw[if_pos (decide_eq_true q),if_pos q,if_pos ⟨he.2.2.1,by have:=he.2.2.2;omega⟩,F1,Ax (by omega) (by omega)];have ih:=Kd h x hb d (i+1) m (Ac o n.f1[i].f1 true) (by omega) (by omega) (by rw[BN,ho]);unfold Qa at ih;exact_mod_cast ih
   ·rw[if_neg (by simpa using q),if_neg q,F1,Ax (by omega) (by omega)];have ih:=Kd h x hb d (i+1) m o (by omega) (by omega) ho;unfold Qa at ih;exact_mod_cast ih
theorem QW {n:Ay} (h:Rt n) (x:List Bool) {c:Int} (h0:0≤c) (h1:c≤255):TD 20000 n x c=some (MV n x c.toNat):=by
 obtain⟨b,rfl⟩:=Int.eq_ofNat_of_zero_le h0;have hn1:=h.n1;have hn2:=h.n2;have hf:=h.first;have hnn:=h.nn;unfold TD;rw[show n.f0.toNat=NN n from rfl];rw[if_pos ⟨by omega,by omega,by omega⟩];have:=Kd h x (b:=b) (by omega) n.f1.length 0 20000 (List.replicate (NN n) false) (by omega) (by omega) (by simp);rw[Int.natCast_zero,List.drop_zero]at this;exact this
theorem Dr (l:List Bool) (i q:Int) (h0:0≤i) (h1:i<(l.length:Int)) (hq:0≤q):AC (Ac l i true) q=(decide (q=i)||AC l q):=by
 unfold AC Ac;rw[List.getD,List.getD,List.getElem?_set];by_cases e:i.toNat=q.toNat
 ·rw[if_pos e,if_pos (by omega),decide_eq_true (by omega)];rfl
 ·rw[if_neg e,decide_eq_false (by omega)];rfl
theorem OT (N:Nat) (q:Int):AC (List.replicate N false) q=false:=by
 unfold AC;rw[List.getD,List.getElem?_replicate];split<;>rfl
inductive FR (l:List AR):Int→Int→Prop
 | refl (p:Int):FR l p p
 | tail {p:Int} {e:AR}:FR l p e.f0→e∈l→e.f3=true→FR l p e.f1
theorem FR.trans {l:List AR} {p q r:Int} (h:FR l p q) (k:FR l q r):FR l p r:=by
 induction k with
 | refl=>exact h
 | tail _ he hf ih=>exact .tail ih he hf
def Rz (L:List AR) (x o:List Bool):Prop:=∀ q:Int,0≤q→AC o q=true→∃ p,0≤p∧AC x p=true∧FR L p q
theorem QP {L:List AR} {x:List Bool} {s:List Bool×Bool} {e:AR} (he:e∈L) (h0:0≤e.f0) (h1:0≤e.f1∧e.f1<(s.1.length:Int)) (h:Rz L x s.1):Rz L x (Fn s e).1:=by
 unfold Fn;split
 ·rename_i c;intro q hq hg;simp only[]at hg;rw[Dr s.1 e.f1 q h1.1 h1.2 hq,Bool.or_eq_true,decide_eq_true_eq]at hg;rcases hg with rfl|hg
  ·obtain⟨p,p1,p2,p3⟩:=h e.f0 h0 c.2.1;exact⟨p,p1,p2,.tail p3 he c.1⟩
  ·exact h q hq hg
 ·exact h
theorem Jb {L:List AR} {x:List Bool} {N:Int}:∀ (l:List AR) (s:List Bool×Bool),(∀ e∈l,e∈L∧0≤e.f0∧0≤e.f1∧e.f1<N)→(s.1.length:Int)=N→Rz L x s.1→Rz L x (Bi l s).1
 | [],s,_,_,h=>h
 | e::l,s,hl,hs,h=>by
   have he:=hl e (by simp);show Rz L x (Bi l (Fn s e)).1;exact Jb l _ (fun e' h'=>hl e' (by simp[h'])) (by rw[Gd];exact hs) (QP he.1 he.2.1 ⟨he.2.2.1,by rw[hs];exact he.2.2.2⟩ h)
theorem NU {s:List Bool×Bool} {e:AR} (h1:0≤e.f1∧e.f1<(s.1.length:Int)) {q:Int} (hq:0≤q) (h:AC s.1 q=true):AC (Fn s e).1 q=true:=by
 unfold Fn;split
 ·show AC (Ac s.1 e.f1 true) q=true;rw[Dr s.1 e.f1 q h1.1 h1.2 hq,h,Bool.or_true]
 ·exact h
theorem IH {N:Int} {q:Int} (hq:0≤q):∀ (l:List AR) (s:List Bool×Bool),(∀ e∈l,0≤e.f1∧e.f1<N)→(s.1.length:Int)=N→AC s.1 q=true→AC (Bi l s).1 q=true
 | [],s,_,_,h=>h
 | e::l,s,hl,hs,h=>by
   show AC (Bi l (Fn s e)).1 q=true;exact IH hq l _ (fun e' h'=>hl e' (by simp[h'])) (by rw[Gd];exact hs) (NU (by rw[hs];exact hl e (by simp)) hq h)
theorem IR:∀ (l:List AR) (s:List Bool×Bool),s.2=true→(Bi l s).2=true
 | [],s,h=>h
 | e::l,s,h=>by
   show (Bi l (Fn s e)).2=true;refine IR l _ ?_;unfold Fn;split
   ·rfl
   ·exact h
theorem GR:∀ (l:List AR) (x:List Bool),(Bi l (x,false)).2=false→(Bi l (x,false)).1=x∧∀ e∈l,e.f3=true→AC x e.f0=true→AC x e.f1=true
 | [],x,_=>⟨rfl,fun e he=>by cases he⟩
 | e::l,x,h=>by
   have h':(Bi l (Fn (x,false) e)).2=false:=h;show (Bi l (Fn (x,false) e)).1=x∧_;have hs:Fn (x,false) e=(x,false)∧¬ (e.f3=true∧AC x e.f0=true∧AC x e.f1=false):=by
    by_cases c:e.f3=true∧AC x e.f0=true∧AC x e.f1=false
    ·have hf:(Fn (x,false) e).2=true:=by unfold Fn;rw[if_pos c]
     rw[IR l _ hf]at h';cases h'
    ·exact⟨by unfold Fn;rw[if_neg c],c⟩
   rw[hs.1]at h'⊢
   obtain⟨k1,k2⟩:=GR l x h';refine⟨k1,fun e' he' f1 f2=>?_⟩;rcases List.mem_cons.1 he' with rfl|he'
   ·cases q:AC x e'.f1 with
    | true=>rfl
    | false=>exact absurd ⟨f1,f2,q⟩ hs.2
   ·exact k2 e' he' f1 f2
theorem NQ {n:Ay} (h:Rt n) {x0:List Bool}:∀ (k:Nat) (x:List Bool),x.length=NN n→Rz n.f1 x0 x→Rz n.f1 x0 (cl n.f1 k x)
 | 0,x,_,hs=>hs
 | k+1,x,hx,hs=>by
   have hnn:=h.nn;have hp:=Jb (L:=n.f1) (x:=x0) (N:=n.f0) n.f1 (x,false) (fun e he=>⟨he,(h.ed e he).1,(h.ed e he).2.2.1,(h.ed e he).2.2.2⟩) (by show (x.length:Int)=_;omega) hs;rw[cl];split
   ·exact NQ h k _ ((CZ _ _).trans hx) hp
   ·exact hp
theorem Lq {n:Ay} (h:Rt n) {q:Int} (hq:0≤q):∀ (k:Nat) (x:List Bool),x.length=NN n→AC x q=true→AC (cl n.f1 k x) q=true
 | 0,x,_,hs=>hs
 | k+1,x,hx,hs=>by
   have hnn:=h.nn;have hp:=IH (N:=n.f0) hq n.f1 (x,false) (fun e he=>⟨(h.ed e he).2.2.1,(h.ed e he).2.2.2⟩) (by show (x.length:Int)=_;omega) hs;rw[cl];split
   ·exact Lq h hq k _ ((CZ _ _).trans hx) hp
   ·exact hp
theorem H9 {n:Ay} (h:Rt n):∀ (k:Nat) (x:List Bool),x.length=NN n→NN n-cnt x<k→∀ e∈n.f1,e.f3=true→AC (cl n.f1 k x) e.f0=true→AC (cl n.f1 k x) e.f1=true
 | 0,x,_,hk=>by omega
 | k+1,x,hx,hk=>by
   have hnn:=h.nn;rw[cl];split
   ·rename_i q;have hp:=CZ n.f1 (x,false);have hp':(Bi n.f1 (x,false)).1.length=x.length:=hp;have hle:=JT (Bi n.f1 (x,false)).1;rcases Fd n.f0 n.f1 (x,false) (fun e he=>⟨(h.ed e he).2.2.1,(h.ed e he).2.2.2⟩) (by show (x.length:Int)=_;omega)with r|⟨_,r⟩
    ·rw[r]at q;cases q
    ·have r':cnt x<cnt (Bi n.f1 (x,false)).1:=r;exact H9 h k _ (hp'.trans hx) (by rw[hp']at hle;omega)
   ·rename_i q;obtain⟨k1,k2⟩:=GR n.f1 x (by simpa using q);rw[k1];exact k2
theorem O3 {n:Ay} (h:Rt n) {x:List Bool} (hx:x.length=NN n) {q:Int} (hq:0≤q):AC (CL n x) q=true↔∃ p,0≤p∧AC x p=true∧FR n.f1 p q:=by
 constructor
 ·intro hg;exact NQ h (NN n+1) x hx (fun q h0 h1=>⟨q,h0,h1,.refl q⟩) q hq hg
 ·rintro⟨p,p0,p1,p2⟩;have base:=Lq h p0 (NN n+1) x hx p1;have key:∀ r,FR n.f1 p r→AC (CL n x) r=true:=by
   intro r hr
   induction hr with
   | refl=>exact base
   | tail _ he hf ih=>exact H9 h (NN n+1) x hx (by omega) _ he hf ih
  exact key q p2
inductive Qv (n:Ay) (s:ByteArray):Nat→Int→Prop
 | start:Qv n s 0 n.f2
 | free {i:Nat} {e:AR}:Qv n s i e.f0→e∈n.f1→e.f3=true→Qv n s i e.f1
 | byte {i:Nat} {e:AR}:Qv n s i e.f0→e∈n.f1→e.f3=false→tb e.f2 (AF s i).toNat=true→Qv n s (i+1) e.f1
theorem Qv.fr {n:Ay} {s:ByteArray} {i:Nat} {p q:Int} (h:Qv n s i p) (k:FR n.f1 p q):Qv n s i q:=by
 induction k with
 | refl=>exact h
 | tail _ he hf ih=>exact .free ih he hf
theorem w6 {x:Int} (h0: -1000000000000≤x) (h1:x≤1000000000000):AH x=x:=Ax (by omega) (by omega)
def ss:List AR→List (Vector Int 4)
 | []=>[]
 | e::l=>if e.f3=true then ss l else e.f2::ss l
theorem NT:∀ l,(ss l).length≤l.length
 | []=>Nat.le_refl _
 | e::l=>by
   have:=NT l;unfold ss;split<;>simp<;>omega
theorem SG:∀ {l:List AR},(∀ e∈l,U e.f2)→∀ a∈ss l,U a
 | [],_,a,h=>by cases h
 | e::l,hu,a,h=>by
   unfold ss at h;split at h
   ·exact SG (fun e' h'=>hu e' (by simp[h'])) a h
   ·rcases List.mem_cons.1 h with rfl|h
    ·exact hu e (by simp)
    ·exact SG (fun e' h'=>hu e' (by simp[h'])) a h
theorem KW (n:Ay) (hz:n.f1.length≤8000):∀ (m i fuel:Nat) (a:List (Vector Int 4)),i+m=n.f1.length→m<fuel→a.length≤i→Db 20000 n fuel a (i:Int)=some (a++ss (n.f1.drop i))
 | 0,i,f+1,a,hi,_,_=>by
   rw[Db.eq_2,if_neg (by omega),List.drop_of_length_le (by omega),ss,List.append_nil];rfl
 | m+1,i,f+1,a,hi,hf,ha=>by
   have hi':i<n.f1.length:=by omega
   rw[Db.eq_2,if_pos (by omega),if_pos ⟨by omega,by omega⟩,Ai _ i hi',List.drop_eq_getElem_cons hi',ss];unfold Hf;rw[w6 (by omega) (by omega)]
   cases b:n.f1[i].f3 with
   | true=>
     rw[if_neg (by decide),if_pos rfl];exact_mod_cast KW n hz m (i+1) f a (by omega) (by omega) (by omega)
   | false=>
     have ih:=KW n hz m (i+1) f (a++[n.f1[i].f2]) (by omega) (by omega) (by simp;omega);rw[List.append_assoc]at ih;rw[if_pos (by decide),if_pos (by simp;omega),if_neg (by decide)];exact_mod_cast ih
theorem Pl (n:Ay) (hz:n.f1.length≤8000):Ub 20000 n=some (ss n.f1):=by
 have:=KW n hz n.f1.length 0 20000 [] (by omega) (by omega) (by simp);rw[Int.natCast_zero,List.drop_zero,List.nil_append]at this;exact this
structure CK (n:Ay) (kk:Nat→ByteArray):Prop where
 hk:∀ b:Nat,b<256→O5 20000 (ss n.f1) (b:Int)=some (kk b)
 iff:∀ b c:Nat,b<256→c<256→(kk b=kk c↔∀ x,sg (ss n.f1) b x=sg (ss n.f1) c x)
 U:∀ a∈ss n.f1,U a
 len:(ss n.f1).length≤8000
theorem UM (n:Ay) (hz:n.f1.length≤8000) (hu:∀ e∈n.f1,U e.f2):∃ kk,CK n kk:=by
 have hL:=SG hu;have hn:(ss n.f1).length≤8000:=by have:=NT n.f1;omega
 let kk:Nat→ByteArray:=fun b=>(O5 20000 (ss n.f1) (b:Int)).getD ByteArray.empty
 have hkk:∀ b:Nat,b<256→∃ row,O5 20000 (ss n.f1) (b:Int)=some (strOfNums row)∧kk b=strOfNums row∧HV (ss n.f1) b (((ss n.f1).length+7) / 8) (ss n.f1).length row:=by
  intro b hb;obtain⟨row,e,hr⟩:=OB (ss n.f1) hL hn b hb;exact⟨row,e,by show (O5 20000 (ss n.f1) (b:Int)).getD _=_;rw[e];rfl,hr⟩
 refine⟨kk,?_,?_,hL,hn⟩
 ·intro b hb;obtain⟨row,e,e2,_⟩:=hkk b hb;rw[e,e2]
 ·intro b c hb hc;obtain⟨r,_,e1,h1⟩:=hkk b hb;obtain⟨s,_,e2,h2⟩:=hkk c hc;rw[e1,e2];exact QK (by omega) h1 h2
theorem CK.classes {n:Ay} {kk:Nat→ByteArray} (h:CK n kk):∃ v,Ue 20000 (ss n.f1)=some v∧∀ c:Nat,c<256→Ag v (c:Int)=(ck kk c:Int):=by
 obtain⟨v,v1,v2⟩:=HF kk h.hk 256 0 20000 (Vector.replicate 256 0) [] (by omega) (by omega) ⟨rfl,fun c hc=>by omega,fun s _=>rfl⟩ (fun c hc=>by omega);exact⟨v,v1,v2⟩
def Mc (kk:Nat→ByteArray):Nat→Nat→List Nat
 | 0,_=>[]
 | m+1,b=>if rc kk b=b then b::Mc kk m (b+1)else Mc kk m (b+1)
theorem L1 (kk:Nat→ByteArray):∀ m b,(Mc kk m b).length+nc kk b=nc kk (b+m)
 | 0,b=>by simp[Mc]
 | m+1,b=>by
   have ih:=L1 kk m (b+1);rw[show b+(m+1)=b+1+m by omega, ←ih,Mc,nc];split<;>simp<;>omega
theorem Ig (kk:Nat→ByteArray):∀ m b r,r∈Mc kk m b→b≤r∧r<b+m∧rc kk r=r
 | 0,_,_,h=>by cases h
 | m+1,b,r,h=>by
   rw[Mc]at h;split at h
   ·next q=>
    rcases List.mem_cons.1 h with rfl|h
    ·exact⟨Nat.le_refl _,by omega,q⟩
    ·have:=Ig kk m (b+1) r h;omega
   ·have:=Ig kk m (b+1) r h;omega
def RP (kk:Nat→ByteArray):List Nat:=Mc kk 256 0
theorem SN (kk:Nat→ByteArray):(RP kk).length≤256:=by
 have:=L1 kk 256 0;have h2:=Nq kk (0+256);unfold RP;omega
theorem T8 (kk:Nat→ByteArray) {r:Nat} (h:r∈RP kk):r<256:=by have:=Ig kk 256 0 r h;omega
def vb (b:Bool):Vector Int 4:=if b=true then BG (Vector.replicate 4 (0:Int)) (0:Int) 1 else Vector.replicate 4 (0:Int)
theorem Tm (b:Bool):U (vb b):=by
 intro j hj;have:j=0∨j=1∨j=2∨j=3:=by omega
 cases b<;>rcases this with rfl|rfl|rfl|rfl<;>decide
theorem Qj (b:Bool):tb (vb b) 0=b:=by cases b<;>decide
theorem RS (t:List Bool) (i:Nat) (hi:i<t.length):AC (t.map vb) (i:Int)=vb (AC t (i:Int)):=by
 rw[Ai _ i (by simpa using hi),Ai _ i hi,List.getElem_map]
theorem Nd (t:List Bool) (hz:t.length≤8000):∀ (m i fuel:Nat) (row:List Int),i+m=t.length→m<fuel→Dd 20000 t fuel row (i:Int)=CM 20000 (t.map vb) 0 fuel row (i:Int)
 | 0,i,f+1,row,hi,_=>by
   rw[Dd.eq_2,CM.eq_2,List.length_map,if_neg (by omega),if_neg (by omega)];rfl
 | m+1,i,f+1,row,hi,hf=>by
   have hi':i<t.length:=by omega
   have c1:(i:Int)<(t.length:Int):=by omega
   have c2:0≤(i:Int)∧(i:Int)<(t.length:Int):=⟨by omega,c1⟩;have hh:R3 20000 (AC (t.map vb) (i:Int)) 0=some (AC t (i:Int)):=by
    have:=LG (Tm (AC t (i:Int))) (x:=0) (by omega);rw[RS t i hi'];rw[Qj]at this;exact_mod_cast this
   have ih:=fun row=>Nd t hz m (i+1) f row (by omega) (by omega);rw[Dd.eq_2,CM.eq_2,List.length_map];simp only[if_pos c1,if_pos c2,hh,Option.bind_some];unfold Hm FN;have e:AH ((i:Int)+1)=((i+1:Nat):Int):=by rw[w6 (by omega) (by omega)];omega
   simp only[e,ih]
def GA (t:List Bool):ByteArray:=(SJ 20000 t).getD ByteArray.empty
theorem HZ (t:List Bool) (hz:t.length≤8000):∃ row,SJ 20000 t=some (strOfNums row)∧HV (t.map vb) 0 ((t.length+7) / 8) t.length row:=by
 obtain⟨row,r1,r2⟩:=OB (t.map vb) (fun a ha=>by obtain⟨b,_,rfl⟩:=List.mem_map.1 ha;exact Tm b) (by simpa using hz) 0 (by omega);refine⟨row,?_,by simpa using r2⟩;rw[Int.natCast_zero]at r1;rw[←r1];unfold SJ O5;rw[List.length_map];have:=fun row=>Nd t hz t.length 0 20000 row (by omega) (by omega);simp only[Int.natCast_zero]at this;simp only[this,Int.natCast_zero]
theorem Pr (t:List Bool) (hz:t.length≤8000):SJ 20000 t=some (GA t):=by
 obtain⟨row,r,_⟩:=HZ t hz;unfold GA;rw[r];rfl
theorem Q7 (t:List Bool) (x:Nat):sg (t.map vb) 0 x=AC t (x:Int):=by
 unfold sg AC;rw[Int.toNat_natCast,List.length_map];by_cases h:x<t.length
 ·rw[decide_eq_true h,Bool.true_and,List.getD,List.getElem?_map,List.getD,List.getElem?_eq_getElem h];exact Qj _
 ·rw[decide_eq_false h,Bool.false_and,List.getD,List.getElem?_eq_none (by omega)];rfl
theorem OR {t u:List Bool} (hl:t.length=u.length) (hz:t.length≤8000) (h:GA t=GA u):t=u:=by
 obtain⟨r,r1,r2⟩:=HZ t hz;obtain⟨s,s1,s2⟩:=HZ u (by omega);have e:strOfNums r=strOfNums s:=by
  have h1:GA t=strOfNums r:=by unfold GA;rw[r1];rfl
  have h2:GA u=strOfNums s:=by unfold GA;rw[s1];rfl
  rw[←h1, ←h2,h]
 apply List.ext_getElem hl;intro i h1 h2;have hr:bt r i=AC t (i:Int):=by rw[r2.2.2 i (by omega),decide_eq_true h1,Bool.true_and,Q7]
 have hs:bt s i=AC u (i:Int):=by rw[s2.2.2 i (by omega),decide_eq_true h2,Bool.true_and,Q7]
 have:=E5 r2.2.1 s2.2.1 e;rw[this,hs]at hr;rw[Ai _ i h1,Ai _ i h2]at hr;exact hr.symm
def Sd (M:List Int) (t:List Bool) (i:Nat) (o:Int):Int:=if AC t (i:Int)=true∧i<M.length∧0≤AC M (i:Int)∧(o<0∨AC M (i:Int)<o)then AC M (i:Int)else o
def Sc (M:List Int) (t:List Bool):Nat→Nat→Int→Int
 | 0,_,o=>o
 | m+1,i,o=>Sc M t m (i+1) (Sd M t i o)
def MK (M:List Int) (t:List Bool):Int:=Sc M t t.length 0 (-1)
theorem Lg (x:Cw) (t:List Bool) (hz:t.length≤8000):∀ (m i fuel:Nat) (o:Int),i+m=t.length→m<fuel→De 20000 x t fuel o (i:Int)=some (Sc x.f1 t m i o)
 | 0,i,f+1,o,hi,_=>by rw[De.eq_2,if_neg (by omega)];rfl
 | m+1,i,f+1,o,hi,hf=>by
   have ih:=fun o=>Lg x t hz m (i+1) f o (by omega) (by omega);rw[De.eq_2,if_pos (by omega),if_pos ⟨by omega,by omega⟩];unfold P0 Hj;rw[w6 (x:=(i:Int)+1) (by omega) (by omega),Sc];by_cases a:(x.f1.length:Int)≤(i:Int)
   ·have e:Sd x.f1 t i o=o:=by unfold Sd;rw[if_neg (by rintro⟨_,q,_⟩;omega)]
    rw[if_pos a,Option.bind_some,e];have:(if AC t (i:Int)=true then if(0:Int)≤ -1 then if o<0 then some true else some (decide ((-1:Int)<o))else some false else some false)=some false:=by
     by_cases c:AC t (i:Int)=true
     ·rw[if_pos c,if_neg (by decide)]
     ·rw[if_neg c]
    rw[this,Option.bind_some,if_neg (by decide)];exact_mod_cast ih o
   ·rw[if_neg a,if_pos ⟨by omega,by omega⟩,Option.bind_some];have:(if AC t (i:Int)=true then if(0:Int)≤AC x.f1 (i:Int)then if o<0 then some true else some (decide (AC x.f1 (i:Int)<o))else some false else some false)=some (decide (AC t (i:Int)=true∧i<x.f1.length∧0≤AC x.f1 (i:Int)∧(o<0∨AC x.f1 (i:Int)<o))):=by
     by_cases c:AC t (i:Int)=true
     ·rw[if_pos c];by_cases d:(0:Int)≤AC x.f1 (i:Int)
      ·rw[if_pos d];by_cases g:o<0
       ·rw[if_pos g,decide_eq_true ⟨c,by omega,d,.inl g⟩]
       ·rw[if_neg g];congr 1;rw[decide_eq_decide];exact⟨fun h=>⟨c,by omega,d,.inr h⟩,fun h=>h.2.2.2.resolve_left g⟩
      ·rw[if_neg d,decide_eq_false (fun h=>d h.2.2.1)]
     ·rw[if_neg c,decide_eq_false (fun h=>c h.1)]
    rw[this,Option.bind_some];unfold Sd;by_cases q:AC t (i:Int)=true∧i<x.f1.length∧0≤AC x.f1 (i:Int)∧(o<0∨AC x.f1 (i:Int)<o)
    ·rw[if_pos (decide_eq_true q),if_pos q];exact_mod_cast ih _
    ·rw[if_neg (by simpa using q),if_neg q];exact_mod_cast ih _
theorem NG (x:Cw) (t:List Bool) (hz:t.length≤8000):Uc 20000 x t=some (MK x.f1 t):=by
 have:=Lg x t hz t.length 0 20000 (-1) (by omega) (by omega);rw[Int.natCast_zero]at this;exact this
def FU (t:List Bool):Bool:=t.any id
theorem NF (x:Cw) (t:List Bool) (hz:t.length≤8000):∀ (m i fuel:Nat) (b:Bool),i+m=t.length→m<fuel→EA 20000 x t fuel b (i:Int)=FV 20000 x t (b||FU (t.drop i))
 | 0,i,f+1,b,hi,_=>by
   rw[EA.eq_2,if_neg (by omega),List.drop_of_length_le (by omega)];show _=FV 20000 x t (b||false);rw[Bool.or_false]
 | m+1,i,f+1,b,hi,hf=>by
   have hi':i<t.length:=by omega
   have ih:=fun b=>NF x t hz m (i+1) f b (by omega) (by omega);rw[EA.eq_2,if_pos (by omega),if_pos ⟨by omega,by omega⟩,Ai _ i hi',List.drop_eq_getElem_cons hi',w6 (by omega) (by omega)];show _=FV 20000 x t (b||(t[i]||FU (t.drop (i+1))))
   cases b with
   | true=>rw[if_pos rfl,Option.bind_some,Bool.true_or];have:=ih true;rw[Bool.true_or]at this;exact_mod_cast this
   | false=>rw[if_neg (by decide),Option.bind_some,Bool.false_or];exact_mod_cast ih t[i]
def ix:List (List Bool)→List Bool→Option Nat
 | [],_=>none
 | r::R,t=>if r=t then some 0 else(ix R t).map (· +1)
theorem Om:∀ (R:List (List Bool)) (s t:List Bool),ix (R++[s]) t=match ix R t with |some i=>some i|none=>if s=t then some R.length else none
 | [],s,t=>by
   show (if s=t then some 0 else none)=_;rfl
 | r::R,s,t=>by
   show (if r=t then some 0 else(ix (R++[s]) t).map (· +1))=match (if r=t then some 0 else(ix R t).map (· +1))with |some i=>some i|none=>if s=t then some (R.length+1)else none
   by_cases a:r=t
   ·rw[if_pos a,if_pos a]
   ·rw[if_neg a,if_neg a,Om R s t]
    cases ix R t with
    | some i=>rfl
    | none=>
      show Option.map (· +1) (if s=t then some R.length else none)=if s=t then some (R.length+1)else none
      split<;>rfl
theorem Na:∀ {R:List (List Bool)} {t:List Bool} {i:Nat},ix R t=some i→R[i]? =some t
 | [],_,_,h=>by cases h
 | r::R,t,i,h=>by
   unfold ix at h;by_cases a:r=t
   ·rw[if_pos a]at h;cases h;rw[a];rfl
   ·rw[if_neg a]at h
    cases e:ix R t with
    | none=>rw[e]at h;cases h
    | some j=>
      rw[e]at h;cases h;show (r::R)[j+1]? =some t;rw[List.getElem?_cons_succ];exact Na e
def add (R:List (List Bool)) (t:List Bool):List (List Bool)×Int:=
 if FU t=true then match ix R t with |some i=>(R,(i:Int))|none=>(R++[t],(R.length:Int))else(R, -1)
def GN (N:Nat) (m:List (ByteArray×Int)) (R:List (List Bool)):Prop:=∀ t:List Bool,t.length=N→An m (GA t)=(ix R t).map Int.ofNat
theorem KL {N:Nat} (hN:N≤8000) {n:Ay} {M rp:List Int} {m:List (ByteArray×Int)} {R:List (List Bool)} {c:Vector Int 256} {nx:List (List Int)} {t:List Bool} (ht:t.length=N) (hm:GN N m R) (hR:R.length≤100000):
 ∃ m',Rr 20000 (Cw.mk n M rp m R (B5.mk c nx (R.map (MK M)))) t=some ((add R t).2,Cw.mk n M rp m' (add R t).1 (B5.mk c nx ((add R t).1.map (MK M))))∧GN N m' (add R t).1:=by
 have:=NF (Cw.mk n M rp m R (B5.mk c nx (R.map (MK M)))) t (by omega) t.length 0 20000 false (by omega) (by omega);rw[Int.natCast_zero,List.drop_zero,Bool.false_or]at this;unfold Rr;rw[this];unfold FV
 cases a:FU t with
 | false=>
   have e:add R t=(R, -1):=by unfold add;rw[if_neg (by rw[a];decide)]
   rw[e,if_pos (by decide)];exact⟨m,rfl,hm⟩
 | true=>
   rw[if_neg (by decide),Pr t (by omega),Option.bind_some];have hg:=hm t ht;show ∃ m',(if((An m (GA t)).isSome)=true then _ else _)=_∧_
   cases e:ix R t with
   | some i=>
     have ea:add R t=(R,(i:Int)):=by unfold add;rw[if_pos a,e]
     rw[e]at hg;rw[ea];refine⟨m,?_,hm⟩;show (if((An m (GA t)).isSome)=true then some ((An m (GA t)).getD 0,_)else _)=_;rw[hg];rfl
   | none=>
     have ea:add R t=(R++[t],(R.length:Int)):=by unfold add;rw[if_pos a,e]
     rw[e]at hg;have hl:(R++[t]).length=R.length+1:=by simp
     refine⟨A1 m (GA t) (R.length:Int),?_,?_⟩
     ·rw[ea,if_neg (by rw[hg];decide),if_pos (by show (R++[t]).length*24≤_;omega),NG _ t (by omega),Option.bind_some,if_pos (by show (R.map (MK M)++[MK M t]).length*8≤_;simp;omega),Option.bind_some];show some (AH (((R++[t]).length:Int) -1),_)=_;rw[hl,w6 (by omega) (by omega),List.map_append];rw[show (((R.length+1:Nat):Int) -1)=(R.length:Int)by omega];rfl
     ·intro u hu;rw[ea,Dz,Om];by_cases k:t=u
      ·subst k;rw[if_pos rfl,e];show _=Option.map Int.ofNat (if t=t then some R.length else none);rw[if_pos rfl];rfl
      ·rw[if_neg (fun h=>k (OR (by omega) (by omega) h)),hm u hu]
       cases ix R u with
       | some j=>rfl
       | none=>
         show _=Option.map Int.ofNat (if t=u then some R.length else none);rw[if_neg k]
def DV (n:Ay) (s:List Bool):List Nat→List (List Bool)→List Int→List (List Bool)×List Int
 | [],R,a=>(R,a)
 | b::bs,R,a=>DV n s bs (add R (CL n (MV n s b))).1 (a++[(add R (CL n (MV n s b))).2])
theorem LQ (R:List (List Bool)) (t:List Bool):R.length≤(add R t).1.length∧(add R t).1.length≤R.length+1:=by
 unfold add;split
 ·split<;>simp
 ·simp
theorem JM {R:List (List Bool)} {t:List Bool} {i:Nat} {s:List Bool} (h:R[i]? =some s):(add R t).1[i]? =some s:=by
 have hi:=(List.getElem?_eq_some_iff.1 h).1;unfold add;split
 ·split
  ·exact h
  ·show (R++[t])[i]? =some s;rw[List.getElem?_append_left hi];exact h
 ·exact h
theorem QD {N:Nat} {R:List (List Bool)} {t:List Bool} (h:∀ r∈R,r.length=N) (ht:t.length=N):∀ r∈(add R t).1,r.length=N:=by
 unfold add;split
 ·split
  ·exact h
  ·intro r hr;rcases List.mem_append.1 hr with hr|hr
   ·exact h r hr
   ·rw[List.mem_singleton.1 hr];exact ht
 ·exact h
theorem OE (n:Ay) (s:List Bool) (b:Nat):(CL n (MV n s b)).length=NN n:=by rw[M9,Or]
theorem HA (n:Ay) (s:List Bool):∀ (bs:List Nat) (R:List (List Bool)) (a:List Int),R.length≤(DV n s bs R a).1.length∧(DV n s bs R a).1.length≤R.length+bs.length
 | [],R,a=>⟨Nat.le_refl _,Nat.le_refl _⟩
 | b::bs,R,a=>by
   have h:=LQ R (CL n (MV n s b));have ih:=HA n s bs (add R (CL n (MV n s b))).1 (a++[(add R (CL n (MV n s b))).2]);rw[DV,List.length_cons];omega
theorem HO (n:Ay) (s:List Bool):∀ (bs:List Nat) (R:List (List Bool)) (a:List Int),(∀ r∈R,r.length=NN n)→∀ r∈(DV n s bs R a).1,r.length=NN n
 | [],R,a,h=>h
 | b::bs,R,a,h=>HO n s bs _ _ (QD h (OE n s b))
theorem Jy (n:Ay) (s:List Bool) {i:Nat} {t:List Bool}:∀ (bs:List Nat) (R:List (List Bool)) (a:List Int),R[i]? =some t→(DV n s bs R a).1[i]? =some t
 | [],R,a,h=>h
 | b::bs,R,a,h=>Jy n s bs _ _ (JM h)
theorem H7 {α:Type} [Inhabited α] {l:List α} {i:Nat} {x:α} (h:l[i]? =some x):AC l (i:Int)=x∧i<l.length:=by
 obtain⟨h1,h2⟩:=List.getElem?_eq_some_iff.1 h;exact⟨by rw[Ai _ i h1];exact h2,h1⟩
theorem Ng {n:Ay} (h:Rt n) {kk:Nat→ByteArray} {M:List Int} {c:Vector Int 256} (rec57:Int→List AR→Int→Int→List Int→List Int→List (ByteArray×Int)→List (List Bool)→Vector Int 256→List (List Int)→List Int→Int→Option (B5×Int)) (i:Nat) (s:List Bool) (nx:List (List Int)) (hnx:nx.length≤100000) (hi:i≤100000) (bs:List Nat) (hbs:∀ b∈bs,b<256) (hbl:bs.length≤256):
 ∀ (m j fuel:Nat) (R:List (List Bool)) (a:List Int) (sm:List (ByteArray×Int)),j+m=bs.length→m<fuel→a.length≤j→GN (NN n) sm R→R[i]? =some s→R.length+m≤100000→s.length=NN n→
 ∃ sm',EE 20000 rec57 n (bs.map Int.ofNat) (i:Int) fuel n.f0 n.f1 n.f2 n.f3 M (bs.map Int.ofNat) sm R c nx (R.map (MK M)) a (j:Int)=rec57 n.f0 n.f1 n.f2 n.f3 M (bs.map Int.ofNat) sm' (DV n s (bs.drop j) R a).1 c (nx++[(DV n s (bs.drop j) R a).2]) ((DV n s (bs.drop j) R a).1.map (MK M)) ((i+1:Nat):Int)∧GN (NN n) sm' (DV n s (bs.drop j) R a).1
 | 0,j,f+1,R,a,sm,hj,_,ha,hs,hg,hR,hl=>by
   rw[EE.eq_2,List.length_map,if_neg (by omega),List.drop_of_length_le (by omega),DV];unfold Ir JG;rw[if_pos (by simp;omega),w6 (by omega) (by omega)];exact⟨sm,rfl,hs⟩
 | m+1,j,f+1,R,a,sm,hj,hf,ha,hs,hg,hR,hl=>by
   have hj':j<bs.length:=by omega
   obtain⟨g1,g2⟩:=H7 hg;have hb:=hbs _ (List.getElem_mem hj');have eb:AC (bs.map Int.ofNat) (j:Int)=(bs[j]:Int):=by rw[Ai _ j (by simpa using hj'),List.getElem_map];rfl
   have hN:NN n≤8000:=by have:=h.nn;have:=h.n1;omega
   have hlen:=LQ R (CL n (MV n s bs[j]));obtain⟨sm',t1,t2⟩:=KL (N:=NN n) hN (n:=n) (M:=M) (rp:=bs.map Int.ofNat) (c:=c) (nx:=nx) (OE n s bs[j]) hs (by omega);obtain⟨sm2,u1,u2⟩:=Ng h (kk:=kk) (M:=M) (c:=c) rec57 i s nx hnx hi bs hbs hbl m (j+1) f (add R (CL n (MV n s bs[j]))).1 (a++[(add R (CL n (MV n s bs[j]))).2]) sm' (by omega) (by omega) (by simp;omega) t2 (JM hg) (by omega) hl;refine⟨sm2,?_,?_⟩
   ·rw[EE.eq_2,List.length_map,if_pos (by omega),if_pos ⟨by omega,by omega⟩,if_pos ⟨by omega,by omega⟩,g1,eb,QW h s (by omega) (by omega),Option.bind_some,Int.toNat_natCast,J2 h,Option.bind_some,J4 (Or _ _ _)];have:(Ay.mk n.f0 n.f1 n.f2 n.f3)=n:=rfl;rw[this,t1,Option.bind_some,if_pos (by simp;omega),w6 (by omega) (by omega),List.drop_eq_getElem_cons hj',DV];exact_mod_cast u1
   ·rw[List.drop_eq_getElem_cons hj',DV];exact u2
def HW (n:Ay) (bs:List Nat) (B:Nat):Nat→Nat→List (List Bool)→List (List Int)→Option (List (List Bool)×List (List Int))
 | 0,_,_,_=>none
 | f+1,i,R,N=>if i<R.length then if B<R.length then none else HW n bs B f (i+1) (DV n (R.getD i []) bs R []).1 (N++[(DV n (R.getD i []) bs R []).2])else some (R,N)
theorem Nw {n:Ay} (h:Rt n) {kk:Nat→ByteArray} {M:List Int} {c:Vector Int 256} (bs:List Nat) (hbs:∀ b∈bs,b<256) (hbl:bs.length≤256):
 ∀ (f i:Nat) (R:List (List Bool)) (N:List (List Int)) (sm:List (ByteArray×Int)),2003≤f+i→i≤2000→GN (NN n) sm R→(∀ r∈R,r.length=NN n)→R.length≤3000→N.length=i→
 EG 20000 n f n.f0 n.f1 n.f2 n.f3 M (bs.map Int.ofNat) sm R c N (R.map (MK M)) (i:Int)=match HW n bs 2000 f i R N with |some (R',N')=>some (B5.mk c N' (R'.map (MK M)),0)|none=>some (B5.mk (Vector.replicate 256 (0:Int)) [] [],6)
 | 0,i,_,_,_,h1,h2,_,_,_,_=>by omega
 | f+1,i,R,N,sm,h1,h2,hs,hr,hR,hN=>by
   rw[EG.eq_2,HW];by_cases a:i<R.length
   ·rw[if_pos (by omega),if_pos a];by_cases b:2000<R.length
    ·rw[if_pos (by omega),if_pos b]
    ·rw[if_neg (by omega),if_neg b];have hg:R[i]? =some (R.getD i []):=by rw[List.getD,List.getElem?_eq_getElem a];rfl
     have hl:(R.getD i []).length=NN n:=hr _ (List.mem_of_getElem? hg);obtain⟨sm',u1,u2⟩:=Ng h (kk:=kk) (M:=M) (c:=c) (EG 20000 n f) i (R.getD i []) N (by omega) (by omega) bs hbs hbl bs.length 0 20000 R [] sm (by omega) (by omega) (by simp) hs hg (by omega) hl;rw[Int.natCast_zero,List.drop_zero]at u1;rw[List.drop_zero]at u2;have hrl:=HA n (R.getD i []) bs R [];rw[u1];exact Nw h (kk:=kk) bs hbs hbl f (i+1) _ _ sm' (by omega) (by omega) u2 (HO n _ bs R [] hr) (by omega) (by simp;omega)
   ·rw[if_neg (by omega),if_neg a];rfl
theorem Iw {n:Ay} {kk:Nat→ByteArray} {v:Vector Int 256} (hv:∀ c:Nat,c<256→Ag v (c:Int)=(ck kk c:Int)) (p1:List Int):∀ (m b fuel:Nat) (a:List Int),b+m=256→m<fuel→a.length=nc kk b→Dl 20000 n p1 v fuel a (b:Int)=HM 20000 n p1 v (a++(Mc kk m b).map Int.ofNat)
 | 0,b,f+1,a,hb,_,_=>by
   rw[Dl.eq_2,if_neg (by omega),Mc,List.map_nil,List.append_nil]
 | m+1,b,f+1,a,hb,hf,ha=>by
   have hcl:=Qm kk b;rw[Dl.eq_2,if_pos (by omega),if_pos ⟨by omega,by omega⟩,hv b (by omega),w6 (x:=((ck kk b:Nat):Int)) (by omega) (by omega),Mc];unfold G0;rw[w6 (x:=(b:Int)+1) (by omega) (by omega),G7 (by omega) (by omega)];have hsp:=E0 kk b;by_cases e:rc kk b=b
   ·have e2:ck kk b=nc kk b:=by unfold ck;rw[e]
    have hnl:=Nq kk b;have ih:=Iw (n:=n) hv p1 m (b+1) f (a++[(b:Int)]) (by omega) (by omega) (by rw[nc,if_pos e];simp;omega);rw[List.append_assoc]at ih;rw[if_pos (by omega),if_pos (by simp;omega),if_pos e];exact_mod_cast ih
   ·have hr:rc kk b+1≤b:=by omega
    have hm:=Pj kk hr;have e3:nc kk (rc kk b+1)=nc kk (rc kk b)+1:=by rw[nc,if_pos (TO kk b)]
    have:ck kk b<nc kk b:=by unfold ck;omega
    rw[if_neg (by omega),if_neg e];exact_mod_cast Iw (n:=n) hv p1 m (b+1) f a (by omega) (by omega) (by rw[nc,if_neg e];omega)
def F0 (n:Ay):List Bool:=CL n (Ac (List.replicate (NN n) false) n.f2 true)
theorem HB (n:Ay):(F0 n).length=NN n:=by unfold F0;rw[M9,BN,List.length_replicate]
theorem Rh {n:Ay} (h:Rt n):FU (F0 n)=true:=by
 have hf:=h.first;have hn:=h.nn;have hx:(Ac (List.replicate (NN n) false) n.f2 true).length=NN n:=by rw[BN,List.length_replicate]
 have h1:AC (F0 n) n.f2=true:=by
  refine(O3 h hx hf.1).2 ⟨n.f2,hf.1,?_,.refl _⟩;rw[Dr _ _ _ hf.1 (by rw[List.length_replicate];omega) hf.1];simp
 have h2:n.f2.toNat<(F0 n).length:=by rw[HB];omega
 have h3:=Ai (F0 n) n.f2.toNat h2;rw[show ((n.f2.toNat:Nat):Int)=n.f2 by omega,h1]at h3;unfold FU;rw[List.any_eq_true];exact⟨_,List.getElem_mem h2,h3.symm⟩
theorem Rf {n:Ay} (h:Rt n) {kk:Nat→ByteArray} (hk:CK n kk) (M:List Int):∃ v,(∀ c:Nat,c<256→Ag v (c:Int)=(ck kk c:Int))∧
 Sf 20000 n M=match HW n (RP kk) 2000 20000 0 [F0 n] []with |some (R',N')=>some (B5.mk v N' (R'.map (MK M)),0)|none=>some (B5.mk (Vector.replicate 256 (0:Int)) [] [],6):=by
 obtain⟨v,v1,v2⟩:=hk.classes;refine⟨v,v2,?_⟩;have hf:=h.first;have hn:=h.nn;have hN:NN n≤8000:=by have:=h.n1;omega
 unfold Sf;rw[Js n h.n2,Option.bind_some,h.rt,if_neg (by decide),Pl n h.n2,Option.bind_some,v1,Option.bind_some];have:=Iw (n:=n) v2 M 256 0 20000 [] (by omega) (by omega) rfl;rw[Int.natCast_zero,List.nil_append]at this;rw[this];unfold HM;have e0:n.f0.toNat=NN n:=rfl;have hx:(Ac (List.replicate (NN n) false) n.f2 true).length=NN n:=by rw[BN,List.length_replicate]
 rw[if_pos ⟨by omega,by omega,by omega⟩,e0,if_pos ⟨by omega,by rw[List.length_replicate];omega⟩,J2 h,Option.bind_some,J4 hx];have seen0:GN (NN n) [] []:=fun t ht=>rfl;obtain⟨sm',t1,t2⟩:=KL (N:=NN n) hN (n:=n) (M:=M) (rp:=(Mc kk 256 0).map Int.ofNat) (c:=v) (nx:=[]) (HB n) seen0 (by simp);have ea:add [] (F0 n)=([F0 n],0):=by
  unfold add;rw[if_pos (Rh h)];rfl
 rw[ea]at t1 t2;show (Rr 20000 (Cw.mk n M ((Mc kk 256 0).map Int.ofNat) [] [] (B5.mk v [] (([]:List (List Bool)).map (MK M)))) (F0 n)).bind _=_;rw[t1,Option.bind_some];exact Nw h (kk:=kk) (RP kk) (fun b hb=>T8 kk hb) (SN kk) 20000 0 [F0 n] [] sm' (by omega) (by omega) t2 (fun r hr=>by rw[List.mem_singleton.1 hr];exact HB n) (by simp) rfl
def Vb (n:Ay) (bs:List Nat) (R:List (List Bool)) (i:Nat) (N:List (List Int)):Prop:=
 N.length=i∧∀ q:Nat,q<i→∃ s row,R[q]? =some s∧N[q]? =some row∧row.length=bs.length∧∀ c:Nat,c<bs.length→∃ t:Int,row[c]? =some t∧(FU (CL n (MV n s (bs.getD c 0)))=false→t= -1)∧(FU (CL n (MV n s (bs.getD c 0)))=true→∃ p:Nat,t=(p:Int)∧R[p]? =some (CL n (MV n s (bs.getD c 0))))
theorem Ps (R:List (List Bool)) (t:List Bool):(FU t=false→(add R t).2= -1)∧(FU t=true→∃ p:Nat,(add R t).2=(p:Int)∧(add R t).1[p]? =some t):=by
 unfold add
 cases a:FU t with
 | false=>exact⟨fun _=>rfl,fun h=>by cases h⟩
 | true=>
   refine⟨fun h=>(by cases h),fun _=>?_⟩;rw[if_pos rfl]
   cases e:ix R t with
   | some i=>exact⟨i,rfl,Na e⟩
   | none=>exact⟨R.length,rfl,by show (R++[t])[R.length]? =some t;simp⟩
theorem KJ (n:Ay) (s:List Bool) (all:List Nat):∀ (bs:List Nat) (j:Nat) (R:List (List Bool)) (a:List Int),all.drop j=bs→a.length=j→j≤all.length→
 (∀ c:Nat,c<j→∃ t:Int,a[c]? =some t∧(FU (CL n (MV n s (all.getD c 0)))=false→t= -1)∧(FU (CL n (MV n s (all.getD c 0)))=true→∃ p:Nat,t=(p:Int)∧R[p]? =some (CL n (MV n s (all.getD c 0)))))→
 (DV n s bs R a).2.length=all.length∧∀ c:Nat,c<all.length→∃ t:Int,(DV n s bs R a).2[c]? =some t∧(FU (CL n (MV n s (all.getD c 0)))=false→t= -1)∧(FU (CL n (MV n s (all.getD c 0)))=true→∃ p:Nat,t=(p:Int)∧(DV n s bs R a).1[p]? =some (CL n (MV n s (all.getD c 0))))
 | [],j,R,a,hd,ha,hj,h=>by
   have:all.length≤j:=by
    have:=congrArg List.length hd;rw[List.length_drop]at this;simp at this;omega
   exact⟨by show a.length=_;omega,fun c hc=>h c (by omega)⟩
 | b::bs,j,R,a,hd,ha,hj,h=>by
   have hj':j<all.length:=by
    have:=congrArg List.length hd;rw[List.length_drop]at this;simp at this;omega
   rw[List.drop_eq_getElem_cons hj']at hd;obtain⟨e1,e2⟩:=List.cons.inj hd;have eb:all.getD j 0=b:=by rw[List.getD,List.getElem?_eq_getElem hj', ←e1];rfl
   rw[DV];refine KJ n s all bs (j+1) _ _ e2 (by simp;omega) (by omega) fun c hc=>?_;by_cases k:c=j
   ·subst k;rw[eb];obtain⟨u1,u2⟩:=Ps R (CL n (MV n s b));exact⟨_,by rw[←ha];simp,u1,u2⟩
   ·obtain⟨t,t1,t2,t3⟩:=h c (by omega);refine⟨t,by rw[List.getElem?_append_left (by omega)];exact t1,t2,fun hh=>?_⟩;obtain⟨p,p1,p2⟩:=t3 hh;exact⟨p,p1,JM p2⟩
theorem IY (n:Ay) (bs:List Nat) (B:Nat):∀ (f i:Nat) (R:List (List Bool)) (N:List (List Int)) (R':List (List Bool)) (N':List (List Int)),i≤R.length→Vb n bs R i N→(∀ r∈R,r.length=NN n)→R.length≤B+bs.length→HW n bs B f i R N=some (R',N')→Vb n bs R' R'.length N'∧(∀ x:Nat,∀ r,R[x]? =some r→R'[x]? =some r)∧(∀ r∈R',r.length=NN n)∧R'.length≤B+bs.length
 | 0,_,_,_,_,_,_,_,_,_,h=>by cases h
 | f+1,i,R,N,R',N',hi,ht,hr,hB,h=>by
   rw[HW]at h;split at h
   ·next a=>
    split at h
    ·cases h
    ·next b=>
     have hg:R[i]? =some (R.getD i []):=by rw[List.getD,List.getElem?_eq_getElem a];rfl
     have hrl:=HA n (R.getD i []) bs R [];obtain⟨w1,w2⟩:=KJ n (R.getD i []) bs bs 0 R [] rfl rfl (by omega) (fun c hc=>by omega);have hgr:=fun {x t}=>Jy (i:=x) (t:=t) n (R.getD i []) bs R [];have nt:Vb n bs (DV n (R.getD i []) bs R []).1 (i+1) (N++[(DV n (R.getD i []) bs R []).2]):=by
      refine⟨by simp;exact ht.1,fun q hq=>?_⟩;by_cases k:q=i
      ·subst k;exact⟨_,_,hgr hg,by rw[←ht.1];simp,w1,w2⟩
      ·obtain⟨s,row,r1,r2,r3,r4⟩:=ht.2 q (by omega);refine⟨s,row,hgr r1,by rw[List.getElem?_append_left (by have:=ht.1;omega)];exact r2,r3,fun c hc=>?_⟩;obtain⟨t,t1,t2,t3⟩:=r4 c hc;refine⟨t,t1,t2,fun hh=>?_⟩;obtain⟨p,p1,p2⟩:=t3 hh;exact⟨p,p1,hgr p2⟩
     obtain⟨k1,k2,k3,k4⟩:=IY n bs B f (i+1) _ _ R' N' (by omega) nt (HO n _ bs R [] hr) (by omega) h;exact⟨k1,fun x r hx=>k2 x r (hgr hx),k3,k4⟩
   ·next a=>
    cases h;obtain rfl:i=R.length:=by omega
    exact⟨ht,fun x r hx=>hx,hr,hB⟩
def DR (x:Int):Int:=if x=0∨x=1 then 0 else if x=4∨x=5∨x=6 then 1 else if x=2∨x=3 then 2 else -1
theorem H6 (x:Int):PQ 20000 x=some (DR x):=Nj x
theorem QN (x:Int): -1≤DR x∧DR x≤2:=by unfold DR;split<;>(try split)<;>(try split)<;>omega
abbrev Fx (q:Nat) (E:List AR) (x y:Int):BD:=BD.mk (Ay.mk (q:Int) E x y)
theorem Bt {q:Nat} {E:List AR} {x y a b:Int} (h:E.length≤100000):GT 20000 (Fx q E x y) a b=some (Fx q (E++[AR.mk a b (Vector.replicate 4 0) true]) x y):=by
 unfold GT;rw[if_pos (by simp;omega)]
theorem Nu {q:Nat} {E:List AR} {x y:Int} (h:q≤100000):SV 20000 (Fx q E x y)=some (Ar.mk (q:Int) ((q+1:Nat):Int),Fx (q+2) E x y):=by
 have st:∀ q:Nat,q≤200000→Jx 20000 (Fx q E x y)=some ((q:Int),Fx (q+1) E x y):=by
  intro q hq;unfold Jx;show some (AH (AH ((q:Int)+1) -1),BD.mk (Ay.mk (AH ((q:Int)+1)) E x y))=_;rw[CH (x:=(q:Int)+1) (by omega) (by omega),CH (by omega) (by omega),show (q:Int)+1-1=(q:Int)by omega];rfl
 unfold SV;show (Jx 20000 (Fx q E x y)).bind _=_;rw[st q (by omega),Option.bind_some];show (Jx 20000 (Fx (q+1) E x y)).bind _=_;rw[st (q+1) (by omega),Option.bind_some]
def SY (q:Nat) (E:List AR):Prop:=∀ e∈E,0≤e.f0∧e.f0<(q:Int)∧0≤e.f1∧e.f1<(q:Int)∧U e.f2
def Hq (q:Nat) (st:List Ar):Prop:=∀ e∈st,0≤e.f0∧e.f0<(q:Int)∧0≤e.f1∧e.f1<(q:Int)
theorem SY.up {q q':Nat} {E:List AR} (h:SY q E) (hq:q≤q'):SY q' E:=fun e he=>by
 obtain⟨a,b,c,d,u⟩:=h e he;exact⟨a,by omega,c,by omega,u⟩
theorem SY.add {q:Nat} {E:List AR} (h:SY q E) {a b:Int} {v:Vector Int 4} {f:Bool} (ha:0≤a∧a<(q:Int)) (hb:0≤b∧b<(q:Int)) (hv:U v):SY q (E++[AR.mk a b v f]):=fun e he=>by
 rcases List.mem_append.1 he with he|he
 ·exact h e he
 ·rw[List.mem_singleton.1 he];exact⟨ha.1,ha.2,hb.1,hb.2,hv⟩
def mk (p0:B5) (s:Int):Int:=if s<0∨(p0.f2.length:Int)≤s then -1 else AC p0.f2 s
theorem QG (p0:B5) (k:Nat) (s:Int):N3 k p0 s=some (mk p0 s):=by
 unfold N3 mk;by_cases a:s<0
 ·simp[a]
 ·by_cases b:(p0.f2.length:Int)≤s
  ·simp[a,b]
  ·simp[a,b]
def B0 (o:Option Bool) (p:Prop):Prop:=∃ b,o=some b∧(b=true↔p)
theorem B0.tt {o:Option Bool} {p:Prop} (h:o=some true) (k:p):B0 o p:=⟨true,h,by simp[k]⟩
theorem B0.ff {o:Option Bool} {p:Prop} (h:o=some false) (k:¬ p):B0 o p:=⟨false,h,by simp[k]⟩
theorem B9 {n:Nat} (h:n≤100000):AH ((n:Int)+1)=((n+1:Nat):Int):=by rw[Ax (by omega) (by omega)];rfl
theorem CA {f:Nat→Int→Option Bool} {n:Nat} {P:Nat→Prop} {c d:Option Bool} (hs:∀ j (i:Nat),i<n→(P i→f (j+1) (i:Int)=f j ((i+1:Nat):Int))∧(¬ P i→f (j+1) (i:Int)=d)) (he:∀ j,f (j+1) (n:Int)=c):
 ∀ (m i fuel:Nat),i+m=n→m<fuel→((∀ q,i≤q→q<n→P q)→f fuel (i:Int)=c)∧((¬ ∀ q,i≤q→q<n→P q)→f fuel (i:Int)=d)
 | 0,i,fu+1,hi,_=>by
   obtain rfl:i=n:=by omega
   exact⟨fun _=>he fu,fun h=>absurd (fun q h1 h2=>by omega) h⟩
 | m+1,i,fu+1,hi,hf=>by
   obtain⟨ih1,ih2⟩:=CA hs he m (i+1) fu (by omega) (by omega);obtain⟨s1,s2⟩:=hs fu i (by omega);refine⟨fun h=>?_,fun h=>?_⟩
   ·rw[s1 (h i (Nat.le_refl _) (by omega))];exact ih1 fun q h1 h2=>h q (by omega) h2
   ·by_cases p:P i
    ·rw[s1 p];refine ih2 fun k=>h fun q h1 h2=>?_;by_cases e:q=i
     ·rw[e];exact p
     ·exact k q (by omega) h2
    ·exact s2 p
theorem Dt {α:Type} [Inhabited α] {a b:List α} (h:a.length=b.length):a=b↔∀ q:Nat,0≤q→q<a.length→AC a (q:Int)=AC b (q:Int):=by
 constructor
 ·intro e q _ _;rw[e]
 ·intro k;refine List.ext_getElem h fun i h1 h2=>?_;have:=k i (by omega) h1;rwa [Ai a i h1,Ai b i h2]at this
theorem N2 (a b:List B7) (ha:a.length≤1000):B0 (Rn 20000 a b) (a=b):=by
 by_cases hl:a.length=b.length
 ·have e:Rn 20000 a b=Dc 20000 a b 20000 ((0:Nat):Int):=by unfold Rn;rw[if_neg (by omega)];rfl
  obtain⟨h1,h2⟩:=CA (f:=Dc 20000 a b) (n:=a.length) (P:=fun q=>AC a (q:Int)=AC b (q:Int)) (c:=some true) (d:=some false)
   (fun j i hi=>by
     rw[Dc.eq_2,if_pos (by omega),if_pos ⟨by omega,by omega⟩,if_pos ⟨by omega,by omega⟩,B9 (by omega)]
     exact⟨fun p=>by rw[if_neg (by simp[p])],fun p=>by rw[if_pos (by simp[p])]⟩)
   (fun j=>by rw[Dc.eq_2,if_neg (by omega)];rfl) a.length 0 20000 (by omega) (by omega)
  rw[←Dt hl]at h1 h2;rw[e];by_cases q:a=b
  ·exact .tt (h1 q) q
  ·exact .ff (h2 q) q
 ·exact .ff (by unfold Rn;rw[if_pos (by omega)]) fun e=>hl (by rw[e])
theorem QO (a b:List ByteArray) (ha:a.length≤1000):B0 (Ru 20000 a b) (a=b):=by
 by_cases hl:a.length=b.length
 ·have e:Ru 20000 a b=Dg 20000 a b 20000 ((0:Nat):Int):=by unfold Ru;rw[if_neg (by omega)];rfl
  obtain⟨h1,h2⟩:=CA (f:=Dg 20000 a b) (n:=a.length) (P:=fun q=>AC a (q:Int)=AC b (q:Int)) (c:=some true) (d:=some false)
   (fun j i hi=>by
     rw[Dg.eq_2,if_pos (by omega),if_pos ⟨by omega,by omega⟩,if_pos ⟨by omega,by omega⟩,B9 (by omega)]
     exact⟨fun p=>by rw[if_neg (by simp[p])],fun p=>by rw[if_pos (by simp[p])]⟩)
   (fun j=>by rw[Dg.eq_2,if_neg (by omega)];rfl) a.length 0 20000 (by omega) (by omega)
  rw[←Dt hl]at h1 h2;rw[e];by_cases q:a=b
  ·exact .tt (h1 q) q
  ·exact .ff (h2 q) q
 ·exact .ff (by unfold Ru;rw[if_pos (by omega)]) fun e=>hl (by rw[e])
theorem Pq (a b:List A7) (ha:a.length≤1000):B0 (SI 20000 a b) (a=b):=by
 by_cases hl:a.length=b.length
 ·have e:SI 20000 a b=Df 20000 a b 20000 ((0:Nat):Int):=by unfold SI;rw[if_neg (by omega)];rfl
  obtain⟨h1,h2⟩:=CA (f:=Df 20000 a b) (n:=a.length) (P:=fun q=>AC a (q:Int)=AC b (q:Int)) (c:=some true) (d:=some false)
   (fun j i hi=>by
     rw[Df.eq_2,if_pos (by omega),if_pos ⟨by omega,by omega⟩,if_pos ⟨by omega,by omega⟩,B9 (by omega)]
     exact⟨fun p=>by rw[if_neg (by simp[p])],fun p=>by rw[if_pos (by simp[p])]⟩)
   (fun j=>by rw[Df.eq_2,if_neg (by omega)];rfl) a.length 0 20000 (by omega) (by omega)
  rw[←Dt hl]at h1 h2;rw[e];by_cases q:a=b
  ·exact .tt (h1 q) q
  ·exact .ff (h2 q) q
 ·exact .ff (by unfold SI;rw[if_pos (by omega)]) fun e=>hl (by rw[e])
theorem Lz (a b:List Int) (ha:a.length≤1000):B0 (Qq 20000 a b) (a=b):=by
 by_cases hl:a.length=b.length
 ·have e:Qq 20000 a b=DX 20000 a b 20000 ((0:Nat):Int):=by unfold Qq;rw[if_neg (by omega)];rfl
  obtain⟨h1,h2⟩:=CA (f:=DX 20000 a b) (n:=a.length) (P:=fun q=>AC a (q:Int)=AC b (q:Int)) (c:=some true) (d:=some false)
   (fun j i hi=>by
     rw[DX.eq_2,if_pos (by omega),if_pos ⟨by omega,by omega⟩,if_pos ⟨by omega,by omega⟩,B9 (by omega)]
     exact⟨fun p=>by rw[if_neg (by simp[p])],fun p=>by rw[if_pos (by simp[p])]⟩)
   (fun j=>by rw[DX.eq_2,if_neg (by omega)];rfl) a.length 0 20000 (by omega) (by omega)
  rw[←Dt hl]at h1 h2;rw[e];by_cases q:a=b
  ·exact .tt (h1 q) q
  ·exact .ff (h2 q) q
 ·exact .ff (by unfold Qq;rw[if_pos (by omega)]) fun e=>hl (by rw[e])
theorem Bz {α:Type} [Inhabited α] (l:List α) {i:Nat} (h:i<l.length):AC l (i:Int)∈l:=by rw[Ai l i h];exact List.getElem_mem h
theorem PK (a b:IX) (h:a.f1.length≤1000):B0 (Sn 20000 a b) (a=b):=by
 obtain⟨t,t1,t2⟩:=Lz a.f1 b.f1 h;unfold Sn;rw[t1];by_cases c:a.f0=b.f0
 ·rw[if_pos c];refine⟨t,rfl,?_⟩;rw[t2];cases a;cases b;simp_all
 ·rw[if_neg c];exact .ff rfl fun e=>c (by rw[e])
def WE (p:Dx):Prop:=p.f2.length≤1000∧p.f5.length≤1000
theorem Pi (a b:Dx) (h:WE a):B0 (SX 20000 a b) (a=b):=by
 obtain⟨t,t1,t2⟩:=Pq a.f2 b.f2 h.1;obtain⟨u,u1,u2⟩:=Lz a.f5 b.f5 h.2;unfold SX;rw[t1,u1];by_cases c0:a.f0=b.f0
 ·by_cases c1:a.f1=b.f1
  ·by_cases c3:a.f3=b.f3
   ·by_cases c4:a.f4=b.f4
    ·rw[if_pos c0,if_pos c1,if_pos (by simp[c3]),if_pos c4,Option.bind_some];by_cases ct:t=true
     ·rw[if_pos ct,Option.bind_some];refine⟨u,rfl,?_⟩;rw[u2];have:=t2.1 ct;cases a;cases b;simp_all
     ·rw[if_neg ct];exact .ff rfl fun e=>ct (t2.2 (by rw[e]))
    ·rw[if_pos c0,if_pos c1,if_pos (by simp[c3]),if_neg c4];exact .ff rfl fun e=>c4 (by rw[e])
   ·rw[if_pos c0,if_pos c1,if_neg (by simp[c3])];exact .ff rfl fun e=>c3 (by rw[e])
  ·rw[if_pos c0,if_neg c1];exact .ff rfl fun e=>c1 (by rw[e])
 ·rw[if_neg c0];exact .ff rfl fun e=>c0 (by rw[e])
theorem Oo (a b:List Dx) (ha:a.length≤1000) (hc:∀ x∈a,∀ y∈b,B0 (SX 20000 x y) (x=y)):B0 (Rb 20000 a b) (a=b):=by
 by_cases hl:a.length=b.length
 ·have e:Rb 20000 a b=Da 20000 a b 20000 ((0:Nat):Int):=by unfold Rb;rw[if_neg (by omega)];rfl
  obtain⟨h1,h2⟩:=CA (f:=Da 20000 a b) (n:=a.length) (P:=fun q=>AC a (q:Int)=AC b (q:Int)) (c:=some true) (d:=some false)
   (fun j i hi=>by
     obtain⟨t,t1,t2⟩:=hc (AC a (i:Int)) (Bz a hi) (AC b (i:Int)) (Bz b (by omega));rw[Da.eq_2,if_pos (by omega),if_pos ⟨by omega,by omega⟩,if_pos ⟨by omega,by omega⟩,B9 (by omega),t1,Option.bind_some];refine⟨fun p=>?_,fun p=>?_⟩
     ·rw[t2.2 p];rfl
     ·rw[Bool.eq_false_iff.2 (fun k=>p (t2.1 k))];rfl)
   (fun j=>by rw[Da.eq_2,if_neg (by omega)];rfl) a.length 0 20000 (by omega) (by omega)
  rw[←Dt hl]at h1 h2;rw[e];by_cases q:a=b
  ·exact .tt (h1 q) q
  ·exact .ff (h2 q) q
 ·exact .ff (by unfold Rb;rw[if_pos (by omega)]) fun e=>hl (by rw[e])
theorem MO (a b:List IX) (ha:a.length≤1000) (hc:∀ x∈a,∀ y∈b,B0 (Sn 20000 x y) (x=y)):B0 (Rd 20000 a b) (a=b):=by
 by_cases hl:a.length=b.length
 ·have e:Rd 20000 a b=Dh 20000 a b 20000 ((0:Nat):Int):=by unfold Rd;rw[if_neg (by omega)];rfl
  obtain⟨h1,h2⟩:=CA (f:=Dh 20000 a b) (n:=a.length) (P:=fun q=>AC a (q:Int)=AC b (q:Int)) (c:=some true) (d:=some false)
   (fun j i hi=>by
     obtain⟨t,t1,t2⟩:=hc (AC a (i:Int)) (Bz a hi) (AC b (i:Int)) (Bz b (by omega));rw[Dh.eq_2,if_pos (by omega),if_pos ⟨by omega,by omega⟩,if_pos ⟨by omega,by omega⟩,B9 (by omega),t1,Option.bind_some];refine⟨fun p=>?_,fun p=>?_⟩
     ·rw[t2.2 p];rfl
     ·rw[Bool.eq_false_iff.2 (fun k=>p (t2.1 k))];rfl)
   (fun j=>by rw[Dh.eq_2,if_neg (by omega)];rfl) a.length 0 20000 (by omega) (by omega)
  rw[←Dt hl]at h1 h2;rw[e];by_cases q:a=b
  ·exact .tt (h1 q) q
  ·exact .ff (h2 q) q
 ·exact .ff (by unfold Rd;rw[if_pos (by omega)]) fun e=>hl (by rw[e])
structure Sm (g:A6):Prop where
 r:g.f0.length≤1000
 s:g.f1.length≤1000
 p:g.f2.length≤1000
 l:g.f3.length≤1000
 ps:∀ x∈g.f2,WE x
 ls:∀ x∈g.f3,x.f1.length≤1000
theorem Pw (a b:A6) (h:Sm a):B0 (F9 20000 a b) (a=b):=by
 obtain⟨t,t1,t2⟩:=N2 a.f0 b.f0 h.r;obtain⟨u,u1,u2⟩:=QO a.f1 b.f1 h.s;obtain⟨v,v1,v2⟩:=Oo a.f2 b.f2 h.p fun x hx y _=>Pi x y (h.ps x hx);obtain⟨z,z1,z2⟩:=MO a.f3 b.f3 h.l fun x hx y _=>PK x y (h.ls x hx);unfold F9;rw[t1,u1,v1,z1,Option.bind_some,Option.bind_some,Option.bind_some,Option.bind_some];by_cases ct:t=true
 ·rw[if_pos ct];by_cases cu:u=true
  ·rw[if_pos cu];by_cases c4:a.f4=b.f4
   ·rw[if_pos c4];by_cases cv:v=true
    ·rw[if_pos cv];refine⟨z,rfl,?_⟩;rw[z2];have:=t2.1 ct;have:=u2.1 cu;have:=v2.1 cv;cases a;cases b;simp_all
    ·rw[if_neg cv];exact .ff rfl fun e=>cv (v2.2 (by rw[e]))
   ·rw[if_neg c4];exact .ff rfl fun e=>c4 (by rw[e])
  ·rw[if_neg cu];exact .ff rfl fun e=>cu (u2.2 (by rw[e]))
 ·rw[if_neg ct];exact .ff rfl fun e=>ct (t2.2 (by rw[e]))
def DM (r:B7):Prop:=r.f2.size≤40∧r.f0.size≤100
theorem PZ (l:List B7):∃ b,R5 20000 l=some b∧(b=true→l.length≤20∧∀ r∈l,DM r):=by
 by_cases hl:(20:Int)<(l.length:Int)
 ·exact⟨false,by unfold R5;rw[if_pos hl],fun h=>by cases h⟩
 ·have e:R5 20000 l=Dk 20000 l 20000 ((0:Nat):Int):=by unfold R5;rw[if_neg hl];rfl
  obtain⟨h1,h2⟩:=CA (f:=Dk 20000 l) (n:=l.length) (P:=fun q=>DM (AC l (q:Int))) (c:=some true) (d:=some false)
   (fun j i hi=>by
     have g:0≤(i:Int)∧(i:Int)<(l.length:Int):=⟨by omega,by omega⟩;rw[Dk.eq_2,if_pos g.2,if_pos g,B9 (by omega)];unfold DM;by_cases c:(40:Int)<(((AC l (i:Int)).f2).size:Int)
     ·rw[if_pos c];exact⟨fun p=>by omega,fun _=>rfl⟩
     ·rw[if_neg c,if_pos g];by_cases c2:(100:Int)<(((AC l (i:Int)).f0).size:Int)
      ·rw[decide_eq_true c2];exact⟨fun p=>by omega,fun _=>rfl⟩
      ·rw[decide_eq_false c2]
       exact⟨fun _=>rfl,fun p=>absurd ⟨by omega,by omega⟩ p⟩)
   (fun j=>by rw[Dk.eq_2,if_neg (by omega)];rfl) l.length 0 20000 (by omega) (by omega)
  rw[e];by_cases q:∀ q:Nat,0≤q→q<l.length→DM (AC l (q:Int))
  ·refine⟨true,h1 q,fun _=>⟨by omega,fun r hr=>?_⟩⟩;obtain⟨i,hi,rfl⟩:=List.getElem_of_mem hr;have:=q i (by omega) hi;rwa [Ai l i hi]at this
  ·exact⟨false,h2 q,fun h=>by cases h⟩
structure Fw (g:A6):Prop where
 r:g.f0.length≤20
 rs:∀ r∈g.f0,DM r
 s:g.f1.length≤20
 ss:∀ x∈g.f1,x.size≤100
 p:g.f2.length≤40
 ps:∀ x∈g.f2,x.f2.length≤20∧x.f5.length≤20∧x.f1.size≤100
 l:g.f3.length≤20
 ls:∀ x∈g.f3,x.f1.length≤20
theorem Fw.sm {g:A6} (h:Fw g):Sm g:=
 ⟨by have:=h.r;omega,by have:=h.s;omega,by have:=h.p;omega,by have:=h.l;omega,fun x hx=>by
   have:=h.ps x hx
   exact⟨by omega,by omega⟩,fun x hx=>by have:=h.ls x hx;omega⟩
theorem Ix {α:Type} [Inhabited α] {l:List α} {P:α→Prop} (h:∀ q:Nat,0≤q→q<l.length→P (AC l (q:Int))):∀ x∈l,P x:=fun r hr=>by
 obtain⟨i,hi,rfl⟩:=List.getElem_of_mem hr;have:=h i (by omega) hi;rwa [Ai l i hi]at this
theorem RJ (g:A6):∃ b,F6 20000 g=some b∧(b=true→Fw g):=by
 obtain⟨t,t1,t2⟩:=PZ g.f0;unfold F6;rw[t1,Option.bind_some];by_cases ct:t=true
 ·rw[ct,if_neg (by decide)];by_cases c1:(20:Int)<(g.f1.length:Int)
  ·rw[if_pos c1];exact⟨false,rfl,fun h=>by cases h⟩
  ·rw[if_neg c1];by_cases c2:(40:Int)<(g.f2.length:Int)
   ·rw[if_pos c2];exact⟨false,rfl,fun h=>by cases h⟩
   ·rw[if_neg c2,Option.bind_some];by_cases c3:(20:Int)<(g.f3.length:Int)
    ·rw[decide_eq_true c3,if_pos rfl];exact⟨false,rfl,fun h=>by cases h⟩
    ·rw[decide_eq_false c3,if_neg (by decide)];obtain⟨a1,a2⟩:=CA (f:=FY 20000 g) (n:=g.f3.length) (P:=fun q=>(AC g.f3 (q:Int)).f1.length≤20) (c:=some true) (d:=some false)
      (fun j i hi=>by
        have g0:0≤(i:Int)∧(i:Int)<(g.f3.length:Int):=⟨by omega,by omega⟩;rw[FY.eq_2,if_pos g0.2,if_pos g0,B9 (by omega)]
        exact⟨fun p=>by rw[if_neg (by omega)],fun p=>by rw[if_pos (by omega)]⟩)
      (fun j=>by rw[FY.eq_2,if_neg (by omega)];rfl) g.f3.length 0 20000 (by omega) (by omega)
     obtain⟨b1,b2⟩:=CA (f:=Fq 20000 g) (n:=g.f2.length) (P:=fun q=>(AC g.f2 (q:Int)).f2.length≤20∧(AC g.f2 (q:Int)).f5.length≤20∧(AC g.f2 (q:Int)).f1.size≤100) (c:=Li 20000 g) (d:=some false)
      (fun j i hi=>by
        have g0:0≤(i:Int)∧(i:Int)<(g.f2.length:Int):=⟨by omega,by omega⟩;rw[Fq.eq_2,if_pos g0.2,if_pos g0,B9 (by omega)];by_cases d1:(20:Int)<(((AC g.f2 (i:Int)).f2).length:Int)
        ·rw[if_pos d1];exact⟨fun p=>by omega,fun _=>rfl⟩
        ·rw[if_neg d1,if_pos g0];by_cases d2:(20:Int)<(((AC g.f2 (i:Int)).f5).length:Int)
         ·rw[if_pos d2];exact⟨fun p=>by omega,fun _=>rfl⟩
         ·rw[if_neg d2,if_pos g0];by_cases d3:(100:Int)<(((AC g.f2 (i:Int)).f1).size:Int)
          ·rw[decide_eq_true d3];exact⟨fun p=>by omega,fun _=>rfl⟩
          ·rw[decide_eq_false d3];exact⟨fun _=>rfl,fun p=>absurd ⟨by omega,by omega,by omega⟩ p⟩)
      (fun j=>by rw[Fq.eq_2,if_neg (by omega)]) g.f2.length 0 20000 (by omega) (by omega)
     obtain⟨e1,e2⟩:=CA (f:=Fo 20000 g) (n:=g.f1.length) (P:=fun q=>(AC g.f1 (q:Int)).size≤100) (c:=Lm 20000 g) (d:=some false)
      (fun j i hi=>by
        have g0:0≤(i:Int)∧(i:Int)<(g.f1.length:Int):=⟨by omega,by omega⟩;rw[Fo.eq_2,if_pos g0.2,if_pos g0,B9 (by omega)]
        exact⟨fun p=>by rw[if_neg (by omega)],fun p=>by rw[if_pos (by omega)]⟩)
      (fun j=>by rw[Fo.eq_2,if_neg (by omega)]) g.f1.length 0 20000 (by omega) (by omega)
     by_cases q1:∀ q:Nat,0≤q→q<g.f1.length→(AC g.f1 (q:Int)).size≤100
     ·by_cases q2:∀ q:Nat,0≤q→q<g.f2.length→(AC g.f2 (q:Int)).f2.length≤20∧(AC g.f2 (q:Int)).f5.length≤20∧(AC g.f2 (q:Int)).f1.size≤100
      ·by_cases q3:∀ q:Nat,0≤q→q<g.f3.length→(AC g.f3 (q:Int)).f1.length≤20
       ·refine⟨true,(e1 q1).trans ((b1 q2).trans (a1 q3)),fun _=>?_⟩;have:=t2 ct;exact⟨this.1,this.2,by omega,Ix q1,by omega,Ix q2,by omega,Ix q3⟩
       ·exact⟨false,(e1 q1).trans ((b1 q2).trans (a2 q3)),fun h=>by cases h⟩
      ·exact⟨false,(e1 q1).trans (b2 q2),fun h=>by cases h⟩
     ·exact⟨false,e2 q1,fun h=>by cases h⟩
 ·rw[Bool.eq_false_iff.2 ct];exact⟨false,rfl,fun h=>by cases h⟩
theorem Mw {α β:Type} {o:Option α} {f:α→Option β} (h:∃ b,o=some b) (k:∀ b,∃ y,f b=some y):∃ y,o.bind f=some y:=by
 obtain⟨b,hb⟩:=h;obtain⟨y,hy⟩:=k b;exact⟨y,by rw[hb,Option.bind_some];exact hy⟩
theorem it {α:Type} {p:Prop} [Decidable p] {a b:Option α} (h:∃ y,a=some y) (k:∃ y,b=some y):∃ y,(if p then a else b)=some y:=by
 split
 ·exact h
 ·exact k
theorem D5 (x:Int) (b:Bool):∃ v,El 20000 x b=some v:=by
 unfold El;refine it ⟨_,rfl⟩ (Mw (it ⟨_,rfl⟩ ⟨_,rfl⟩) fun _=>it ⟨_,rfl⟩ (Mw (it ⟨_,rfl⟩ ⟨_,rfl⟩) fun _=>it ⟨_,rfl⟩ (Mw (it ⟨_,rfl⟩ ⟨_,rfl⟩) fun _=>it ⟨_,rfl⟩ (it ⟨_,rfl⟩ (Mw (it ⟨_,rfl⟩ ⟨_,rfl⟩) fun _=>it ⟨_,rfl⟩ ⟨_,rfl⟩)))))
theorem Dw (x:Int):∃ v,P4 20000 x=some v:=by
 unfold P4;exact it (D5 _ _) (it (D5 _ _) (it (D5 _ _) (D5 _ _)))
theorem N8 (s:ByteArray) (hz:s.size≤1000):∀ (m i fuel:Nat),i+m=s.size→m<fuel→∃ b,Bn 20000 s fuel (i:Int)=some b
 | 0,i,fu+1,hi,_=>⟨true,by rw[Bn.eq_2,if_neg (by omega)];rfl⟩
 | m+1,i,fu+1,hi,hf=>by
   obtain⟨b,hb⟩:=N8 s hz m (i+1) fu (by omega) (by omega);obtain⟨v,hv⟩:=Dw (AF s (i:Int));rw[Bn.eq_2,if_pos (by omega),if_pos ⟨by omega,by omega⟩,hv,Option.bind_some,CH (by omega) (by omega)];split
   ·rw[Option.bind_some];split
    ·exact⟨_,rfl⟩
    ·exact⟨b,by exact_mod_cast hb⟩
   ·rw[Option.bind_some,if_neg (by decide)];exact⟨b,by exact_mod_cast hb⟩
theorem KH (s:ByteArray):∃ b,Mz 20000 s=some b:=by
 unfold Mz;by_cases q:(40:Int)<(s.size:Int)
 ·exact⟨false,by rw[if_pos q,Option.bind_some,if_pos rfl]⟩
 ·rw[if_neg q];by_cases e:s=ByteArray.mk #[]
  ·exact⟨false,by rw[if_pos e,Option.bind_some,if_pos rfl]⟩
  ·have hs:0<s.size:=by
    refine Classical.byContradiction fun q=>e ?_;have h1:s.data.size=0:=(show s.size=0 by omega)
    cases s with
    | mk d=>congr 1;exact Array.eq_empty_of_size_eq_zero h1
   obtain⟨v,hv⟩:=Dw (AF s 0);obtain⟨b,hb⟩:=N8 s (by omega) s.size 0 20000 (by omega) (by omega);rw[if_neg e,if_pos ⟨by omega,by omega⟩,hv,Option.bind_some,Option.bind_some];split
   ·exact⟨_,rfl⟩
   ·exact⟨b,hb⟩
end Go.Avl.TC
