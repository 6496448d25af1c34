/- Parts: TCE1, TCE3, TCE4, TCE5, TCE6, TCEB, TCEK, TCEC, TCQ2, TCV1, TCV2, TCPureGramChecks. -/
import Derived.Test.YtpkgpmmcbpfenaaGreatAM1
import Derived.Test.YtpkgpmmcbpfenaaGreatAF5
import Derived.Test.YtpkgpmmcbpfenaaGreatAF6
import Derived.Test.YtpkgpmmcbpfenaaGreatAF1
import Derived.Test.YtpkgpmmcbpfenaaGreatAM2
import Derived.Test.YtpkgpmmcbpfenaaGreatAF2
import Derived.Test.YtpkgpmmcbpfenaaGreatAF4
import Derived.Test.YtpkgpmmcbpfenaaGreatAF7
import Derived.Test.YtpkgpmmcbpfenaaGreatAF8
namespace Go.Avl.TC
open Go Go.RowKit Go.Proofs Go.Avl
set_option linter.all false
set_option maxRecDepth 10000
def hx (d:Nat):Int:=if d<10 then 48+d else 87+d
def Kh (n:Nat):List Int:=if n=10 then [92,110]else if n=9 then [92,116]else if n=13 then [92,114]else if n<32∨126<n then [92,120,hx (n / 16),hx (n%16)]else if n=92 then [92,92]else [(n:Int)]
theorem RX:∀ n:Nat,n<256→Pb 20000 (w8 n) (ByteArray.mk #[])=some (strOfNums (Kh n)):=by decide+kernel
abbrev Rq:ByteArray:=ByteArray.mk #[48,49,50,51,52,53,54,55,56,57,97,98,99,100,101,102]
theorem Rg:∀ n:Nat,n<256→(0≤(IntKind.i64.wrap ((n:Int).tdiv (16:Int)))∧(IntKind.i64.wrap ((n:Int).tdiv (16:Int)))≤(AH ((IntKind.i64.wrap ((n:Int).tdiv (16:Int)))+(1:Int)))∧(AH ((IntKind.i64.wrap ((n:Int).tdiv (16:Int)))+(1:Int)))≤(Rq.size:Int))∧
 ((ByteArray.mk #[92,120]).size+(Rq.extract (IntKind.i64.wrap ((n:Int).tdiv (16:Int))).toNat (AH ((IntKind.i64.wrap ((n:Int).tdiv (16:Int)))+(1:Int))).toNat).size≤9223372036854775807)∧
 (0≤((n:Int).tmod (16:Int))∧((n:Int).tmod (16:Int))≤(AH (((n:Int).tmod (16:Int))+(1:Int)))∧(AH (((n:Int).tmod (16:Int))+(1:Int)))≤(Rq.size:Int))∧
 (((ByteArray.mk #[92,120])++(Rq.extract (IntKind.i64.wrap ((n:Int).tdiv (16:Int))).toNat (AH ((IntKind.i64.wrap ((n:Int).tdiv (16:Int)))+(1:Int))).toNat)).size+(Rq.extract ((n:Int).tmod (16:Int)).toNat (AH (((n:Int).tmod (16:Int))+(1:Int))).toNat).size≤9223372036854775807)∧
 (((ByteArray.mk #[92,120])++(Rq.extract (IntKind.i64.wrap ((n:Int).tdiv (16:Int))).toNat (AH ((IntKind.i64.wrap ((n:Int).tdiv (16:Int)))+(1:Int))).toNat))++(Rq.extract ((n:Int).tmod (16:Int)).toNat (AH (((n:Int).tmod (16:Int))+(1:Int))).toNat))=strOfNums [92,120,hx (n / 16),hx (n%16)]:=by decide+kernel
def Cu (s:ByteArray) (n:Nat):Bool:=decide (1<s.size)&&decide ((n=10∧AF s 1=110)∨(n=9∧AF s 1=116)∨(n=13∧AF s 1=114))
def EY (s:ByteArray) (n:Nat):Bool:=decide (3<s.size)&&decide (AF s 1=120∧AF s 2=hx (n / 16)∧AF s 3=hx (n%16))
theorem SS (n:Nat) (h:n<256):w8 (n:Int)=n:=G7 (by omega) (by omega)
theorem P3:∀ n:Nat,n<256→(strOfNums (Kh n)).size=2→AF (strOfNums (Kh n)) 1≠92→(n=10∨n=9∨n=13):=by decide+kernel
theorem Qh:∀ d:Nat,d<16→0≤hx d∧hx d≤255:=by decide+kernel
theorem SK:∀ n:Nat,n<256→∀ x∈Kh n,0≤x∧x≤255:=by decide+kernel
theorem Le (s:ByteArray) (h0:AF s 0=92) (n m:Nat) (hn:n<256):
 BM 20000 s (m+1) (n:Int)=if Cu s n=true then some ((n:Int),2,true)else if EY s n=true then some ((n:Int),4,true)else BM 20000 s m ((n+1:Nat):Int):=by
 have lt:(n:Int)<256:=by omega
 obtain⟨g1,g2,g3,g4,g5⟩:=Rg n hn;have hw:AH ((n:Int)+1)=((n+1:Nat):Int):=by rw[Ax (by omega) (by omega)];omega
 rw[BM.eq_2,if_pos lt,RX n hn,Option.bind_some]
 have e2:(if((strOfNums (Kh n)).size:Int)=(2:Int)then if 0≤(1:Int)∧(1:Int)<((strOfNums (Kh n)).size:Int)then if(AF (strOfNums (Kh n)) (1:Int))≠(92:Int)then if(1:Int)<(s.size:Int)then if 0≤(0:Int)∧(0:Int)≤(2:Int)∧(2:Int)≤(s.size:Int)then some (decide ((s.extract (0:Int).toNat (2:Int).toNat)=strOfNums (Kh n)))
  else none
  else some (false)
  else some (false)
  else none
  else some (false))=some (Cu s n):=by
  by_cases a:((strOfNums (Kh n)).size:Int)=2
  ·rw[if_pos a,if_pos ⟨by omega,by omega⟩];by_cases b:AF (strOfNums (Kh n)) 1≠92
   ·rw[if_pos b];have h3:=P3 n hn (by omega) b;by_cases c:(1:Int)<(s.size:Int)
    ·rw[if_pos c,if_pos ⟨by omega,by omega,by omega⟩];have hx:=FC s 2 (by omega);have hr:(List.range 2).map (fun i:Nat=>AF s (i:Int))=[92,AF s 1]:=by
      show [AF s ((0:Nat):Int),AF s ((1:Nat):Int)]=_;simp[h0]
     rw[hr]at hx;have hx':s.extract (0:Int).toNat (2:Int).toNat=strOfNums [92,AF s 1]:=hx;have hu:=A5 s 1;have c':1<s.size:=by omega
     rw[hx'];congr 1;have inj:strOfNums [92,AF s 1]=strOfNums (Kh n)↔ [92,AF s 1]=Kh n:=⟨E5 (by simp;omega) (SK n hn),fun h=>by rw[h]⟩;simp only[inj];rcases h3 with rfl|rfl|rfl
     ·simp[Cu,c',Kh]
     ·simp[Cu,c',Kh]
     ·simp[Cu,c',Kh]
    ·have c':¬ 1<s.size:=by omega
     rw[if_neg c];simp[Cu,c']
   ·rw[if_neg b];have:¬ (n=10∨n=9∨n=13):=by
     rintro (rfl|rfl|rfl)<;>exact b (by decide)
    simp[Cu];omega
  ·rw[if_neg a];have:¬ (n=10∨n=9∨n=13):=by
    rintro (rfl|rfl|rfl)<;>exact a (by decide)
   simp[Cu];omega
 rw[e2,Option.bind_some,SS n hn];by_cases a:Cu s n=true
 ·rw[if_pos a,if_pos a]
 ·rw[if_neg a,if_neg a,if_pos g1,if_pos g2,if_pos g3,if_pos g4,g5]
  have e4:(if(3:Int)<(s.size:Int)then if 0≤(0:Int)∧(0:Int)≤(4:Int)∧(4:Int)≤(s.size:Int)then some (decide ((s.extract (0:Int).toNat (4:Int).toNat)=strOfNums [92,120,hx (n / 16),hx (n%16)]))
   else none
   else some (false))=some (EY s n):=by
   by_cases c:(3:Int)<(s.size:Int)
   ·rw[if_pos c,if_pos ⟨by omega,by omega,by omega⟩];have hx':=FC s 4 (by omega);have hr:(List.range 4).map (fun i:Nat=>AF s (i:Int))=[92,AF s 1,AF s 2,AF s 3]:=by
     show [AF s ((0:Nat):Int),AF s ((1:Nat):Int),AF s ((2:Nat):Int),AF s ((3:Nat):Int)]=_;simp[h0]
    rw[hr]at hx';have hx'':s.extract (0:Int).toNat (4:Int).toNat=strOfNums [92,AF s 1,AF s 2,AF s 3]:=hx';have u1:=A5 s 1;have u2:=A5 s 2;have u3:=A5 s 3;have v1:=Qh (n / 16) (by omega);have v2:=Qh (n%16) (by omega);have inj:strOfNums [92,AF s 1,AF s 2,AF s 3]=strOfNums [92,120,hx (n / 16),hx (n%16)]↔ [92,AF s 1,AF s 2,AF s 3]=[92,120,hx (n / 16),hx (n%16)]:=⟨E5 (by simp;omega) (by simp;omega),fun h=>by rw[h]⟩;have c':3<s.size:=by omega
    rw[hx''];simp only[inj];simp[EY,c']
   ·have c':¬ 3<s.size:=by omega
    rw[if_neg c];simp[EY,c']
  rw[e4,Option.bind_some,hw]
theorem JY (s:ByteArray) (h0:AF s 0=92) (hno:∀ j:Nat,j<256→Cu s j=false∧EY s j=false):∀ (m i:Nat),i≤256→256-i<m→BM 20000 s m (i:Int)=EC 20000 s
 | 0,i,_,h=>by omega
 | m+1,i,hi,h=>by
   by_cases a:i<256
   ·obtain⟨k1,k2⟩:=hno i a;rw[Le s h0 i m a,k1,k2];simp only[Bool.false_eq_true,if_false];exact JY s h0 hno m (i+1) (by omega) (by omega)
   ·rw[BM.eq_2,if_neg (by omega)]
theorem Nv (s:ByteArray) (h0:AF s 0=92) (u:Nat) (hu:u<256) (hit:Cu s u=true∨EY s u=true) (hno:∀ j:Nat,j<u→Cu s j=false∧EY s j=false):∀ (m i:Nat),i≤u→u-i<m→
 BM 20000 s m (i:Int)=some ((u:Int),if Cu s u=true then 2 else 4,true)
 | 0,i,_,h=>by omega
 | m+1,i,hi,h=>by
   rw[Le s h0 i m (by omega)];by_cases a:i=u
   ·subst a;by_cases b:Cu s i=true
    ·rw[if_pos b,if_pos b]
    ·rw[if_neg b,if_neg b,if_pos (hit.resolve_left b)]
   ·obtain⟨k1,k2⟩:=hno i (by omega);rw[k1,k2];simp only[Bool.false_eq_true,if_false];exact Nv s h0 u hu hit hno m (i+1) (by omega) (by omega)
def hv (b:Nat):Int:=if 48≤b∧b≤57 then(b:Int) -48 else if 97≤b∧b≤102 then(b:Int) -87 else -1
theorem Jw:∀ b:Nat,b<256→JJ 20000 (b:Int)=some (hv b):=by decide+kernel
theorem Qt:∀ b:Nat,b<256→0≤hv b→(hv b).toNat<16∧hx (hv b).toNat=b:=by decide+kernel
theorem Lc:∀ d:Nat,d<16→hv (hx d).toNat=d∧0≤hx d∧hx d<256:=by decide+kernel
theorem Pk:∀ b:Nat,b<256→PN 20000 (b:Int)=some (decide ((48≤b∧b≤57)∨(97≤b∧b≤122)∨(65≤b∧b≤90))):=by decide+kernel
theorem Oi:∀ a:Nat,a<16→∀ b:Nat,b<16→w8 (bits .or .i64 (IntKind.i64.wrap ((a:Int)*2 ^ (min (4:Int).toNat IntKind.i64.bits))) (b:Int))=((16*a+b:Nat):Int):=by decide+kernel
theorem TH (s:ByteArray) (h:¬ AF s 1=110∧¬ AF s 1=116∧¬ AF s 1=114∧¬ AF s 1=120) (j:Nat):Cu s j=false∧EY s j=false:=by
 obtain⟨a,b,c,d⟩:=h;simp[Cu,EY,a,b,c,d]
theorem NL (s:ByteArray) (h0:AF s 0=92) (hz:s.size=1):BM 20000 s 20000 0=some (0,0,false):=by
 have:=JY s h0 (fun j _=>by simp[Cu,EY,hz]) 20000 0 (by omega) (by omega);rw[show ((0:Nat):Int)=0 from rfl]at this;rw[this,EC,if_neg (by omega),Option.bind_some,if_neg (by simp)]
theorem RF (s:ByteArray) (hz:1<s.size):EC 20000 s=CO 20000 s:=by
 obtain⟨b,hb⟩:∃ b:Nat,AF s 1=b:=⟨(AF s 1).toNat,by have:=A5 s 1;omega⟩;have hlt:b<256:=by have:=A5 s 1;omega
 have g:0≤(1:Int)∧(1:Int)<(s.size:Int):=⟨by omega,by omega⟩;have g1:(1:Int)<(s.size:Int):=by omega
 unfold EC CO;simp only[if_pos g,if_pos g1,hb,Pk b hlt,Option.bind_some];clear hb g g1 hz
 revert b
 have key:∀ b:Nat,b<256→(Option.bind (α:=Bool) (if(32:Int)≤(b:Int)then if(b:Int)≤(126:Int)then some (!(decide ((48≤b∧b≤57)∨(97≤b∧b≤122)∨(65≤b∧b≤90))))else some false else some false) fun b6=>if b6=true then some ((b:Int),(2:Int),true)else some ((0:Int),(0:Int),false))=(if(32≤b∧b≤126)∧¬ ((48≤b∧b≤57)∨(97≤b∧b≤122)∨(65≤b∧b≤90))then some ((b:Int),(2:Int),true)else some ((0:Int),(0:Int),false)):=by decide+kernel
 intro b hlt;decide+revert+kernel
theorem Km (s:ByteArray) (h0:AF s 0=92) (hz:1<s.size) (u:Nat) (hu:(u=10∧AF s 1=110)∨(u=9∧AF s 1=116)∨(u=13∧AF s 1=114)):BM 20000 s 20000 0=some ((u:Int),2,true):=by
 have hh:Cu s u=true:=by simp[Cu,hz];omega
 have:=Nv s h0 u (by omega) (.inl hh) (fun j hj=>by
  refine⟨?_,?_⟩
  ·simp only[Cu,Bool.and_eq_false_iff,decide_eq_false_iff_not];right;omega
  ·simp only[EY,Bool.and_eq_false_iff,decide_eq_false_iff_not];right;omega) 20000 0 (by omega) (by omega)
 rw[if_pos hh]at this;exact this
theorem QM (s:ByteArray):∃ t,CO 20000 s=some t:=by
 obtain⟨b,hb⟩:∃ b:Nat,AF s 1=b:=⟨(AF s 1).toNat,by have:=A5 s 1;omega⟩;have hlt:b<256:=by have:=A5 s 1;omega
 apply Option.isSome_iff_exists.1;unfold CO;simp only[hb];clear hb
 revert b
 decide+kernel
theorem G9 (s:ByteArray) (h0:AF s 0=92) (c4:AF s 1=120) (hz:1<s.size) (hno:∀ j:Nat,j<256→EY s j=false):BM 20000 s 20000 0=some (0,0,false):=by
 have hn:=JY s h0 (fun j hj=>⟨by simp[Cu,c4],hno j hj⟩) 20000 0 (by omega) (by omega);rw[show ((0:Nat):Int)=0 from rfl]at hn;rw[hn,RF s hz];unfold CO;simp only[c4];rfl
theorem M3 (s:ByteArray) (h0:AF s 0=92) (c4:AF s 1=120) (hz:1<s.size):∃ t,Ez 20000 s=some t∧BM 20000 s 20000 0=some t:=by
 obtain⟨b,hb⟩:∃ b:Nat,AF s 2=b:=⟨(AF s 2).toNat,by have:=A5 s 2;omega⟩;have hbl:b<256:=by have:=A5 s 2;omega
 obtain⟨d,hd⟩:∃ d:Nat,AF s 3=d:=⟨(AF s 3).toNat,by have:=A5 s 3;omega⟩;have hdl:d<256:=by have:=A5 s 3;omega
 unfold Ez;by_cases z:(4:Int)≤(s.size:Int)
 ·have g2:0≤(2:Int)∧(2:Int)<(s.size:Int):=⟨by omega,by omega⟩;have g3:0≤(3:Int)∧(3:Int)<(s.size:Int):=⟨by omega,by omega⟩;have z':3<s.size:=by omega
  simp only[if_pos z,if_pos g2,if_pos g3,hb,hd,Jw b hbl,Jw d hdl,Option.bind_some];have miss:(¬ 0≤hv b∨¬ 0≤hv d)→∀ j:Nat,j<256→EY s j=false:=by
   intro hm j hj;simp only[EY,hb,hd,Bool.and_eq_false_iff,decide_eq_false_iff_not];right;rintro⟨_,k1,k2⟩;have q1:=Lc (j / 16) (by omega);have q2:=Lc (j%16) (by omega);rw[←k1]at q1;rw[←k2]at q2;simp only[Int.toNat_natCast]at q1 q2;omega
  by_cases v:0≤hv b
  ·simp only[if_pos v,Option.bind_some];by_cases w:0≤hv d
   ·rw[if_pos (by simpa using w)];obtain⟨p1,p2⟩:=Qt b hbl v;obtain⟨p3,p4⟩:=Qt d hdl w;obtain⟨x,hx'⟩:∃ x:Nat,hv b=x:=⟨(hv b).toNat,by omega⟩;obtain⟨y,hy⟩:∃ y:Nat,hv d=y:=⟨(hv d).toNat,by omega⟩;rw[hx']at p1 p2⊢;rw[hy]at p3 p4⊢
    simp only[Int.toNat_natCast]at p1 p2 p3 p4;refine⟨_,rfl,?_⟩;rw[Oi x p1 y p3];have e1:(16*x+y) / 16=x:=by omega
    have e2:(16*x+y)%16=y:=by omega
    have n2:Cu s (16*x+y)=false:=by simp[Cu,c4]
    have h4:EY s (16*x+y)=true:=by simp[EY,z',c4,hb,hd,e1,e2,p2,p4]
    have:=Nv s h0 (16*x+y) (by omega) (.inr h4) (fun j hj=>⟨by simp[Cu,c4],by
     simp only[EY,hb,hd,Bool.and_eq_false_iff,decide_eq_false_iff_not];right;rintro⟨_,k1,k2⟩;have q1:=(Lc (j / 16) (by omega)).1;have q2:=(Lc (j%16) (by omega)).1;rw[←k1]at q1;rw[←k2]at q2;simp only[Int.toNat_natCast]at q1 q2
     omega⟩) 20000 0 (by omega) (by omega)
    rw[n2]at this;exact this
   ·rw[if_neg (by simpa using w)];exact⟨_,rfl,G9 s h0 c4 hz (miss (.inr w))⟩
  ·simp only[if_neg v,Option.bind_some];rw[if_neg (by simp)];exact⟨_,rfl,G9 s h0 c4 hz (miss (.inl v))⟩
 ·rw[if_neg z,Option.bind_some,if_neg (by simp)];exact⟨_,rfl,G9 s h0 c4 hz (fun j _=>by simp[EY];omega)⟩
theorem QA (s:ByteArray) (hs:s.size≤1000000):∃ t,Jz 20000 s=some t∧Jk 20000 s=some t:=by
 unfold Jz Jk;by_cases e:s=ByteArray.mk #[]
 ·rw[if_pos e,if_pos e];exact⟨_,rfl,rfl⟩
 have hpos:0<s.size:=by
  rcases Nat.eq_zero_or_pos s.size with h|h
  ·exact absurd (by rw[Jv s,h];rfl) e
  ·exact h
 have g:0≤(0:Int)∧(0:Int)<(s.size:Int):=⟨by omega,by omega⟩;simp only[if_neg e,if_pos g];by_cases a:AF s 0=92
 ·simp only[a,ne_eq,not_true,if_false];by_cases b:(s.size:Int)<2
  ·rw[if_pos b,NL s a (by omega)];exact⟨_,rfl,rfl⟩
  ·have g1:0≤(1:Int)∧(1:Int)<(s.size:Int):=⟨by omega,by omega⟩;rw[if_neg b,if_pos g1];by_cases c1:AF s 1=110
   ·rw[if_pos c1,Km s a (by omega) 10 (by omega)];exact⟨_,rfl,rfl⟩
   rw[if_neg c1];by_cases c2:AF s 1=116
   ·rw[if_pos c2,Km s a (by omega) 9 (by omega)];exact⟨_,rfl,rfl⟩
   rw[if_neg c2];by_cases c3:AF s 1=114
   ·rw[if_pos c3,Km s a (by omega) 13 (by omega)];exact⟨_,rfl,rfl⟩
   rw[if_neg c3];by_cases c4:AF s 1=120
   ·rw[if_pos c4];exact M3 s a c4 (by omega)
   ·rw[if_neg c4];have hn:=JY s a (fun j _=>TH s ⟨c1,c2,c3,c4⟩ j) 20000 0 (by omega) (by omega);rw[show ((0:Nat):Int)=0 from rfl]at hn;rw[hn,RF s (by omega)];by_cases c5:AF s 1=0
    ·rw[if_pos c5];exact⟨_,rfl,by unfold CO;simp only[c5];rfl⟩
    ·rw[if_neg c5];obtain⟨t,ht⟩:=QM s;exact⟨t,ht,ht⟩
 ·rw[if_pos a,if_pos a];exact⟨_,rfl,rfl⟩
def LJ (t:ByteArray) (c:Int):Bool:=(F2 20000 t c).getD false
theorem SA (t:ByteArray) (hz:t.size≤1000) (c:Int):∀ (m i fuel:Nat),i+m=t.size→m<fuel→∃ b,BL 20000 t c fuel (i:Int)=some b∧∀ (s:ByteArray) (a:Nat) (dp:Int),a<s.size→AF s (a:Int)=c→CV 20000 (Aa.mk s (a:Int) dp) t fuel (i:Int)=some b
 | 0,i,fu+1,hi,_=>⟨false,by rw[BL.eq_2,if_neg (by omega)];rfl,fun s a dp _ _=>by rw[CV.eq_2,if_neg (by omega)];rfl⟩
 | m+1,i,fu+1,hi,hf=>by
   obtain⟨b,hb,hb2⟩:=SA t hz c m (i+1) fu (by omega) (by omega);by_cases q:AF t (i:Int)=c
   ·refine⟨true,by rw[BL.eq_2,if_pos (by omega),if_pos ⟨by omega,by omega⟩,if_pos q],fun s a dp ha hc=>?_⟩;rw[CV.eq_2,if_pos (by omega)];show (if 0≤(a:Int)∧(a:Int)<(s.size:Int)then _ else none)=_;rw[if_pos ⟨by omega,by omega⟩,if_pos ⟨by omega,by omega⟩];exact if_pos (by rw[q];exact hc)
   ·refine⟨b,by rw[BL.eq_2,if_pos (by omega),if_pos ⟨by omega,by omega⟩,if_neg q,CH (by omega) (by omega)];exact_mod_cast hb,fun s a dp ha hc=>?_⟩;rw[CV.eq_2,if_pos (by omega)];show (if 0≤(a:Int)∧(a:Int)<(s.size:Int)then _ else none)=_;rw[if_pos ⟨by omega,by omega⟩,if_pos ⟨by omega,by omega⟩,CH (by omega) (by omega)];refine(if_neg (fun e=>q ?_)).trans (by exact_mod_cast hb2 s a dp ha hc);rw[←hc];exact e.symm
theorem IT (t:ByteArray) (hz:t.size≤1000) (c:Int):F2 20000 t c=some (LJ t c):=by
 obtain⟨b,hb,_⟩:=SA t hz c t.size 0 20000 (by omega) (by omega);have hb:F2 20000 t c=some b:=hb;unfold LJ;rw[hb];rfl
theorem G6 (s:ByteArray) (a:Nat) (dp:Int) (t:ByteArray) (hz:t.size≤1000):I3 20000 (Aa.mk s (a:Int) dp) t=some (decide (s.size≤a)||LJ t (AF s (a:Int))):=by
 unfold I3;show (if(s.size:Int)≤(a:Int)then _ else _)=_;by_cases q:s.size≤a
 ·rw[if_pos (by omega)];simp[q]
 ·rw[if_neg (by omega)];obtain⟨b,hb,hb2⟩:=SA t hz (AF s (a:Int)) t.size 0 20000 (by omega) (by omega);have hb:F2 20000 t (AF s (a:Int))=some b:=hb;rw[IT t hz]at hb;have:=hb2 s a dp (by omega) rfl;rw[show ((0:Nat):Int)=0 from rfl]at this;rw[this, ←hb];simp[q]
theorem NP (s:ByteArray) (hz:s.size≤1000) (a:Nat) (dp c:Int):Hw 20000 (Aa.mk s (a:Int) dp) c=some (if a<s.size∧AF s (a:Int)=c then(true,Aa.mk s ((a+1:Nat):Int) dp)else(false,Aa.mk s (a:Int) dp)):=by
 unfold Hw;show Option.bind (if(a:Int)<(s.size:Int)then if 0≤(a:Int)∧(a:Int)<(s.size:Int)then some (decide (AF s (a:Int)=c))else none else some false) _=_;by_cases q:a<s.size
 ·rw[if_pos (by omega),if_pos ⟨by omega,by omega⟩,Option.bind_some];by_cases e:AF s (a:Int)=c
  ·rw[decide_eq_true e,if_pos rfl,if_pos ⟨q,e⟩];show some (true,Aa.mk s (AH ((a:Int)+1)) dp)=_;rw[CH (by omega) (by omega)];rfl
  ·rw[decide_eq_false e,if_neg (by simp),if_neg (by simp[e])]
 ·rw[if_neg (by omega),Option.bind_some,if_neg (by simp),if_neg (by simp[q])]
theorem HH (s:ByteArray) (hz:s.size≤1000) {a:Nat} (ha:a≤s.size) (dp:Int):∃ (c:Nat) (ok:Bool) (n:Nat),JR 20000 (Aa.mk s (a:Int) dp)=some ((c:Int),ok,Aa.mk s ((a+n:Nat):Int) dp)∧Jk 20000 (s.extract a s.size)=some ((c:Int),(n:Int),ok)∧c<256∧a+n≤s.size∧(ok=true→1≤n):=by
 obtain⟨y,y1,c,n,y2,y3,y4,y5⟩:=Mk (s.extract a s.size);have hx:(s.extract a s.size).size=s.size-a:=by simp
 rw[hx]at y4;obtain⟨t,t1,t2⟩:=QA (s.extract a s.size) (by omega);have e:t=y:=Option.some.inj (t1.symm.trans y1);subst e;refine⟨c,t.2.2,n,?_,by rw[t2];exact congrArg some y2,y3,by omega,y5⟩;unfold JR;show (if 0≤(a:Int)∧(a:Int)≤(s.size:Int)∧(s.size:Int)≤(s.size:Int)then(Jz 20000 (s.extract (a:Int).toNat (s.size:Int).toNat)).bind _ else none)=_;rw[if_pos ⟨by omega,by omega,Int.le_refl _⟩,Int.toNat_natCast,Int.toNat_natCast,y1,Option.bind_some];show some (t.1,t.2.2,Aa.mk s (AH ((a:Int)+t.2.1)) dp)=_;rw[y2];show some ((c:Int),t.2.2,Aa.mk s (AH ((a:Int)+(n:Int))) dp)=_;rw[CH (by omega) (by omega)];rfl
theorem V7 (c:Int):LJ (ByteArray.mk #[93]) c=decide (c=93):=by
 unfold LJ F2;rw[show (20000:Nat)=19998+1+1 from rfl,BL.eq_2,if_pos (by decide),if_pos (by decide)];have e:AF (ByteArray.mk #[93]) 0=93:=rfl;rw[e];by_cases q:(93:Int)=c
 ·rw[if_pos q,decide_eq_true q.symm];rfl
 ·rw[if_neg q,decide_eq_false (fun h=>q h.symm),BL.eq_2,if_neg (by decide)];rfl
theorem M7 {x:Nat} (h:x<256):tb VZ x=false:=Fc x h
theorem Qr {v:Vector Int 4} {x:Nat} (h:x<256) (e:tb v x=true):v≠VZ:=fun q=>by rw[q,M7 h]at e;cases e
theorem SM:∃ c,MP 20000=some c∧K9 20000 3 VZ VZ=some c∧U c∧c≠VZ:=by
 obtain⟨c,c1,c2,c3⟩:=L4;obtain⟨d,d1,d2,d3⟩:=Ly 3 FK FK;have e:c=d:=JV c2 d2 fun x hx=>by rw[c3 x hx,d3 x hx];unfold Ma;simp[Fc x hx]
 subst e;exact⟨c,c1,d1,c2,Qr (x:=0) (by omega) (c3 0 (by omega))⟩
theorem SC {c:Nat} (hc:c<256):∃ v,QV 20000 [(c:Int)]=some v∧J8 20000 (Ac (List.replicate 256 false) (c:Int) true)=some v∧U v∧v≠VZ:=by
 obtain⟨v,v1,v2,v3⟩:=Ts [(c:Int)] (fun b hb=>by rw[List.mem_singleton.1 hb];omega) (by simp) 1 0 20000 VZ (by simp) (by omega) FK;obtain⟨d,d1,d2,d3⟩:=KZ (Ac (List.replicate 256 false) (c:Int) true);have k:∀ x:Nat,x<256→tb v x=decide (x=c):=fun x hx=>by
  rw[v3 x hx,M7 hx,Bool.false_or,List.drop_zero];by_cases q:x=c
  ·rw[decide_eq_true q,decide_eq_true (by rw[q];exact List.mem_singleton.2 rfl)]
  ·rw[decide_eq_false q,decide_eq_false (fun h=>q (by have:=List.mem_singleton.1 h;omega))]
 have e:v=d:=JV v2 d2 fun x hx=>by
  rw[k x hx,d3 x hx];unfold Ac;rw[Int.toNat_natCast,List.getD_eq_getElem?_getD];by_cases q:x=c
  ·subst q;rw[List.getElem?_set_self (by simp;omega)];simp
  ·rw[List.getElem?_set_ne (fun h=>q h.symm),List.getElem?_replicate,if_pos hx];simp[q]
 subst e;exact⟨v,v1,d1,v2,Qr hc (by rw[k c hc];simp)⟩
theorem ES {s:ByteArray} (hz:s.size≤1000) {a:Nat} {c:Int} (h:a<s.size∧AF s (a:Int)=c) (dp:Int):Hw 20000 (Aa.mk s (a:Int) dp) c=some (true,Aa.mk s ((a+1:Nat):Int) dp):=by rw[NP s hz,if_pos h]
theorem C6 {s:ByteArray} (hz:s.size≤1000) {a:Nat} {c:Int} (h:¬ (a<s.size∧AF s (a:Int)=c)) (dp:Int):Hw 20000 (Aa.mk s (a:Int) dp) c=some (false,Aa.mk s (a:Int) dp):=by rw[NP s hz,if_neg h]
def VL (v:Vector Int 4) (L:List Bool):Prop:=L.length=256∧U v∧∀ x,x<256→tb v x=L.getD x false
theorem On (rec_:Int→List Bool→Option (List AE×Int)) (x39:Int) {t:Nat} (ht:t<256):∀ (m i fuel:Nat) (L:List Bool),i+m=t+1→m<fuel→L.length=256→
 ∃ L':List Bool,CS 20000 rec_ x39 (t:Int) fuel L (i:Int)=rec_ x39 L'∧L'.length=256∧∀ x,x<256→L'.getD x false=(L.getD x false||decide (i≤x∧x≤t))
 | 0,i,fu+1,L,hi,_,hL=>⟨L,by rw[CS.eq_2,CH (x:=(t:Int)) (by omega) (by omega),if_neg (by omega)],hL,fun x hx=>by rw[decide_eq_false (by omega)];simp⟩
 | m+1,i,fu+1,L,hi,hf,hL=>by
   obtain⟨L',h1,h2,h3⟩:=On rec_ x39 ht m (i+1) fu (Ac L (i:Int) true) (by omega) (by omega) (by rw[BN];exact hL);refine⟨L',?_,h2,fun x hx=>?_⟩
   ·rw[CS.eq_2,CH (x:=(t:Int)) (by omega) (by omega),if_pos (by omega),if_pos ⟨by omega,by omega⟩,CH (by omega) (by omega)];exact_mod_cast h1
   ·rw[h3 x hx];unfold Ac;rw[Int.toNat_natCast,List.getD_eq_getElem?_getD,List.getD_eq_getElem?_getD];by_cases q:i=x
    ·subst q;rw[List.getElem?_set_self (by omega),decide_eq_true (show i≤i∧i≤t by omega)];simp
    ·rw[List.getElem?_set_ne q];congr 1;exact decide_eq_decide.2 (by omega)
def BR (s:ByteArray) (a0:Nat) (dp:Int) (o:Option (List AE×Bool×Aa)) (w:Option (List AE×Int)):Prop:=
 ∃ (l:List AE) (ok:Bool) (a':Nat),o=some (l,ok,Aa.mk s (a':Int) dp)∧a0≤a'∧a'≤s.size∧l.length≤1∧
  (ok=true→a0<a'∧w=some (l,(a':Int))∧∃ v,l=[AE.mk 1 v]∧U v∧v≠VZ)∧(ok=false→∃ z,w=some ([],z))
theorem BR.no {s:ByteArray} {a0 a':Nat} {dp z:Int} {l:List AE} (h:a0≤a') (h2:a'≤s.size) (hl:l.length≤1:=by simp):BR s a0 dp (some (l,false,Aa.mk s (a':Int) dp)) (some ([],z)):=
 ⟨l,false,a',rfl,h,h2,hl,(fun q=>by cases q),fun _=>⟨z,rfl⟩⟩
theorem PJ {s:ByteArray} (hz:s.size≤1000) {a0 a:Nat} (h0:a0≤a) (ha:a≤s.size) (hc:a<s.size→AF s (a:Int)=93) (dp:Int) {v:Vector Int 4} (hv:U v):BR s a0 dp (E7 20000 s (a:Int) dp v) (Es 20000 s (a:Int) v):=by
 unfold E7 Es;by_cases q:a<s.size
 ·rw[ES hz ⟨q,hc q⟩,Option.bind_some,if_pos rfl,if_neg (by omega),Option.bind_some];show BR s a0 dp ((some (decide (v=Vector.replicate 4 (0:Int)))).bind _) _;rw[Option.bind_some];by_cases e:v=Vector.replicate 4 (0:Int)
  ·rw[decide_eq_true e,if_pos rfl];exact BR.no (a':=a+1) (by omega) (by omega)
  ·rw[decide_eq_false e,if_neg (by simp),CH (by omega) (by omega)];exact⟨[AE.mk 1 v],true,a+1,rfl,by omega,by omega,by simp,fun _=>⟨by omega,rfl,v,rfl,hv,e⟩,fun h=>by cases h⟩
 ·rw[C6 hz (fun h=>q h.1),Option.bind_some,if_neg (by simp),if_pos (by omega),Option.bind_some,if_pos rfl];exact BR.no h0 ha
theorem JF {s:ByteArray} (hz:s.size≤1000) (t2:Bool×Aa) (dp:Int) {a0:Nat}:∀ (m a f1 f2:Nat) (v:Vector Int 4) (L:List Bool),s.size-a<m→m≤f1→m≤f2→a0≤a→a≤s.size→VL v L→
 BR s a0 dp (CU 20000 t2 f1 s (a:Int) dp v) (CE 20000 s t2.1 f2 (a:Int) L)
 | 0,_,_,_,_,_,h,_,_,_,_,_=>by omega
 | m+1,a,f1,f2,v,L,hm,hf1,hf2,h0,ha,hv=>by
   obtain⟨f1,rfl⟩:∃ q,f1=q+1:=⟨f1-1,by omega⟩;obtain⟨f2,rfl⟩:∃ q,f2=q+1:=⟨f2-1,by omega⟩;rw[CU.eq_2,CE.eq_2,G6 s a dp _ (by decide),Option.bind_some,V7];by_cases q:a<s.size∧AF s (a:Int)≠93
   ·
    have qa:=q.1;have e1:(decide (s.size≤a)||decide (AF s (a:Int)=93))=false:=by simp[q.2];omega
    rw[e1,if_pos (by simp),if_pos (by omega),if_pos ⟨by omega,by omega⟩,Option.bind_some,decide_eq_true q.2,if_pos rfl,if_pos ⟨by omega,by omega,Int.le_refl _⟩,Int.toNat_natCast,Int.toNat_natCast,G6 s a dp _ (by decide),Option.bind_some];obtain⟨c,ok,n,b1,b2,b3,b4,b5⟩:=HH s hz ha dp;rw[b2,Option.bind_some,b1];have e2:(decide (s.size≤a)||LJ (ByteArray.mk #[94,45,47,34]) (AF s (a:Int)))=LJ (ByteArray.mk #[94,45,47,34]) (AF s (a:Int)):=by rw[decide_eq_false (by omega),Bool.false_or]
    rw[e2,if_pos (show 0≤(a:Int)∧(a:Int)<(s.size:Int)from⟨by omega,by omega⟩),IT _ (by decide),Option.bind_some,Option.bind_some];by_cases q2:LJ (ByteArray.mk #[94,45,47,34]) (AF s (a:Int))=true
    ·rw[if_pos q2];have:(if(!((c:Int),(n:Int),ok).2.2)=true then some true else some (LJ (ByteArray.mk #[94,45,47,34]) (AF s (a:Int))))=some true:=by rw[q2];split<;>rfl
     rw[this,Option.bind_some,if_pos rfl];exact BR.no h0 ha
    ·rw[if_neg q2]
     cases ok with
     | false=>
       show BR s a0 dp (if(!false)=true then some ([],false,Aa.mk s ((a+n:Nat):Int) dp)else _) _;have e9:(if(!((c:Int),(n:Int),false).2.2)=true then some true else some (LJ (ByteArray.mk #[94,45,47,34]) (AF s (a:Int))))=some true:=rfl;rw[if_pos (show (!false)=true from rfl),e9,Option.bind_some,if_pos rfl];exact BR.no (by omega) (by omega)
     | true=>
       have n1:=b5 rfl;show BR s a0 dp (if(!true)=true then _ else(Hw 20000 (Aa.mk s ((a+n:Nat):Int) dp) 45).bind _) _;rw[if_neg (by simp),if_neg (by simp),eq_false_of_ne_true q2,Option.bind_some,if_neg (by simp)];have e3:AH ((a:Int)+(n:Int))=((a+n:Nat):Int):=by rw[CH (by omega) (by omega)];rfl
       show BR s a0 dp _ (Option.bind (if AH ((a:Int)+(n:Int))<(s.size:Int)then if 0≤AH ((a:Int)+(n:Int))∧AH ((a:Int)+(n:Int))<(s.size:Int)then some (decide (AF s (AH ((a:Int)+(n:Int)))=45))else none else some false) _);rw[e3];have go:∀ (a2 t:Nat),a+n≤a2→a2≤s.size→c≤t→t<256→BR s a0 dp (D7 20000 (CU 20000 t2 f1) v ((c:Int),true,Aa.mk s ((a+n:Nat):Int) dp) s (a2:Int) dp (t:Int)) (EL 20000 (CE 20000 s t2.1 f2) L ((c:Int),(n:Int),true) (a2:Int) (t:Int)):=by
        intro a2 t k1 k2 k3 k4;obtain⟨r,r1,r2,r3⟩:=O0 b3 k4;obtain⟨u,u1,u2,u3⟩:=Go.Avl.TC.or_eq hv.2.1 r2;unfold D7 EL;show BR s a0 dp ((MZ 20000 (c:Int) (t:Int)).bind _) (CS 20000 _ (a2:Int) (t:Int) 20000 L (AH (c:Int)));rw[r1,Option.bind_some,u1,Option.bind_some,CH (by omega) (by omega)];obtain⟨L',l1,l2,l3⟩:=On (CE 20000 s t2.1 f2) (a2:Int) k4 (t+1-c) c 20000 L (by omega) (by omega) hv.1;rw[l1];exact JF hz t2 dp m a2 f1 f2 u L' (by omega) (by omega) (by omega) (by omega) k2 ⟨l2,u2,fun x hx=>by rw[u3 x hx,r3 x hx,l3 x hx,hv.2.2 x hx]⟩
       by_cases q3:a+n<s.size∧AF s ((a+n:Nat):Int)=45
       ·have q3a:=q3.1;rw[ES hz q3,Option.bind_some,if_pos rfl,if_pos (by omega),if_pos ⟨by omega,by omega⟩,Option.bind_some,decide_eq_true q3.2,if_pos rfl,G6 s (a+n+1) dp _ (by decide),Option.bind_some];have e4:AH (((a+n:Nat):Int)+1)=((a+n+1:Nat):Int):=by rw[CH (by omega) (by omega)];rfl
        rw[e4];by_cases q4:s.size≤a+n+1
        ·rw[if_pos (by simp[q4]),if_pos (by omega),Option.bind_some,if_pos rfl];exact BR.no (by omega) (by omega)
        ·rw[if_neg (show ¬ (s.size:Int)≤((a+n+1:Nat):Int)by omega),if_pos (show 0≤((a+n+1:Nat):Int)∧((a+n+1:Nat):Int)<(s.size:Int)from⟨by omega,by omega⟩),IT _ (by decide),Option.bind_some,Option.bind_some,decide_eq_false q4,Bool.false_or];by_cases q5:LJ (ByteArray.mk #[93,94,45,47,34]) (AF s ((a+n+1:Nat):Int))=true
         ·rw[if_pos q5,if_pos q5];exact BR.no (by omega) (by omega)
         ·rw[if_neg q5,if_neg q5,if_pos ⟨by omega,by omega,Int.le_refl _⟩,Int.toNat_natCast];obtain⟨c',ok',n',d1,d2,d3,d4,d5⟩:=HH s hz (a:=a+n+1) (by omega) dp;show BR s a0 dp ((JR 20000 (Aa.mk s ((a+n+1:Nat):Int) dp)).bind _) _;rw[d1,d2,Option.bind_some,Option.bind_some]
          cases ok' with
          | false=>
            show BR s a0 dp (Option.bind (if(!false)=true then some true else _) _) (Option.bind (if(!false)=true then some true else _) _);rw[if_pos (show (!false)=true from rfl),Option.bind_some,Option.bind_some,if_pos rfl,if_pos rfl];exact BR.no (by omega) (by omega)
          | true=>
            have n2:=d5 rfl;show BR s a0 dp (Option.bind (if(!true)=true then some true else some (decide ((c':Int)<(c:Int)))) _) (Option.bind (if(!true)=true then some true else some (decide ((c':Int)<(c:Int)))) _);rw[if_neg (by simp),Option.bind_some,Option.bind_some];by_cases q6:(c':Int)<(c:Int)
            ·rw[decide_eq_true q6,if_pos rfl,if_pos rfl];exact BR.no (by omega) (by omega)
            ·rw[decide_eq_false q6,if_neg (by simp),if_neg (by simp)];show BR s a0 dp (D7 20000 _ v _ s ((a+n+1+n':Nat):Int) dp (c':Int)) (EL 20000 _ L _ (AH (((a+n+1:Nat):Int)+(n':Int))) (c':Int));have e5:AH (((a+n+1:Nat):Int)+(n':Int))=((a+n+1+n':Nat):Int):=by rw[CH (by omega) (by omega)];rfl
             rw[e5];exact go (a+n+1+n') c' (by omega) (by omega) (by omega) d3
       ·rw[C6 hz q3,Option.bind_some,if_neg (by simp)];have:(if((a+n:Nat):Int)<(s.size:Int)then if 0≤((a+n:Nat):Int)∧((a+n:Nat):Int)<(s.size:Int)then some (decide (AF s ((a+n:Nat):Int)=45))else none else some false)=some false:=by
         by_cases q4:a+n<s.size
         ·rw[if_pos (by omega),if_pos ⟨by omega,by omega⟩,decide_eq_false (fun h=>q3 ⟨q4,h⟩)]
         ·rw[if_neg (by omega)]
        rw[this,Option.bind_some,if_neg (by simp)];exact go (a+n) c (Nat.le_refl _) b4 (Nat.le_refl _) b3
   ·have e1:(decide (s.size≤a)||decide (AF s (a:Int)=93))=true:=by
     by_cases k:s.size≤a
     ·simp[k]
     ·simp;right;exact Classical.not_not.1 fun h=>q ⟨by omega,h⟩
    have e2:(if(a:Int)<(s.size:Int)then if 0≤(a:Int)∧(a:Int)<(s.size:Int)then some (decide (AF s (a:Int)≠93))else none else some false)=some false:=by
     by_cases k:a<s.size
     ·rw[if_pos (by omega),if_pos ⟨by omega,by omega⟩,decide_eq_false (fun h=>q ⟨k,h⟩)]
     ·rw[if_neg (by omega)]
    rw[e1,if_neg (by simp),e2,Option.bind_some,if_neg (by simp)];have hc:a<s.size→AF s (a:Int)=93:=fun k=>Classical.not_not.1 fun h=>q ⟨k,h⟩;obtain⟨d,d1,d2,d3⟩:=KZ L;have ed:v=d:=JV hv.2.1 d2 fun x hx=>by rw[hv.2.2 x hx,d3 x hx]
    subst ed;unfold Gu Gk;rw[d1,Option.bind_some]
    cases ht:t2.1 with
    | true=>
      obtain⟨p,p1,p2,p3⟩:=ST hv.2.1;obtain⟨r,r1,r2,r3⟩:=Ly 3 hv.2.1 hv.2.1;have e:p=r:=JV p2 r2 fun x hx=>by rw[p3 x hx,r3 x hx];rfl
      subst e;rw[if_pos rfl,if_pos rfl,p1,r1,Option.bind_some,Option.bind_some];exact PJ hz h0 ha hc dp p2
    | false=>
      rw[if_neg (by simp),if_neg (by simp)];exact PJ hz h0 ha hc dp hv.2.1
theorem Ld:VL VZ (List.replicate 256 false):=⟨by simp,FK,fun x hx=>by rw[M7 hx,List.getD_eq_getElem?_getD,List.getElem?_replicate,if_pos hx];rfl⟩
theorem TM {s:ByteArray} (hz:s.size≤1000) {a:Nat} (ha:a≤s.size) (dp:Int):BR s a dp (NJ 20000 (Aa.mk s (a:Int) dp)) (NA 20000 s (a:Int)):=by
 unfold NJ NA;rw[if_pos (by decide)];by_cases q:a<s.size∧AF s (a:Int)=94
 ·have qa:=q.1;rw[ES hz q,Option.bind_some,if_pos (by omega),if_pos ⟨by omega,by omega⟩,Option.bind_some,decide_eq_true q.2,if_pos rfl,CH (by omega) (by omega)];obtain⟨l,ok,a',h1,h2,h3,hl,h4,h5⟩:=JF hz (true,Aa.mk s ((a+1:Nat):Int) dp) dp (a0:=a+1) (s.size - (a+1)+1) (a+1) 20000 20000 VZ (List.replicate 256 false) (by omega) (by omega) (by omega) (Nat.le_refl _) (by omega) Ld;exact⟨l,ok,a',h1,by omega,h3,hl,fun k=>⟨by have:=(h4 k).1;omega,(h4 k).2⟩,h5⟩
 ·rw[C6 hz q,Option.bind_some];have e:(if(a:Int)<(s.size:Int)then if 0≤(a:Int)∧(a:Int)<(s.size:Int)then some (decide (AF s (a:Int)=94))else none else some false)=some false:=by
   by_cases k:a<s.size
   ·rw[if_pos (by omega),if_pos ⟨by omega,by omega⟩,decide_eq_false (fun h=>q ⟨k,h⟩)]
   ·rw[if_neg (by omega)]
  rw[e,Option.bind_some,if_neg (by simp)];exact JF hz (false,Aa.mk s (a:Int) dp) dp (a0:=a) (s.size-a+1) a 20000 20000 VZ (List.replicate 256 false) (by omega) (by omega) (by omega) (Nat.le_refl _) ha Ld
def RE (s:ByteArray) (a d:Nat) (o:Option (List AE×Bool×Aa)) (w:Option (List AE×Int)):Prop:=
 ∃ (l:List AE) (ok:Bool) (a':Nat),o=some (l,ok,Aa.mk s (a':Int) (d:Int))∧a≤a'∧a'≤s.size∧l.length≤2*(a'-a)+1∧
  (ok=true→a<a'∧l.length+1≤2*(a'-a)∧w=some (l,(a':Int))∧∃ t,Fv t∧l=AP t)∧(ok=false→∃ z,w=some ([],z))
theorem RE.no {s:ByteArray} {a a' d:Nat} {z:Int} {l:List AE} (h:a≤a') (h2:a'≤s.size) (hl:l.length≤2*(a'-a)+1):RE s a d (some (l,false,Aa.mk s (a':Int) (d:Int))) (some ([],z)):=
 ⟨l,false,a',rfl,h,h2,hl,(fun q=>by cases q),fun _=>⟨z,rfl⟩⟩
theorem FT {t:Rx}:AP t≠[]:=fun e=>by have:=BU t;rw[e]at this;simp at this
theorem Q0 {s:ByteArray} (hz:s.size≤90) {self:Aa→Option (List AE×Bool×Aa)} {self':ByteArray→Int→Int→Option (List AE×Int)} {a0 d:Nat} (hs:∀ a,a0≤a→a≤s.size→RE s a d (self (Aa.mk s (a:Int) (d:Int))) (self' s (a:Int) (d:Int))):
 ∀ (m a f1 f2:Nat) (t:Rx),s.size-a+1≤m→m+1≤f1→m≤f2→a0<a→a≤s.size→Fv t→(AP t).length+1≤2*(a-a0)→
 RE s a0 d (Bv 20000 self f1 s (a:Int) (d:Int) (AP t) true) (CY 20000 self' s (d:Int) f2 (a:Int) (AP t))
 | 0,_,_,_,_,h,_,_,_,_,_,_=>by omega
 | m+1,a,f1,f2,t,hm,hf1,hf2,h0,ha,ht,hl=>by
   obtain⟨f1,rfl⟩:∃ q,f1=q+1:=⟨f1-1,by omega⟩;obtain⟨f2,rfl⟩:∃ q,f2=q+1:=⟨f2-1,by omega⟩;rw[Bv.eq_2,CY.eq_2,if_pos rfl,G6 s a _ _ (by decide),Option.bind_some,Option.bind_some,if_pos FT];have fin:RE s a0 d (Gb 20000 (AP t) true s (a:Int) (d:Int)) (Gh 20000 (a:Int) (AP t)):=
    ⟨AP t,true,a,rfl,by omega,ha,by omega,fun _=>⟨h0,hl,rfl,t,ht,rfl⟩,fun q=>by cases q⟩
   by_cases q:a<s.size
   ·rw[if_pos (show (a:Int)<(s.size:Int)by omega),if_pos (show 0≤(a:Int)∧(a:Int)<(s.size:Int)from⟨by omega,by omega⟩),IT _ (by decide),Option.bind_some,Option.bind_some,decide_eq_false (show ¬ s.size≤a by omega),Bool.false_or]
    cases hb:LJ (ByteArray.mk #[124,41]) (AF s (a:Int))with
    | true=>rw[if_neg (by simp),if_neg (by simp)];exact fin
    | false=>
      rw[if_pos (show (!false)=true from rfl),if_pos (show (!false)=true from rfl)];obtain⟨l2,ok2,a2,e,c1,c2,c3,c4,c5⟩:=hs a (by omega) ha;rw[e,Option.bind_some,Qz (.inl rfl) (by omega) (show l2.length≤100000 by omega),Option.bind_some]
      cases ok2 with
      | false=>
        obtain⟨z,hw⟩:=c5 rfl;rw[hw,Option.bind_some,if_pos rfl];obtain⟨f1,rfl⟩:∃ q,f1=q+1:=⟨f1-1,by omega⟩;show RE s a0 d (Bv 20000 self (f1+1) s (a2:Int) (d:Int) (AP t++l2++[UX 2]) false) _;rw[Bv.eq_2,if_neg (by simp),Option.bind_some,if_neg (by simp)];exact RE.no (by omega) c2 (by simp;omega)
      | true=>
        obtain⟨k1,k2,hw,t2,ht2,rfl⟩:=c4 rfl;have z1:(([]:List AE)++AP t).length*40≤140737488355328:=by simp;omega
        have z2:((([]:List AE)++AP t)++AP t2).length*40≤140737488355328:=by simp;omega
        have z3:(((([]:List AE)++AP t)++AP t2)++([AE.mk 2 (Vector.replicate 4 0)]:List AE)).length*40≤140737488355328:=by simp;omega
        rw[hw,Option.bind_some,if_neg FT,if_pos z1,if_pos z2,if_pos z3,List.nil_append];exact Q0 hz hs m a2 f1 f2 (.cat t t2) (by omega) (by omega) (by omega) (by omega) c2 ⟨ht,ht2⟩ (by simp[AP];omega)
   ·rw[if_neg (show ¬ (a:Int)<(s.size:Int)by omega),Option.bind_some,if_neg (by simp;intro h;omega),if_neg (by simp)];exact fin
theorem RC {s:ByteArray} (hz:s.size≤90) {self:Aa→Option (List AE×Bool×Aa)} {self':ByteArray→Int→Int→Option (List AE×Int)} {a0 d:Nat} (hs:∀ a,a0≤a→a≤s.size→RE s a d (self (Aa.mk s (a:Int) (d:Int))) (self' s (a:Int) (d:Int))):
 ∀ (m a f1 f2:Nat) (t:Rx),s.size-a+1≤m→m+1≤f1→m≤f2→a0<a→a≤s.size→Fv t→(AP t).length+1≤2*(a-a0)→
 RE s a0 d (Bu 20000 self f1 s (a:Int) (d:Int) (AP t) true) (CX 20000 self' s (d:Int) f2 (a:Int) (AP t))
 | 0,_,_,_,_,h,_,_,_,_,_,_=>by omega
 | m+1,a,f1,f2,t,hm,hf1,hf2,h0,ha,ht,hl=>by
   obtain⟨f1,rfl⟩:∃ q,f1=q+1:=⟨f1-1,by omega⟩;obtain⟨f2,rfl⟩:∃ q,f2=q+1:=⟨f2-1,by omega⟩;rw[Bu.eq_2,CX.eq_2,if_pos rfl,if_pos FT];have fin:RE s a0 d (Gq 20000 (AP t) true s (a:Int) (d:Int)) (Gm 20000 (a:Int) (AP t)):=
    ⟨AP t,true,a,rfl,by omega,ha,by omega,fun _=>⟨h0,hl,rfl,t,ht,rfl⟩,fun q=>by cases q⟩
   by_cases q:a<s.size∧AF s (a:Int)=124
   ·have qa:=q.1;rw[ES (by omega) q,Option.bind_some,Option.bind_some,if_pos (show (a:Int)<(s.size:Int)by omega),if_pos (show 0≤(a:Int)∧(a:Int)<(s.size:Int)from⟨by omega,by omega⟩),Option.bind_some,decide_eq_true q.2];show RE s a0 d (if true=true then(self (Aa.mk s ((a+1:Nat):Int) (d:Int))).bind _ else _) (if true=true then(self' s (AH ((a:Int)+1)) (d:Int)).bind _ else _);have e1:AH ((a:Int)+1)=((a+1:Nat):Int):=by rw[CH (by omega) (by omega)];rfl
    rw[if_pos rfl,if_pos rfl,e1];obtain⟨l2,ok2,a2,e,c1,c2,c3,c4,c5⟩:=hs (a+1) (by omega) (by omega);rw[e,Option.bind_some,Qz (.inr rfl) (by omega) (show l2.length≤100000 by omega),Option.bind_some]
    cases ok2 with
    | false=>
      obtain⟨z,hw⟩:=c5 rfl;rw[hw,Option.bind_some,if_pos rfl];obtain⟨f1,rfl⟩:∃ q,f1=q+1:=⟨f1-1,by omega⟩;show RE s a0 d (Bu 20000 self (f1+1) s (a2:Int) (d:Int) (AP t++l2++[UX 3]) false) _;rw[Bu.eq_2,if_neg (by simp),Option.bind_some];exact RE.no (by omega) c2 (by simp;omega)
    | true=>
      obtain⟨k1,k2,hw,t2,ht2,rfl⟩:=c4 rfl;have z1:(([]:List AE)++AP t).length*40≤140737488355328:=by simp;omega
      have z2:((([]:List AE)++AP t)++AP t2).length*40≤140737488355328:=by simp;omega
      have z3:(((([]:List AE)++AP t)++AP t2)++([AE.mk 3 (Vector.replicate 4 0)]:List AE)).length*40≤140737488355328:=by simp;omega
      rw[hw,Option.bind_some,if_neg FT,if_pos z1,if_pos z2,if_pos z3,List.nil_append];exact RC hz hs m a2 f1 f2 (.alt t t2) (by omega) (by omega) (by omega) (by omega) c2 ⟨ht,ht2⟩ (by simp[AP];omega)
   ·rw[C6 (by omega) q,Option.bind_some,Option.bind_some];have e1:(if(a:Int)<(s.size:Int)then if 0≤(a:Int)∧(a:Int)<(s.size:Int)then some (decide (AF s (a:Int)=124))else none else some false)=some false:=by
     by_cases k:a<s.size
     ·rw[if_pos (by omega),if_pos ⟨by omega,by omega⟩,decide_eq_false (fun h=>q ⟨k,h⟩)]
     ·rw[if_neg (by omega)]
    rw[e1,Option.bind_some,if_neg (by simp)];exact fin
theorem WL (c:Int):LJ (ByteArray.mk #[42,43,63]) c=decide (c=42∨c=43∨c=63):=by
 unfold LJ F2;have e0:AF (ByteArray.mk #[42,43,63]) 0=42:=rfl;have e1:AF (ByteArray.mk #[42,43,63]) 1=43:=rfl;have e2:AF (ByteArray.mk #[42,43,63]) 2=63:=rfl;have w0:AH ((0:Int)+1)=1:=rfl;have w1:AH ((1:Int)+1)=2:=rfl;have w2:AH ((2:Int)+1)=3:=rfl;rw[show (20000:Nat)=19996+1+1+1+1 from rfl,BL.eq_2,if_pos (by decide),if_pos (by decide),e0,w0];by_cases a:(42:Int)=c
 ·subst a;rfl
 rw[if_neg a,BL.eq_2,if_pos (by decide),if_pos (by decide),e1,w1];by_cases b:(43:Int)=c
 ·subst b;rfl
 rw[if_neg b,BL.eq_2,if_pos (by decide),if_pos (by decide),e2,w2];by_cases d:(63:Int)=c
 ·subst d;rfl
 rw[if_neg d,BL.eq_2,if_neg (by decide),decide_eq_false (by omega)];rfl
theorem Qf {s:ByteArray} (hz:s.size≤90) (t2:List AE×Bool×Aa) (ht2:t2.2.1=true) {a0 d:Nat}:∀ (m a f1 f2:Nat) (t:Rx),s.size-a<m→m≤f1→m≤f2→a0<a→a≤s.size→Fv t→(AP t).length+1≤2*(a-a0)→
 RE s a0 d (Bl 20000 t2 f1 s (a:Int) (d:Int) (AP t)) (Bw 20000 s f2 (a:Int) (AP t))
 | 0,_,_,_,_,h,_,_,_,_,_,_=>by omega
 | m+1,a,f1,f2,t,hm,hf1,hf2,h0,ha,ht,hl=>by
   obtain⟨f1,rfl⟩:∃ q,f1=q+1:=⟨f1-1,by omega⟩;obtain⟨f2,rfl⟩:∃ q,f2=q+1:=⟨f2-1,by omega⟩;have go:∀ k:Int,k=4∨k=5∨k=6→a<s.size→RE s a0 d ((My 20000 k [AP t]).bind fun t18=>Bl 20000 t2 f1 s ((a+1:Nat):Int) (d:Int) t18) (E1 20000 (Bw 20000 s f2) (a:Int) (AP t) k):=by
    intro k hk hlt;have z1:(([]:List AE)++AP t).length*40≤140737488355328:=by simp;omega
    have z2:((([]:List AE)++AP t)++([AE.mk k (Vector.replicate 4 0)]:List AE)).length*40≤140737488355328:=by simp;omega
    have e1:AH ((a:Int)+1)=((a+1:Nat):Int):=by rw[CH (by omega) (by omega)];rfl
    unfold E1;rw[T2 hk (by omega),Option.bind_some,if_pos z1,if_pos z2,e1,List.nil_append];exact Qf hz t2 ht2 m (a+1) f1 f2 (.un k t) (by omega) (by omega) (by omega) (by omega) (by omega) ⟨by omega,by omega,ht⟩ (by simp[AP];omega)
   rw[Bl.eq_2,Bw.eq_2,if_pos ht2,if_pos FT];by_cases q:a<s.size
   ·rw[if_pos (show (a:Int)<(s.size:Int)by omega),if_pos (show 0≤(a:Int)∧(a:Int)<(s.size:Int)from⟨by omega,by omega⟩),IT _ (by decide),Option.bind_some,Option.bind_some,WL];by_cases c1:AF s (a:Int)=42
    ·rw[ES (by omega) ⟨q,c1⟩,Option.bind_some,if_pos rfl,decide_eq_true (by omega),if_pos rfl,if_pos ⟨by omega,by omega⟩,if_neg (by omega)];unfold D9;rw[if_pos ⟨by omega,by omega⟩,if_neg (by omega)];exact go 4 (.inl rfl) q
    ·rw[C6 (by omega) (fun h=>c1 h.2),Option.bind_some,if_neg (by simp)];by_cases c2:AF s (a:Int)=43
     ·rw[ES (by omega) ⟨q,c2⟩,Option.bind_some,if_pos rfl,decide_eq_true (by omega),if_pos rfl,if_pos ⟨by omega,by omega⟩,if_pos c2];unfold D9;rw[if_pos ⟨by omega,by omega⟩,if_neg (by omega)];exact go 5 (.inr (.inl rfl)) q
     ·rw[C6 (by omega) (fun h=>c2 h.2),Option.bind_some,if_neg (by simp)];by_cases c3:AF s (a:Int)=63
      ·rw[ES (by omega) ⟨q,c3⟩,Option.bind_some,if_pos rfl,decide_eq_true (by omega),if_pos rfl,if_pos ⟨by omega,by omega⟩,if_neg c2];unfold D9;rw[if_pos ⟨by omega,by omega⟩,if_pos c3];exact go 6 (.inr (.inr rfl)) q
      ·rw[C6 (by omega) (fun h=>c3 h.2),Option.bind_some,if_neg (by simp),decide_eq_false (by omega),if_neg (by simp)];exact⟨AP t,true,a,rfl,by omega,ha,by omega,fun _=>⟨h0,hl,rfl,t,ht,rfl⟩,fun q=>by cases q⟩
   ·rw[if_neg (show ¬ (a:Int)<(s.size:Int)by omega),Option.bind_some,if_neg (by simp),C6 (by omega) (fun h=>q h.1),Option.bind_some,if_neg (by simp),C6 (by omega) (fun h=>q h.1),Option.bind_some,if_neg (by simp),C6 (by omega) (fun h=>q h.1),Option.bind_some,if_neg (by simp)];exact⟨AP t,true,a,rfl,by omega,ha,by omega,fun _=>⟨h0,hl,rfl,t,ht,rfl⟩,fun q=>by cases q⟩
theorem U4 {s:ByteArray} {a:Nat} (h:a<s.size):0≤(a:Int)∧(a:Int)<(s.size:Int):=⟨by omega,by omega⟩
theorem Hx {s:ByteArray} (hz:s.size≤90):∀ j:Nat,
 (∀ a d:Nat,a≤s.size→d≤a→4*(s.size-a)+1≤j→RE s a d (Dm 20000 j (Aa.mk s (a:Int) (d:Int))) (Dn 20000 j s (a:Int) (d:Int)))∧
 (∀ a d:Nat,a≤s.size→d≤a→4*(s.size-a)+2≤j→RE s a d (DF 20000 j (Aa.mk s (a:Int) (d:Int))) (C8 20000 j s (a:Int) (d:Int)))∧
 (∀ a d:Nat,a≤s.size→d≤a→4*(s.size-a)+3≤j→RE s a d (C3 20000 j (Aa.mk s (a:Int) (d:Int))) (DE 20000 j s (a:Int) (d:Int)))∧
 (∀ a d:Nat,a≤s.size→d≤a→4*(s.size-a)+4≤j→RE s a d (Ce 20000 j (Aa.mk s (a:Int) (d:Int))) (DK 20000 j s (a:Int) (d:Int)))
 | 0=>⟨fun a d _ _ h=>by omega,fun a d _ _ h=>by omega,fun a d _ _ h=>by omega,fun a d _ _ h=>by omega⟩
 | j+1=>by
   obtain⟨i1,i2,i3,i4⟩:=Hx hz j;refine⟨fun a d ha hd hj=>?_,fun a d ha hd hj=>?_,fun a d ha hd hj=>?_,fun a d ha hd hj=>?_⟩
   ·rw[Dm.eq_2,Dn.eq_2,G6 s a _ _ (by decide),Option.bind_some];by_cases q:a<s.size
    ·have g:=U4 q;rw[if_neg (show ¬ (s.size:Int)≤(a:Int)by omega),if_pos g,IT _ (by decide),Option.bind_some,Option.bind_some,decide_eq_false (show ¬ s.size≤a by omega),Bool.false_or]
     cases hb:LJ (ByteArray.mk #[124,41,42,43,63,93,47,34]) (AF s (a:Int))with
     | true=>rw[if_pos rfl,if_pos rfl];exact RE.no (Nat.le_refl _) ha (by simp)
     | false=>
       rw[if_neg (by simp),if_neg (by simp),if_pos g];have e1:AH ((a:Int)+1)=((a+1:Nat):Int):=by rw[CH (by omega) (by omega)];rfl
       by_cases c1:AF s (a:Int)=46
       ·obtain⟨c,d1,d2,d3,d4⟩:=SM;rw[ES (by omega) ⟨q,c1⟩,Option.bind_some,if_pos rfl,d1,Option.bind_some,if_pos c1,show (Vector.replicate 4 (0:Int))=VZ from rfl,d2,Option.bind_some,e1];exact⟨_,true,a+1,rfl,by omega,by omega,by simp,fun _=>⟨by omega,by simp,rfl,.one c,⟨d3,d4⟩,rfl⟩,fun h=>by cases h⟩
       rw[C6 (by omega) (fun h=>c1 h.2),Option.bind_some,if_neg (by simp),if_neg c1,if_pos g];by_cases c2:AF s (a:Int)=126
       ·rw[ES (by omega) ⟨q,c2⟩,Option.bind_some,if_pos rfl,if_pos c2,e1];exact⟨_,true,a+1,rfl,by omega,by omega,by simp,fun _=>⟨by omega,by simp,rfl,.non,trivial,rfl⟩,fun h=>by cases h⟩
       rw[C6 (by omega) (fun h=>c2 h.2),Option.bind_some,if_neg (by simp),if_neg c2,if_pos g];by_cases c3:AF s (a:Int)=40
       ·rw[ES (by omega) ⟨q,c3⟩,Option.bind_some,if_pos rfl,if_neg (by omega),if_pos g,if_pos c3,if_neg (show ¬ (99:Int)≤(d:Int)by omega)];have e2:AH ((d:Int)+1)=((d+1:Nat):Int):=by rw[CH (by omega) (by omega)];rfl
        show RE s a d ((Ce 20000 j (Aa.mk s ((a+1:Nat):Int) (AH ((d:Int)+1)))).bind _) _;rw[e1,e2];obtain⟨l,ok,a',e,k1,k2,k3,k4,k5⟩:=i4 (a+1) (d+1) (by omega) (by omega) (by omega);rw[e,Option.bind_some];have e3:AH (((d+1:Nat):Int) -1)=(d:Int):=by rw[CH (by omega) (by omega)];omega
        cases ok with
        | false=>
          obtain⟨z,hw⟩:=k5 rfl;rw[hw,Option.bind_some,if_neg (by simp),Option.bind_some];show RE s a d (some (l,false,Aa.mk s (a':Int) (AH (((d+1:Nat):Int) -1)))) _;rw[e3,if_pos rfl,Option.bind_some,if_pos rfl];exact RE.no (by omega) k2 (by omega)
        | true=>
          obtain⟨m1,m2,hw,t,ht,rfl⟩:=k4 rfl;rw[hw,Option.bind_some,if_pos rfl];show RE s a d (Option.bind (if AH (((d+1:Nat):Int) -1)<99 then(Hw 20000 (Aa.mk s (a':Int) (AH (((d+1:Nat):Int) -1))) 41).bind _ else _) _) _;rw[e3,if_pos (show (d:Int)<99 by omega),if_neg FT];by_cases q2:a'<s.size∧AF s (a':Int)=41
          ·have q2a:=q2.1;have e4:AH ((a':Int)+1)=((a'+1:Nat):Int):=by rw[CH (by omega) (by omega)];rfl
           rw[ES (by omega) q2,Option.bind_some,Option.bind_some,if_neg (show ¬ (s.size:Int)≤(a':Int)by omega),if_pos (U4 q2a),Option.bind_some,decide_eq_false (fun h=>h q2.2),if_neg (by simp),e4];exact⟨AP t,true,a'+1,rfl,by omega,by omega,by omega,fun _=>⟨by omega,by omega,rfl,t,ht,rfl⟩,fun h=>by cases h⟩
          ·rw[C6 (by omega) q2,Option.bind_some,Option.bind_some];have e5:(if(s.size:Int)≤(a':Int)then some true else if 0≤(a':Int)∧(a':Int)<(s.size:Int)then some (decide (AF s (a':Int)≠41))else none)=some true:=by
            by_cases k:a'<s.size
            ·rw[if_neg (by omega),if_pos (U4 k)];exact congrArg some (decide_eq_true (fun h=>q2 ⟨k,h⟩))
            ·rw[if_pos (by omega)]
           show RE s a d _ (Option.bind (if(s.size:Int)≤(a':Int)then some true else if 0≤(a':Int)∧(a':Int)<(s.size:Int)then some (decide (AF s (a':Int)≠41))else none) _);rw[e5,Option.bind_some,if_pos rfl];exact RE.no (l:=AP t) (by omega) k2 (by omega)
       rw[C6 (by omega) (fun h=>c3 h.2),Option.bind_some,if_neg (by simp)];by_cases c4:AF s (a:Int)=91
       ·rw[ES (by omega) ⟨q,c4⟩,Option.bind_some,if_pos rfl,if_pos c4,e1];obtain⟨l,ok,a',e,k1,k2,kl,k3,k4⟩:=TM (s:=s) (by omega) (a:=a+1) (by omega) (d:Int);rw[e,Option.bind_some]
        cases ok with
        | false=>
          obtain⟨z,hw⟩:=k4 rfl;rw[hw,Option.bind_some];refine⟨l,false,a',rfl,by omega,k2,by omega,(fun h=>by cases h),fun _=>⟨z,rfl⟩⟩
        | true=>
          obtain⟨m1,hw,v,rfl,hv,hv2⟩:=k3 rfl;rw[hw,Option.bind_some];exact⟨_,true,a',rfl,by omega,k2,by simp,fun _=>⟨by omega,by simp;omega,rfl,.one v,⟨hv,hv2⟩,rfl⟩,fun h=>by cases h⟩
       rw[C6 (by omega) (fun h=>c4 h.2),Option.bind_some,if_neg (by simp),if_neg c4,if_pos g,if_neg c3,if_pos ⟨by omega,by omega,Int.le_refl _⟩,Int.toNat_natCast,Int.toNat_natCast];obtain⟨c,ok,n,b1,b2,b3,b4,b5⟩:=HH s (by omega) ha (d:Int);show RE s a d ((JR 20000 (Aa.mk s (a:Int) (d:Int))).bind _) _;obtain⟨v,v1,v2,v3,v4⟩:=SC b3;rw[b1,b2,Option.bind_some,Option.bind_some,v1,Option.bind_some]
       cases ok with
       | false=>
         show RE s a d (some ([AE.mk 1 v],false,Aa.mk s ((a+n:Nat):Int) (d:Int))) (some ([],(a:Int)));exact RE.no (by omega) b4 (by simp)
       | true=>
         have n1:=b5 rfl;show RE s a d _ (if 0≤(256:Int)∧(256:Int)*1≤140737488355328∧(256:Int)≤9223372036854775807 then _ else none);rw[if_pos (by decide)];show RE s a d _ (if 0≤(c:Int)∧(c:Int)<((List.replicate 256 false).length:Int)then(J8 20000 (Ac (List.replicate 256 false) (c:Int) true)).bind _ else none);have e6:AH ((a:Int)+(n:Int))=((a+n:Nat):Int):=by rw[CH (by omega) (by omega)];rfl
         rw[if_pos ⟨by omega,by simp;omega⟩,v2,Option.bind_some];show RE s a d _ (some ([AE.mk 1 v],AH ((a:Int)+(n:Int))));rw[e6];exact⟨_,true,a+n,rfl,by omega,by omega,by simp,fun _=>⟨by omega,by simp;omega,rfl,.one v,⟨v3,v4⟩,rfl⟩,fun h=>by cases h⟩
    ·rw[if_pos (show (s.size:Int)≤(a:Int)by omega),Option.bind_some,if_pos rfl,decide_eq_true (show s.size≤a by omega),Bool.true_or,if_pos rfl];exact RE.no (Nat.le_refl _) ha (by simp)
   ·rw[DF.eq_2,C8.eq_2];obtain⟨l,ok,a',e,k1,k2,k3,k4,k5⟩:=i1 a d ha hd (by omega);rw[e,Option.bind_some]
    cases ok with
    | false=>
      obtain⟨z,hw⟩:=k5 rfl;rw[hw,Option.bind_some];show RE s a d (Bl 20000 (l,false,Aa.mk s (a':Int) (d:Int)) (19999+1) s (a':Int) (d:Int) l) (Bw 20000 s (19999+1) z []);rw[Bl.eq_2,Bw.eq_2,if_neg (by simp),if_neg (by simp),Option.bind_some,if_neg (by simp)];exact RE.no k1 k2 (by simp)
    | true=>
      obtain⟨m1,m2,hw,t,ht,rfl⟩:=k4 rfl;rw[hw,Option.bind_some];exact Qf hz (AP t,true,Aa.mk s (a':Int) (d:Int)) rfl 4000 a' 20000 20000 t (by omega) (by decide) (by decide) m1 k2 ht m2
   ·rw[C3.eq_2,DE.eq_2];obtain⟨l,ok,a',e,k1,k2,k3,k4,k5⟩:=i2 a d ha hd (by omega);rw[e,Option.bind_some]
    cases ok with
    | false=>
      obtain⟨z,hw⟩:=k5 rfl;rw[hw,Option.bind_some];show RE s a d (Bv 20000 _ (19999+1) s (a':Int) (d:Int) l false) (CY 20000 _ s (d:Int) (19999+1) z []);rw[Bv.eq_2,CY.eq_2,if_neg (by simp),if_neg (by simp),Option.bind_some,Option.bind_some,if_neg (by simp),if_neg (by simp)];exact RE.no k1 k2 k3
    | true=>
      obtain⟨m1,m2,hw,t,ht,rfl⟩:=k4 rfl;rw[hw,Option.bind_some];exact Q0 hz (a0:=a) (d:=d) (fun a2 h1 h2=>i2 a2 d h2 (by omega) (by omega)) 4000 a' 20000 20000 t (by omega) (by decide) (by decide) m1 k2 ht m2
   ·rw[Ce.eq_2,DK.eq_2];obtain⟨l,ok,a',e,k1,k2,k3,k4,k5⟩:=i3 a d ha hd (by omega);rw[e,Option.bind_some]
    cases ok with
    | false=>
      obtain⟨z,hw⟩:=k5 rfl;rw[hw,Option.bind_some];show RE s a d (Bu 20000 _ (19999+1) s (a':Int) (d:Int) l false) (CX 20000 _ s (d:Int) (19999+1) z []);rw[Bu.eq_2,CX.eq_2,if_neg (by simp),if_neg (by simp),Option.bind_some,Option.bind_some,if_neg (by simp)];exact RE.no k1 k2 k3
    | true=>
      obtain⟨m1,m2,hw,t,ht,rfl⟩:=k4 rfl;rw[hw,Option.bind_some];exact RC hz (a0:=a) (d:=d) (fun a2 h1 h2=>i3 a2 d h2 (by omega) (by omega)) 4000 a' 20000 20000 t (by omega) (by decide) (by decide) m1 k2 ht m2
theorem Oh {s:ByteArray} (hz:s.size≤90):(∃ t,Fv t∧(AP t).length≤2*s.size∧So 20000 s=some (AP t,0)∧QZ 20000 s=some (AP t,0))∨(So 20000 s=some ([],5)∧QZ 20000 s=some ([],5)):=by
 obtain⟨l,ok,a',e,k1,k2,k3,k4,k5⟩:=(Hx hz 20000).2.2.2 0 0 (by omega) (by omega) (by omega);have e:Rp 20000 (Aa.mk s 0 0)=some (l,ok,Aa.mk s (a':Int) 0):=e;unfold So QZ;rw[if_neg (by omega),if_neg (by omega),e,Option.bind_some]
 cases ok with
 | false=>
   obtain⟨z,hw⟩:=k5 rfl;have hw:PY 20000 s 0 0=some ([],z):=hw;rw[hw];exact .inr ⟨rfl,rfl⟩
 | true=>
   obtain⟨m1,m2,hw,t,ht,rfl⟩:=k4 rfl;have hw:PY 20000 s 0 0=some (AP t,(a':Int)):=hw;rw[hw,Option.bind_some,if_neg (by simp),if_neg FT,Option.bind_some];by_cases q:a'<s.size
   ·refine .inr ⟨?_,?_⟩<;>(show (if decide ((a':Int)<(s.size:Int))=true then some (([]:List AE),(5:Int))else if(400:Int)<((AP t).length:Int)then some ([],6)else some (AP t,0))=_;rw[decide_eq_true (show ((a':Nat):Int)<(s.size:Int)by omega),if_pos rfl])
   ·refine .inl ⟨t,ht,by omega,?_,?_⟩<;>(show (if decide ((a':Int)<(s.size:Int))=true then some (([]:List AE),(5:Int))else if(400:Int)<((AP t).length:Int)then some ([],6)else some (AP t,0))=_;rw[decide_eq_false (show ¬ ((a':Nat):Int)<(s.size:Int)by omega),if_neg (by simp),if_neg (by omega)])
theorem Qw {t:Rx} (ht:Fv t) (hz:(AP t).length≤200):Rt (gN t):=by
 have g:=IG t 0;have hq:((qb t 0:Nat):Int)=((2*(AP t).length:Nat):Int):=by unfold qb;omega
 have gl:=EH t 0;refine⟨⟨by show 0≤gI t 0;omega,by show gI t 0<((2*(AP t).length:Nat):Int);omega⟩,⟨by show 0≤gO t 0;omega,by show gO t 0<((2*(AP t).length:Nat):Int);omega⟩,fun e he=>?_,by show ((2*(AP t).length:Nat):Int)≤8000;omega,by show (gr t 0).length≤8000;omega,fun e he=>(Ck t 0 ht e he).2.2.2.2⟩;obtain⟨a,b,c,d,_⟩:=Ck t 0 ht e he;exact⟨by omega,by show _<((2*(AP t).length:Nat):Int);omega,by omega,by show _<((2*(AP t).length:Nat):Int);omega⟩
theorem PW.fr {l:List AR} {p r:Int} {w:List Nat} (h:PW l p w r):w=[]→FR l p r:=by
 induction h with
 | nil p=>exact fun _=>.refl p
 | eps he hf _ ih=>exact fun k=>(FR.tail (.refl _) he hf).trans (ih k)
 | byte _ _ _ _ _=>exact fun k=>by cases k
theorem FR.pw {l:List AR} {p r:Int} (h:FR l p r):PW l p [] r:=by
 induction h with
 | refl=>exact .nil _
 | tail _ he hf ih=>exact ih.app (.eps he hf (.nil _))
theorem P5 {t:Rx} (ht:Fv t) (hz:(AP t).length≤200):AC (F0 (gN t)) (gO t 0)=true↔Lx t []:=by
 have h:=Qw ht hz;have hf:=h.first;have hn:=h.nn;have hl:=h.last;have hx:(Ac (List.replicate (NN (gN t)) false) (gN t).f2 true).length=NN (gN t):=by rw[BN,List.length_replicate]
 rw[←QQ ht 0];unfold F0;rw[O3 h hx (show (0:Int)≤gO t 0 from hl.1)];constructor
 ·rintro⟨p,p0,hp,k⟩;rw[Dr _ _ _ hf.1 (by rw[List.length_replicate];omega) p0,OT,Bool.or_false,decide_eq_true_eq]at hp;subst hp;exact k.pw
 ·intro k;exact⟨(gN t).f2,hf.1,by rw[Dr _ _ _ hf.1 (by rw[List.length_replicate];omega) hf.1];simp,k.fr rfl⟩
theorem Hg (l:List Int) (i q:Nat) (b:Int) (h1:i<l.length):AC (Ac l (i:Int) b) (q:Int)=if q=i then b else AC l (q:Int):=by
 unfold AC Ac;rw[List.getD,List.getD,List.getElem?_set,Int.toNat_natCast,Int.toNat_natCast];by_cases e:i=q
 ·rw[if_pos e,if_pos (by omega),if_pos e.symm];rfl
 ·rw[if_neg e,if_neg (fun h=>e h.symm)]
theorem LV (n:Ay) (hN:NN n≤8000) (h0:0≤n.f0):∀ (m i f:Nat) (x:List Int),i+m=NN n→m<f→x.length=NN n→(∀ q,q<i→AC x ((q:Nat):Int)= -1)→∃ y,y.length=NN n∧(∀ q,q<NN n→AC y ((q:Nat):Int)= -1)∧CR 20000 n f x (i:Int)=Ew 20000 n y
 | 0,i,f+1,x,hi,hf,hx,hq=>⟨x,hx,fun q h=>hq q (by omega),by rw[CR.eq_2,List.length_replicate,show n.f0.toNat=NN n from rfl,if_neg (by omega)]⟩
 | m+1,i,f+1,x,hi,hf,hx,hq=>by
   obtain⟨y,y1,y2,y3⟩:=LV n hN h0 m (i+1) f (Ac x (i:Int) (-1)) (by omega) (by omega) (by rw[BN,hx]) (fun q h=>by
    rw[Hg _ _ _ _ (by omega)];by_cases e:q=i
    ·rw[if_pos e]
    ·rw[if_neg e];exact hq q (by omega))
   refine⟨y,y1,y2,?_⟩;rw[CR.eq_2,List.length_replicate,show n.f0.toNat=NN n from rfl,if_pos (by omega),if_pos ⟨by omega,by omega⟩,CH (by omega) (by omega)];exact_mod_cast y3
theorem Lo {M:List Int} {t:List Bool} {la:Nat} (hM:M.length=t.length) (hla:la<t.length) (h:∀ q:Nat,q<t.length→AC M (q:Int)=if q=la then 0 else -1):∀ (m i:Nat) (o:Int),i+m=t.length→(o= -1∨o=0)→Sc M t m i o=if o=0∨(i≤la∧AC t (la:Int)=true)then 0 else -1
 | 0,i,o,hi,ho=>by
   show o=_;split
   ·next c=>
     rcases c with c|c
     ·exact c
     ·omega
   ·next c=>
     rcases ho with ho|ho
     ·exact ho
     ·exact absurd (.inl ho) c
 | m+1,i,o,hi,ho=>by
   rw[Sc];have e:Sd M t i o=if o=0∨(i=la∧AC t (la:Int)=true)then 0 else -1:=by
    unfold Sd;rw[h i (by omega)];by_cases a:i=la
    ·subst a;rw[if_pos rfl];by_cases b:AC t (i:Int)=true
     ·rw[if_pos (show o=0∨_ from .inr ⟨rfl,b⟩)];rcases ho with ho|ho
      ·rw[if_pos ⟨b,by omega,by omega,.inl (by omega)⟩]
      ·split
       ·rfl
       ·exact ho
     ·rw[if_neg (fun c=>b c.1)];rcases ho with ho|ho
      ·rw[if_neg (fun c=>by rcases c with c|c;omega;exact b c.2)];exact ho
      ·rw[if_pos (.inl ho)];exact ho
    ·rw[if_neg a,if_neg (fun c=>by have:=c.2.2.1;omega)];rcases ho with ho|ho
     ·rw[if_neg (fun c=>by rcases c with c|c;omega;exact a c.1)];exact ho
     ·rw[if_pos (.inl ho)];exact ho
   rw[e,Lo hM hla h m (i+1) _ (by omega) (by split<;>simp)];by_cases c:o=0
   ·rw[if_pos (.inl c:o=0∨(i=la∧AC t (la:Int)=true)),if_pos (.inl rfl),if_pos (.inl c)]
   ·by_cases a:i=la∧AC t (la:Int)=true
    ·rw[if_pos (.inr a:o=0∨(i=la∧AC t (la:Int)=true)),if_pos (.inl rfl),if_pos (.inr ⟨by omega,a.2⟩)]
    ·rw[if_neg (by rintro (d|d);exact c d;exact a d:¬ (o=0∨(i=la∧AC t (la:Int)=true)))];by_cases d:i+1≤la∧AC t (la:Int)=true
     ·rw[if_pos (.inr d),if_pos (.inr ⟨by omega,d.2⟩)]
     ·rw[if_neg (by rintro (f|f);omega;exact d f),if_neg (by
       rintro (f|f)
       ·exact c f
       ·by_cases g:i=la
        ·exact a ⟨g,f.2⟩
        ·exact d ⟨by omega,f.2⟩)]
theorem M0 {t:Rx} (ht:Fv t) (hz:(AP t).length≤200):∃ d e,MY 20000 (gN t)=some (d,e)∧(e=6∨e=0∧(0≤mk d 0↔Lx t [])):=by
 have h:=Qw ht hz;generalize hn0:gN t=n at h;have hla:n.f3=gO t 0:=by rw[←hn0];rfl
 obtain⟨kk,hk⟩:=UM n h.n2 h.u;have hf:=h.first;have hl:=h.last;have hn:=h.nn;have h1:=h.n1;have hN:NN n≤8000:=by omega
 obtain⟨y,y1,y3,y2⟩:=LV n hN (by omega) (NN n) 0 20000 (List.replicate (NN n) 0) (by omega) (by omega) (by simp) (fun q hq=>by omega);have y2:CR 20000 n 20000 (List.replicate (NN n) 0) (0:Int)=Ew 20000 n y:=y2;obtain⟨v,v1,v2⟩:=Rf h hk (Ac y n.f3 0);have top:∀ d e,Sf 20000 n (Ac y n.f3 0)=some (d,e)→MY 20000 n=some (d,e):=by
  intro d e he;unfold MY;rw[Js n h.n2,Option.bind_some,h.rt,if_neg (by decide),if_pos ⟨by omega,by omega,by omega⟩,show n.f0.toNat=NN n from rfl,y2];unfold Ew;rw[if_pos ⟨by omega,by omega⟩,he,Option.bind_some]
 rw[v2]at top
 cases hm:HW n (RP kk) 2000 20000 0 [F0 n] []with
 | none=>rw[hm]at top;exact⟨_,_,top _ _ rfl,.inl rfl⟩
 | some x=>
   obtain⟨R',N'⟩:=x;rw[hm]at top;refine⟨_,_,top _ _ rfl,.inr ⟨rfl,?_⟩⟩;obtain⟨_,hR,_⟩:=IY n (RP kk) 2000 20000 0 [F0 n] [] R' N' (by simp) ⟨rfl,fun q hq=>by omega⟩ (fun r hr=>by rw[List.mem_singleton.1 hr];exact HB n) (by simp;omega) hm;have h0:R'[0]? =some (F0 n):=hR 0 _ rfl;have hl0:0<R'.length:=by
    rcases Nat.eq_zero_or_pos R'.length with c|c
    ·rw[List.eq_nil_of_length_eq_zero c]at h0;cases h0
    ·exact c
   have hmk:mk (B5.mk v N' (R'.map (MK (Ac y n.f3 0)))) 0=MK (Ac y n.f3 0) (F0 n):=by
    have e1:(R'.map (MK (Ac y n.f3 0)))[0]? =some (MK (Ac y n.f3 0) (F0 n)):=by rw[List.getElem?_map,h0];rfl
    show (if(0:Int)<0∨((R'.map (MK (Ac y n.f3 0))).length:Int)≤0 then -1 else AC (R'.map (MK (Ac y n.f3 0))) ((0:Nat):Int))=_;rw[if_neg (by rw[List.length_map];omega)];exact(H7 e1).1
   have hFl:=HB n;have e3:n.f3=((n.f3.toNat:Nat):Int):=by omega
   have:=Lo (M:=Ac y n.f3 0) (t:=F0 n) (la:=n.f3.toNat) (by rw[BN,y1,hFl]) (by omega) (fun q hq=>by
    rw[e3,Hg _ _ _ _ (by omega),Int.toNat_natCast];by_cases c:q=n.f3.toNat
    ·rw[if_pos c,if_pos c]
    ·rw[if_neg c,if_neg c];exact y3 q (by omega)) (F0 n).length 0 (-1) (by omega) (.inl rfl)
   rw[hmk];unfold MK;rw[this, ←e3,hla, ←hn0, ←P5 ht hz];by_cases c:AC (F0 (gN t)) (gO t 0)=true
   ·rw[if_pos (.inr ⟨by omega,c⟩)];simp[c]
   ·rw[if_neg (by rintro (f|f);omega;exact c f.2)];simp[c]
theorem ML:∀ n:Fin 256,P4 20000 ((n.val:Nat):Int)=Sj 20000 ((n.val:Nat):Int):=by decide+kernel
theorem KU (s:ByteArray) (i:Int):∃ n:Nat,n<256∧AF s i=(n:Int):=by
 unfold AF;split
 ·exact⟨_,UInt8.toNat_lt _,rfl⟩
 ·exact⟨0,by omega,rfl⟩
theorem HN (s:ByteArray) (i:Int):Sj 20000 (AF s i)=P4 20000 (AF s i):=by
 obtain⟨n,hn,e⟩:=KU s i;rw[e];exact(ML ⟨n,hn⟩).symm
theorem KI (s:ByteArray) (hz:s.size≤1000) (hs:¬ (1≤s.size∧s.size≤40)):∀ (m i f:Nat),i+m=s.size→m<f→Be 20000 s f (i:Int)=some false
 | 0,i,f+1,hi,_=>by
   rw[Be.eq_2,if_neg (by omega)];unfold HC;split
   ·rw[decide_eq_false (by omega)];rfl
   ·rfl
 | m+1,i,f+1,hi,hf=>by
   obtain⟨v,hv⟩:=Dw (AF s (i:Int));have ih:=KI s hz hs m (i+1) f (by omega) (by omega);rw[Be.eq_2,if_pos (by omega),if_pos ⟨by omega,by omega⟩,HN,hv,Option.bind_some,CH (by omega) (by omega)];have ih:Be 20000 s f ((i:Int)+1)=some false:=by exact_mod_cast ih
   rw[ih];split
   ·split
    ·rfl
    ·rw[Option.bind_some];split<;>rfl
   ·rfl
theorem Ll (s:ByteArray) (h1:1≤s.size) (h2:s.size≤40):∀ (m i f:Nat),1≤i→i+m=s.size→m<f→Be 20000 s f (i:Int)=Bn 20000 s f (i:Int)
 | 0,i,f+1,_,hi,_=>by
   rw[Be.eq_2,Bn.eq_2,if_neg (by omega),if_neg (by omega)];unfold HC;rw[if_pos (by omega),decide_eq_true (by omega)];rfl
 | m+1,i,f+1,h0,hi,hf=>by
   obtain⟨v,hv⟩:=Dw (AF s (i:Int));have ih:=Ll s h1 h2 m (i+1) f (by omega) (by omega) (by omega);have ih:Be 20000 s f ((i:Int)+1)=Bn 20000 s f ((i:Int)+1):=by exact_mod_cast ih
   rw[Be.eq_2,Bn.eq_2,if_pos (by omega),if_pos ⟨by omega,by omega⟩,if_pos (show (i:Int)<(s.size:Int)by omega),if_pos (show 0≤(i:Int)∧(i:Int)<(s.size:Int)from⟨by omega,by omega⟩),HN,hv,Option.bind_some,Option.bind_some,CH (by omega) (by omega),ih];by_cases a:v=3
   ·rw[a];rfl
   ·rw[if_pos a];by_cases b:v=2
    ·rw[b,if_neg (by simp),if_neg (by simp),Option.bind_some,Option.bind_some,decide_eq_false (by omega)]
    ·rw[if_pos b,if_pos b,decide_eq_true a]
theorem GB (s:ByteArray) (hz:s.size≤1000):Rj 20000 s=Mz 20000 s:=by
 unfold Rj;by_cases q:1≤s.size∧s.size≤40
 ·obtain⟨v,hv⟩:=Dw (AF s 0);have ne:s≠ByteArray.mk #[]:=fun e=>by rw[e]at q;exact absurd q.1 (by decide)
  have r:=Ll s q.1 q.2 (s.size-1) 1 19999 (by omega) (by omega) (by omega);have r:Be 20000 s 19999 1=Bn 20000 s 19999 1:=r;unfold Mz;rw[if_neg (by omega),if_neg ne,if_pos ⟨by omega,by omega⟩,hv,Option.bind_some,Option.bind_some,show Be 20000 s 20000 0=_ from Be.eq_2 20000 s 0 19999,show Bn 20000 s 20000 0=_ from Bn.eq_2 20000 s 0 19999,if_pos (by omega),if_pos ⟨by omega,by omega⟩,if_pos (show (0:Int)<(s.size:Int)by omega),if_pos (show 0≤(0:Int)∧(0:Int)<(s.size:Int)from⟨by omega,by omega⟩)];show (Sj 20000 (AF s 0)).bind _=if _ then _ else(P4 20000 (AF s 0)).bind _
  rw[HN,hv,Option.bind_some,Option.bind_some];by_cases a:v=3
  ·subst a;rw[if_neg (by simp),Option.bind_some,if_neg (by simp),if_neg (by simp),if_pos (by simp),decide_eq_false (by simp),Option.bind_some,if_neg (by simp),show AH ((0:Int)+1)=1 from rfl];exact r
  ·rw[if_pos a,decide_eq_true a,if_pos rfl];by_cases b:v=2
   ·subst b;rfl
   ·rw[if_pos b];rfl
 ·rw[show (0:Int)=((0:Nat):Int)from rfl,KI s hz q s.size 0 20000 (by omega) (by omega)];unfold Mz;by_cases a:(40:Int)<(s.size:Int)
  ·rw[if_pos a];rfl
  ·have e:s=ByteArray.mk #[]:=by
    have h1:s.data.size=0:=(show s.size=0 by omega)
    cases s with
    | mk d=>congr 1;exact Array.eq_empty_of_size_eq_zero h1
   rw[if_neg a,if_pos e];rfl
theorem Rc {s:ByteArray} (hz:s.size≤60):((∃ d,R1 20000 s=some (d,5))∧QZ 20000 s=some ([],5))∨∃ t,Fv t∧(AP t).length≤200∧QZ 20000 s=some (AP t,0)∧∃ d e,R1 20000 s=some (d,e)∧(e=6∨e=0∧(0≤mk d 0↔Lx t [])):=by
 rcases Oh (s:=s) (by omega)with⟨t,ht,hl,h1,h2⟩|⟨h1,h2⟩
 ·obtain⟨d,e,k1,k2⟩:=M0 ht (by omega);refine .inr ⟨t,ht,by omega,h2,d,e,?_,k2⟩;unfold R1;rw[h1,Option.bind_some,if_neg (by simp),Pc ht (by omega),Option.bind_some,if_neg (by simp),k1,Option.bind_some]
 ·refine .inl ⟨?_,h2⟩;unfold R1;rw[h1,Option.bind_some,if_pos (by simp)];exact⟨_,rfl⟩
theorem P9 (d:B5):SZ 20000 d (ByteArray.mk #[])=some (mk d 0):=by
 have e:QY 20000 d 0 (ByteArray.mk #[])=some 0:=rfl;unfold SZ;rw[e,Option.bind_some,QG];rfl
def Ug (l:List B7) (i:Nat):Prop:=∃ j:Nat,j<i∧(AC l (j:Int)).f0=(AC l (i:Int)).f0
theorem Qx (l:List B7) (hz:l.length≤1000) {i:Nat} (hi:i<l.length):∀ (m x f:Nat),x+m=i→m<f→(∀ j,j<x→(AC l ((j:Nat):Int)).f0≠(AC l (i:Int)).f0)→(Ug l i→DD 20000 l (i:Int) f (x:Int)=some 9)∧(¬ Ug l i→DD 20000 l (i:Int) f (x:Int)=HG 20000 l (i:Int))
 | 0,x,f+1,hx,_,hn=>⟨fun⟨j,j1,j2⟩=>absurd j2 (hn j (by omega)),fun _=>by rw[DD.eq_2,if_neg (by omega)]⟩
 | m+1,x,f+1,hx,hf,hn=>by
   rw[DD.eq_2,if_pos (by omega),if_pos ⟨by omega,by omega⟩];by_cases c:(AC l (x:Int)).f0=(AC l (i:Int)).f0
   ·rw[if_pos c];exact⟨fun _=>rfl,fun h=>absurd ⟨x,by omega,c⟩ h⟩
   ·have ih:=Qx l hz hi m (x+1) f (by omega) (by omega) (fun j hj=>by
     by_cases e:j=x
     ·rw[e];exact c
     ·exact hn j (by omega))
    rw[if_neg c,CH (by omega) (by omega)];exact_mod_cast ih
theorem PX {l:List B7} (hz:l.length≤1000) {i:Nat} (hi:i<l.length) (hr:DM (AC l (i:Int))) {mp:List (ByteArray×Int)} (hm:0<(An mp (AC l (i:Int)).f0).getD (0:Int)↔Ug l i):
 ∃ e e',T4 20000 (AC l (i:Int)) mp=some e∧Sa 20000 l (i:Int)=some e'∧(e=6∨e=e'):=by
 have h1:=hr.1;have h2:=hr.2;obtain⟨b,hb⟩:=KH (AC l (i:Int)).f0;have hd:=Qx l hz hi i 0 20000 (by omega) (by omega) (fun j hj=>by omega);have hR:Sa 20000 l (i:Int)=if(!b)=true then some 8 else DD 20000 l (i:Int) 20000 ((0:Nat):Int):=by
  unfold Sa;rw[if_pos ⟨by omega,by omega⟩,GB _ (by omega),hb,Option.bind_some];rfl
 rw[hR];unfold T4;rw[hb,Option.bind_some]
 cases b with
 | false=>exact⟨8,8,rfl,rfl,.inr rfl⟩
 | true=>
   rw[if_neg (show ¬ ((!true)=true)by simp),if_neg (show ¬ ((!true)=true)by simp)];by_cases c:Ug l i
   ·rw[if_pos (hm.2 c)];exact⟨9,9,rfl,hd.1 c,.inr rfl⟩
   ·rw[if_neg (fun h=>c (hm.1 h)),hd.2 c];unfold HG;generalize hbb:(if(AC l (i:Int)).f1<(0:Int)then some true else some (decide ((2:Int)<(AC l (i:Int)).f1)):Option Bool)=bb;have hbb':∃ b,bb=some b:=by rw[←hbb];split<;>exact⟨_,rfl⟩
    obtain⟨b,rfl⟩:=hbb';rw[Option.bind_some,Option.bind_some]
    cases b with
    | true=>exact⟨1,1,rfl,rfl,.inr rfl⟩
    | false=>
      rw[if_neg (by simp),if_neg (by simp)];rcases Rc (s:=(AC l (i:Int)).f2) (by omega)with⟨⟨d,k1⟩,k2⟩|⟨t,ht,hl,k2,d,e,k1,k3⟩
      ·rw[k1,k2];exact⟨5,5,rfl,rfl,.inr rfl⟩
      ·obtain⟨b,u1,u2⟩:=Ow ht (by omega) (ByteArray.mk #[]) (by decide);have u1:SW 20000 (AP t) (ByteArray.mk #[])=some b:=u1;have ew:W (ByteArray.mk #[])=[]:=rfl;rw[ew]at u2;rw[k1,k2,Option.bind_some,Option.bind_some,if_neg (show ¬ ((AP t,(0:Int)).2≠0)by simp),u1,Option.bind_some];rcases k3 with rfl|⟨rfl,k3⟩
       ·refine⟨6,if b=true then 14 else 0,rfl,?_,.inl rfl⟩;cases b<;>rfl
       ·show ∃ e e',(if(0:Int)≠0 then _ else(SZ 20000 d (ByteArray.mk #[])).bind _)=some e∧_;rw[if_neg (by simp),P9,Option.bind_some]
        cases b with
        | true=>exact⟨14,14,if_pos (k3.2 (u2.1 rfl)),rfl,.inr rfl⟩
        | false=>exact⟨0,0,if_neg (fun h=>by have:=u2.2 (k3.1 h);cases this),rfl,.inr rfl⟩
end Go.Avl.TC
namespace Go.Avl.TC
open Go Go.RowKit Go.Proofs Go.Avl
set_option linter.all false
def MI (l:List B7) (i:Nat) (mp:List (ByteArray×Int)):Prop:=∀ n:ByteArray,0≤(An mp n).getD (0:Int)∧(An mp n).getD (0:Int)≤(i:Int)∧(0<(An mp n).getD (0:Int)↔∃ j:Nat,j<i∧(AC l (j:Int)).f0=n)
theorem KF (l:List B7) (hz:l.length≤1000) (hr:∀ r∈l,DM r):∀ (m i f1 f2:Nat) (mp:List (ByteArray×Int)),i+m=l.length→m<f1→m<f2→MI l i mp→∃ a e a' e',DI 20000 l f1 mp (i:Int)=some (a,e)∧C4 20000 l f2 (i:Int)=some (a',e')∧(e=6∨a=a'∧e=e')
 | 0,i,f1+1,f2+1,mp,hi,_,_,_=>⟨_,_,_,_,by rw[DI.eq_2,if_neg (by omega)];rfl,by rw[C4.eq_2,if_neg (by omega)];rfl,.inr ⟨rfl,rfl⟩⟩
 | m+1,i,f1+1,f2+1,mp,hi,h1,h2,hm=>by
   obtain⟨e,e',k1,k2,k3⟩:=PX (mp:=mp) hz (show i<l.length by omega) (hr _ (Bz l (by omega))) (hm _).2.2;have hm':=hm (AC l (i:Int)).f0;have hw:AH ((An mp (AC l (i:Int)).f0).getD (0:Int)+1)=(An mp (AC l (i:Int)).f0).getD (0:Int)+1:=CH (by omega) (by omega)
   obtain⟨a,c,a',c',r1,r2,r3⟩:=KF l hz hr m (i+1) f1 f2 (A1 mp (AC l (i:Int)).f0 ((An mp (AC l (i:Int)).f0).getD (0:Int)+1)) (by omega) (by omega) (by omega) (fun n=>by
    rw[Dz];by_cases q:(AC l (i:Int)).f0=n
    ·rw[if_pos q,Option.getD_some];exact⟨by omega,by omega,fun _=>⟨i,by omega,q⟩,fun _=>by omega⟩
    ·rw[if_neg q];obtain⟨u1,u2,u3⟩:=hm n;refine⟨u1,by omega,fun h=>?_,fun⟨j,j1,j2⟩=>u3.2 ⟨j,?_,j2⟩⟩
     ·obtain⟨j,j1,j2⟩:=u3.1 h;exact⟨j,by omega,j2⟩
     ·refine Classical.byContradiction fun h=>q ?_;have:j=i:=by omega
      rw[←this];exact j2)
   have r1:DI 20000 l f1 (A1 mp (AC l (i:Int)).f0 ((An mp (AC l (i:Int)).f0).getD (0:Int)+1)) ((i:Int)+1)=some (a,c):=by exact_mod_cast r1
   have r2:C4 20000 l f2 ((i:Int)+1)=some (a',c'):=by exact_mod_cast r2
   rw[DI.eq_2,C4.eq_2,if_pos (by omega),if_pos ⟨by omega,by omega⟩,if_pos (show (i:Int)<(l.length:Int)by omega),k1,k2,Option.bind_some,Option.bind_some,hw,CH (x:=(i:Int)+1) (by omega) (by omega),r1,r2];by_cases q:e=6
   ·subst q;rw[if_pos (by decide)];by_cases q2:e'≠0
    ·rw[if_pos q2];exact⟨_,_,_,_,rfl,rfl,.inl rfl⟩
    ·rw[if_neg q2];exact⟨_,_,_,_,rfl,rfl,.inl rfl⟩
   ·have:e=e':=k3.resolve_left q;subst this;by_cases q2:e≠0
    ·rw[if_pos q2,if_pos q2];exact⟨_,_,_,_,rfl,rfl,.inr ⟨rfl,rfl⟩⟩
    ·rw[if_neg q2,if_neg q2];exact⟨_,_,_,_,rfl,rfl,r3⟩
end Go.Avl.TC
namespace Go.Avl.TC
open Go Go.RowKit Go.Proofs Go.Avl
set_option linter.all false
set_option maxRecDepth 10000
theorem Nl (p:Int→Bool) (n:Nat):0≤GX p (idx n)↔∃ q:Nat,q<n∧p (q:Int)=true:=by
 rcases Jr (p:=p) (L:=idx n) Ky with⟨a,b,_⟩|⟨a,_,b,c⟩
 ·refine⟨fun h=>by omega,fun⟨q,q1,q2⟩=>?_⟩;rw[List.find?_eq_none]at b;exact(b (q:Int) (List.mem_map.2 ⟨q,List.mem_range.2 q1,rfl⟩) q2).elim
 ·refine⟨fun _=>?_,fun _=>a⟩;obtain⟨m1,m2⟩:=Lk b;refine⟨(GX p (idx n)).toNat,by omega,?_⟩;rw[Int.toNat_of_nonneg a];exact c
theorem RK (l:List ByteArray) (s:ByteArray):0≤PU l s↔∃ q:Nat,q<l.length∧AC l (q:Int)=s:=by
 unfold PU;rw[Nl];simp
theorem Re (l:List B7) (s:ByteArray):0≤RA l s↔∃ q:Nat,q<l.length∧(AC l (q:Int)).f0=s:=by
 unfold RA;rw[Nl];simp
theorem OM {g:A6} (h1:g.f0.length≤1000) (h2:g.f1.length≤1000) {q:Nat} (hq:q<g.f1.length) (hs:(AC g.f1 (q:Int)).size≤1000):S8 20000 g (q:Int)=some (if He (AC g.f1 (q:Int))=false then 8 else if 0≤PU (Bd g.f1 0 (q:Int)) (AC g.f1 (q:Int))∨0≤RA g.f0 (AC g.f1 (q:Int))then 9 else 0):=by
 have c:=Fs (f:=D3 20000 g (q:Int)) (n:=g.f0.length) (P:=fun k=>(AC g.f0 (k:Int)).f0≠AC g.f1 (q:Int)) (c:=some 0) (d:=some 9) (fun j i hi=>by
  rw[D3.eq_2,if_pos (by omega),if_pos ⟨by omega,by omega⟩,if_pos ⟨by omega,by omega⟩,B9 (by omega)]
  exact⟨fun h=>if_neg h,fun h=>if_pos (Classical.byContradiction h)⟩) (fun j=>by rw[D3.eq_2,if_neg (by omega)];rfl) g.f0.length 0 20000 (by omega) (by omega)
 have d:=Fs (f:=D6 20000 g (q:Int)) (n:=q) (P:=fun k=>AC g.f1 (k:Int)≠AC g.f1 (q:Int)) (c:=It 20000 g (q:Int)) (d:=some 9) (fun j i hi=>by
  rw[D6.eq_2,if_pos (by omega),if_pos ⟨by omega,by omega⟩,if_pos ⟨by omega,by omega⟩,B9 (by omega)]
  exact⟨fun h=>if_neg h,fun h=>if_pos (Classical.byContradiction h)⟩) (fun j=>by rw[D6.eq_2,if_neg (by omega)]) q 0 20000 (by omega) (by omega)
 have hl:=GH g.f1 (i:=q) (by omega);have e1:(0≤PU (Bd g.f1 0 (q:Int)) (AC g.f1 (q:Int)))↔¬ ∀ k,0≤k→k<q→AC g.f1 (k:Int)≠AC g.f1 (q:Int):=by
  rw[RK,hl];constructor
  ·rintro⟨k,k1,k2⟩ h;exact h k (by omega) k1 (by rw[←k2,HL _ k1 (by omega)])
  ·intro h;refine Classical.byContradiction fun c=>h fun k _ k1 k2=>c ⟨k,k1,by rw[HL _ k1 (by omega)];exact k2⟩
 have e2:(0≤RA g.f0 (AC g.f1 (q:Int)))↔¬ ∀ k,0≤k→k<g.f0.length→(AC g.f0 (k:Int)).f0≠AC g.f1 (q:Int):=by
  rw[Re];constructor
  ·rintro⟨k,k1,k2⟩ h;exact h k (by omega) k1 k2
  ·intro h;refine Classical.byContradiction fun c=>h fun k _ k1 k2=>c ⟨k,k1,k2⟩
 unfold S8;rw[if_pos ⟨by omega,by omega⟩,GB _ hs,G8,Option.bind_some]
 cases nb:He (AC g.f1 (q:Int))with
 | false=>rfl
 | true=>
   rw[if_neg (by decide),if_neg (by decide)];by_cases a:∀ k,0≤k→k<q→AC g.f1 (k:Int)≠AC g.f1 (q:Int)
   ·refine(d.1 a).trans ?_;by_cases b:∀ k,0≤k→k<g.f0.length→(AC g.f0 (k:Int)).f0≠AC g.f1 (q:Int)
    ·rw[if_neg (by rw[e1,e2];rintro (h|h);exact h a;exact h b)];exact c.1 b
    ·rw[if_pos (by rw[e2];exact .inr b)];exact c.2 b
   ·rw[if_pos (by rw[e1];exact .inl a)];exact d.2 a
theorem OX {g:A6} (h1:g.f0.length≤1000) (h2:g.f1.length≤1000) {q:Nat} (hq:q<g.f1.length) (fu:Nat):Ci 20000 g (fu+1) (q:Int)=if He (AC g.f1 (q:Int))=false then some (Ca.mk 8 2 (q:Int))else if 0≤PU (Bd g.f1 0 (q:Int)) (AC g.f1 (q:Int))∨0≤RA g.f0 (AC g.f1 (q:Int))then some (Ca.mk 9 2 (q:Int))else Ci 20000 g fu ((q+1:Nat):Int):=by
 have hc:=Og g.f1 q;rw[Ci.eq_2,if_pos (by omega),if_pos ⟨by omega,by omega⟩,G8,Option.bind_some,B9 (by omega)]
 cases nb:He (AC g.f1 (q:Int))with
 | false=>rfl
 | true=>
   rw[if_neg (by decide),if_pos ⟨by omega,by omega,by omega⟩,Jt _ _ (by omega),Option.bind_some,if_neg (show ¬ (true=false)by decide)];by_cases a:0≤PU (Bd g.f1 0 (q:Int)) (AC g.f1 (q:Int))
   ·rw[decide_eq_true a,if_pos rfl,Option.bind_some,if_pos rfl,if_pos (.inl a)]
   ·rw[decide_eq_false a,if_neg (by decide),O8 _ _ h1,Option.bind_some,Option.bind_some];by_cases b:0≤RA g.f0 (AC g.f1 (q:Int))
    ·rw[decide_eq_true b,if_pos rfl,if_pos (.inr b)]
    ·rw[decide_eq_false b,if_neg (by decide),if_neg (by rintro (h|h);exact a h;exact b h)]
theorem KD {g:A6} (h1:g.f0.length≤1000) (h2:g.f1.length≤1000) (hs:∀ x∈g.f1,x.size≤1000):∀ (m i f1 f2:Nat),i+m=g.f1.length→m<f1→m<f2→∃ t,Ci 20000 g f1 (i:Int)=some t∧((t.f0≠0∧t.f1=2∧Ds 20000 g f2 (i:Int)=some (t.f0,t.f1,t.f2))∨(t.f0=0∧Ds 20000 g f2 (i:Int)=KO 20000 g))
 | 0,i,f1+1,f2+1,hi,_,_=>⟨_,by rw[Ci.eq_2,if_neg (by omega)];rfl,.inr ⟨rfl,by rw[Ds.eq_2,if_neg (by omega)]⟩⟩
 | m+1,i,f1+1,f2+1,hi,k1,k2=>by
   rw[OX h1 h2 (q:=i) (by omega),Ds.eq_2,if_pos (show (i:Int)<(g.f1.length:Int)by omega),OM h1 h2 (by omega) (hs _ (Bz g.f1 (by omega))),Option.bind_some,B9 (by omega)];by_cases a:He (AC g.f1 (i:Int))=false
   ·rw[if_pos a,if_pos a,if_pos (by decide)];exact⟨_,rfl,.inl ⟨by simp,rfl,rfl⟩⟩
   ·rw[if_neg a,if_neg a];by_cases b:0≤PU (Bd g.f1 0 (i:Int)) (AC g.f1 (i:Int))∨0≤RA g.f0 (AC g.f1 (i:Int))
    ·rw[if_pos b,if_pos b,if_pos (by decide)];exact⟨_,rfl,.inl ⟨by simp,rfl,rfl⟩⟩
    ·rw[if_neg b,if_neg b,if_neg (by decide)];exact KD h1 h2 hs m (i+1) f1 f2 (by omega) (by omega) (by omega)
section
variable {g:A6} {i:Nat} (hz:g.f2.length≤1000) (hi:i<g.f2.length)
theorem QU:FP 20000 g (i:Int)=HU 20000 g (i:Int):=by
 obtain⟨b,b1,b2⟩:=LP (AC g.f2 (i:Int));unfold FP HU;rw[b1,b2,Er,HP];by_cases q:(AC g.f2 (i:Int)).f4<0
 ·have e:Mj g (A7.mk false (AC g.f2 (i:Int)).f4)=false:=by unfold Mj;rw[if_neg (by simp)];exact decide_eq_false (fun h=>by have h1:0≤(AC g.f2 (i:Int)).f4:=h.1;omega)
  rw[if_pos q,e];rfl
 ·rw[if_neg q]
include hz hi
theorem L5 (hh:(AC g.f2 (i:Int)).f5.length≤1000):∀ f x:Nat,DH 20000 g (i:Int) f (x:Int)=Ed 20000 g (i:Int) f (x:Int)
 | 0,_=>rfl
 | f+1,x=>by
   have ih:=L5 hh f (x+1);rw[DH.eq_2,Ed.eq_2,QU];by_cases c:(x:Int)<((AC g.f2 (i:Int)).f5.length:Int)
   ·have c0:0≤(x:Int)∧(x:Int)<((AC g.f2 (i:Int)).f5.length:Int):=⟨by omega,c⟩;rw[if_pos c,if_pos c,if_pos c0,if_pos c0,if_pos c0,B9 (by omega),ih]
   ·rw[if_neg c,if_neg c]
theorem Lh (hb:(AC g.f2 (i:Int)).f2.length≤1000) (hh:(AC g.f2 (i:Int)).f5.length≤1000):∀ f x:Nat,C7 20000 g (i:Int) f (x:Int)=Eg 20000 g (i:Int) f (x:Int)
 | 0,_=>rfl
 | f+1,x=>by
   have ih:=Lh hb hh f (x+1);have e:Ip 20000 g (i:Int)=JH 20000 g (i:Int):=L5 hz hi hh 20000 0;rw[C7.eq_2,Eg.eq_2,e];by_cases c:(x:Int)<((AC g.f2 (i:Int)).f2.length:Int)
   ·rw[if_pos c,if_pos c,if_pos (show 0≤(x:Int)∧(x:Int)<((AC g.f2 (i:Int)).f2.length:Int)from⟨by omega,c⟩),if_pos (show 0≤(x:Int)∧(x:Int)<((AC g.f2 (i:Int)).f2.length:Int)from⟨by omega,c⟩),Er,HP,B9 (by omega),ih]
   ·rw[if_neg c,if_neg c]
theorem Ln (hb:(AC g.f2 (i:Int)).f2.length≤1000) (hh:(AC g.f2 (i:Int)).f5.length≤1000):∀ f x:Nat,Cm 20000 g (i:Int) f (x:Int)=EK 20000 g (i:Int) f (x:Int)
 | 0,_=>rfl
 | f+1,x=>by
   have ih:=Ln hb hh f (x+1);have hl:=GH g.f2 (i:=i) (by omega);have e:I4 20000 g (i:Int)=Ii 20000 g (i:Int):=Lh hz hi hb hh 20000 0;rw[Cm.eq_2,EK.eq_2,e,hl];by_cases c:(x:Int)<(i:Int)
   ·rw[if_pos c,if_pos c,if_pos (show 0≤(x:Int)∧(x:Int)<(i:Int)from⟨by omega,c⟩),if_pos (show 0≤(x:Int)∧(x:Int)<(g.f2.length:Int)from⟨by omega,by omega⟩),HL _ (by omega) (by omega),B9 (by omega),ih]
   ·rw[if_neg c,if_neg c]
theorem QF (hb:(AC g.f2 (i:Int)).f2.length≤1000) (hh:(AC g.f2 (i:Int)).f5.length≤1000) (hn:(AC g.f2 (i:Int)).f1.size≤1000):RI 20000 g (i:Int)=UQ 20000 g (i:Int):=by
 have e:Cm 20000 g (i:Int) 20000 (0:Int)=EK 20000 g (i:Int) 20000 (0:Int):=Ln hz hi hb hh 20000 0;unfold RI UQ;rw[if_pos (show 0≤(i:Int)∧(i:Int)<(g.f2.length:Int)from⟨by omega,by omega⟩),if_pos (show 0≤(i:Int)∧(i:Int)<(g.f2.length:Int)from⟨by omega,by omega⟩),if_pos (show 0≤(0:Int)∧(0:Int)≤(i:Int)∧(i:Int)≤(g.f2.length:Int)from⟨by omega,by omega,by omega⟩),GB _ hn,e,Int.max_comm]
theorem Oy (hb:(AC g.f2 (i:Int)).f2.length≤1000) (hh:(AC g.f2 (i:Int)).f5.length≤1000):∃ v,RI 20000 g (i:Int)=some v:=by
 have c0:∃ v,FP 20000 g (i:Int)=some v:=by
  obtain⟨b,b1,_⟩:=LP (AC g.f2 (i:Int));unfold FP;rw[b1,Er];refine Mw (it (it ⟨_,rfl⟩ (Mw ⟨_,rfl⟩ fun _=>⟨_,rfl⟩)) ⟨_,rfl⟩) fun b=>it ⟨_,rfl⟩ (Mw (it (Mw ⟨_,rfl⟩ fun _=>⟨_,rfl⟩) ⟨_,rfl⟩) fun b=>it ⟨_,rfl⟩ ⟨_,rfl⟩)
 have l1:∀ (m x f:Nat),x+m=(AC g.f2 (i:Int)).f5.length→m<f→∃ v,DH 20000 g (i:Int) f (x:Int)=some v:=by
  intro m
  induction m with
  | zero=>
    rintro x (_|f) hx hf
    ·omega
    ·rw[DH.eq_2,if_neg (by omega)];exact c0
  | succ m ih=>
    rintro x (_|f) hx hf
    ·omega
    ·rw[DH.eq_2,if_pos (by omega),if_pos ⟨by omega,by omega⟩,B9 (by omega)];exact Mw (it ⟨_,rfl⟩ ⟨_,rfl⟩) fun b=>it ⟨_,rfl⟩ (ih (x+1) f (by omega) (by omega))
 have l3:∀ (m x f:Nat),x+m=(AC g.f2 (i:Int)).f2.length→m<f→∃ v,C7 20000 g (i:Int) f (x:Int)=some v:=by
  intro m
  induction m with
  | zero=>
    rintro x (_|f) hx hf
    ·omega
    ·rw[C7.eq_2,if_neg (by omega)];exact l1 (AC g.f2 (i:Int)).f5.length 0 20000 (by omega) (by omega)
  | succ m ih=>
    rintro x (_|f) hx hf
    ·omega
    ·rw[C7.eq_2,if_pos (by omega),if_pos ⟨by omega,by omega⟩,B9 (by omega),Er];exact Mw ⟨_,rfl⟩ fun b=>it ⟨_,rfl⟩ (ih (x+1) f (by omega) (by omega))
 have hl:=GH g.f2 (i:=i) (by omega);have l5:∀ (m x f:Nat),x+m=i→m<f→∃ v,Cm 20000 g (i:Int) f (x:Int)=some v:=by
  intro m
  induction m with
  | zero=>
    rintro x (_|f) hx hf
    ·omega
    ·rw[Cm.eq_2,if_neg (by omega)];exact l3 (AC g.f2 (i:Int)).f2.length 0 20000 (by omega) (by omega)
  | succ m ih=>
    rintro x (_|f) hx hf
    ·omega
    ·rw[Cm.eq_2,if_pos (by omega),if_pos ⟨by omega,by omega⟩,B9 (by omega)];exact it ⟨_,rfl⟩ (ih (x+1) f (by omega) (by omega))
 unfold RI;rw[if_pos ⟨by omega,by omega⟩,G8];refine Mw (it ⟨_,rfl⟩ ⟨_,rfl⟩) fun b=>it ⟨_,rfl⟩ (Mw ⟨_,rfl⟩ fun b=>it ⟨_,rfl⟩ (it ⟨_,rfl⟩ (it ⟨_,rfl⟩ ?_)));rw[if_pos ⟨by omega,by omega,by omega⟩];exact l5 i 0 20000 (by omega) (by omega)
end
def L3 (g:A6) (a b:Nat):Int:=AC (AC g.f3 (a:Int)).f1 (b:Int)
def WF (g:A6) (s i k:Nat) (n:Int):Prop:=∃ a b:Nat,s≤a∧(a<i∨a=i∧b<k)∧a<g.f3.length∧b<(AC g.f3 (a:Int)).f1.length∧L3 g a b=n
structure Lv (g:A6):Prop where
 n:g.f3.length≤1000
 l:∀ x∈g.f3,x.f1.length≤1000
theorem PF {g:A6} (h:Lv g) {i k:Nat} (hi:i<g.f3.length) (hk:k<(AC g.f3 (i:Int)).f1.length):∀ (m a fu:Nat),a+m=i→m<fu→∃ b,DC 20000 g (i:Int) (k:Int) fu (a:Int)=some b∧(b=true↔WF g a i k (L3 g i k))
 | 0,a,fu+1,ha,_=>by
   obtain rfl:a=i:=by omega
   have hn:=h.n;have hl:=h.l _ (Bz g.f3 hi)
   have c:=Fs (f:=Cl 20000 (DC 20000 g (a:Int) (k:Int) fu) g (a:Int) (k:Int) (a:Int)) (n:=k) (P:=fun b=>L3 g a b≠L3 g a k) (c:=some false) (d:=some true) (fun j b hb=>by
    rw[Cl.eq_2,if_pos ⟨by omega,by omega⟩,if_pos (by omega),if_pos rfl,Option.bind_some,decide_eq_false (by omega),if_neg (by decide),if_pos ⟨by omega,by omega⟩,if_pos ⟨by omega,by omega⟩,if_pos ⟨by omega,by omega⟩,if_pos ⟨by omega,by omega⟩,B9 (by omega)]
    exact⟨fun h=>if_neg h,fun h=>if_pos (Classical.byContradiction h)⟩) (fun j=>by
    rw[Cl.eq_2,if_pos ⟨by omega,by omega⟩,if_pos (by omega),if_pos rfl,Option.bind_some,decide_eq_true (by omega),if_pos rfl]) k 0 20000 (by omega) (by omega)
   rw[DC.eq_2,if_pos (by omega)];by_cases q:∀ b,0≤b→b<k→L3 g a b≠L3 g a k
   ·refine⟨false,c.1 q,?_⟩;simp only[Bool.false_eq_true,false_iff];rintro⟨a',b,h1,h2,h3,h4,h5⟩;obtain rfl:a'=a:=by omega
    exact q b (by omega) (by omega) h5
   ·refine⟨true,c.2 q,?_⟩;simp only[true_iff];refine Classical.byContradiction fun z=>q fun b _ b1 b2=>z ⟨a,b,by omega,by omega,hi,by omega,b2⟩
 | m+1,a,fu+1,ha,hf=>by
   have hn:=h.n;have ha':a<g.f3.length:=by omega
   have hl:=h.l _ (Bz g.f3 ha');obtain⟨r,r1,r2⟩:=PF h hi hk m (a+1) fu (by omega) (by omega)
   have c:=Fs (f:=Cl 20000 (DC 20000 g (i:Int) (k:Int) fu) g (i:Int) (k:Int) (a:Int)) (n:=(AC g.f3 (a:Int)).f1.length) (P:=fun b=>L3 g a b≠L3 g i k) (c:=some r) (d:=some true) (fun j b hb=>by
    rw[Cl.eq_2,if_pos ⟨by omega,by omega⟩,if_pos (by omega),if_neg (by omega),Option.bind_some,if_neg (by decide),if_pos ⟨by omega,by omega⟩,if_pos ⟨by omega,by omega⟩,if_pos ⟨by omega,by omega⟩,if_pos ⟨by omega,by omega⟩,B9 (by omega)]
    exact⟨fun h=>if_neg h,fun h=>if_pos (Classical.byContradiction h)⟩) (fun j=>by
    rw[Cl.eq_2,if_pos ⟨by omega,by omega⟩,if_neg (by omega)];unfold JK
    rw[B9 (by omega),r1]) (AC g.f3 (a:Int)).f1.length 0 20000 (by omega) (by omega)
   rw[DC.eq_2,if_pos (by omega)];by_cases q:∀ b,0≤b→b<(AC g.f3 (a:Int)).f1.length→L3 g a b≠L3 g i k
   ·refine⟨r,c.1 q,r2.trans ?_⟩;constructor
    ·rintro⟨a',b,h1,h2⟩;exact⟨a',b,by omega,h2⟩
    ·rintro⟨a',b,h1,h2,h3,h4,h5⟩;by_cases e:a'=a
     ·subst e;exact(q b (by omega) h4 h5).elim
     ·exact⟨a',b,by omega,h2,h3,h4,h5⟩
   ·refine⟨true,c.2 q,?_⟩;simp only[true_iff];refine Classical.byContradiction fun z=>q fun b _ b1 b2=>z ⟨a,b,by omega,by omega,ha',b1,b2⟩
def LI (g:A6) (i k:Nat) (mp:List (Int×Int)):Prop:=∀ n:Int,0≤(An mp n).getD (0:Int)∧(An mp n).getD (0:Int)≤((1000*i+k:Nat):Int)∧(0<(An mp n).getD (0:Int)↔WF g 0 i k n)
theorem Nt {g:A6} (h:Lv g) (rec7:List (Int×Int)→Int→Option Ca) {i:Nat} (hi:i<g.f3.length):∀ (m q f1 f2:Nat) (mp:List (Int×Int)),q+m=(AC g.f3 (i:Int)).f1.length→m<f1→m<f2→LI g i q mp→∃ e,Dp 20000 g (i:Int) f2 (q:Int)=some e∧((e≠0∧Cf 20000 rec7 g (i:Int) f1 mp (q:Int)=some (Ca.mk e 4 (i:Int)))∨(e=0∧∃ mp',LI g (i+1) 0 mp'∧Cf 20000 rec7 g (i:Int) f1 mp (q:Int)=rec7 mp' ((i+1:Nat):Int)))
 | 0,q,f1+1,f2+1,mp,hq,_,_,hm=>by
   have hn:=h.n;have hl:=h.l _ (Bz g.f3 hi);refine⟨0,by rw[Dp.eq_2,if_neg (by omega)];rfl,.inr ⟨rfl,mp,fun n=>?_,?_⟩⟩
   ·obtain⟨a,b,c⟩:=hm n;refine⟨a,by omega,c.trans ?_⟩;constructor
    ·rintro⟨a',b',k1,k2,k3⟩;exact⟨a',b',k1,by omega,k3⟩
    ·rintro⟨a',b',k1,k2,k3,k4,k5⟩;refine⟨a',b',k1,?_,k3,k4,k5⟩;by_cases e:a'=i
     ·subst e;exact .inr ⟨rfl,by omega⟩
     ·exact .inl (by omega)
   ·rw[Cf.eq_2,if_neg (by omega)];unfold JW;rw[B9 (by omega)]
 | m+1,q,f1+1,f2+1,mp,hq,k1,k2,hm=>by
   have hn:=h.n;have hl:=h.l _ (Bz g.f3 hi);have hq':q<(AC g.f3 (i:Int)).f1.length:=by omega
   obtain⟨s,s1,s2⟩:=PF h hi hq' i 0 20000 (by omega) (by omega);have s1:US 20000 g (i:Int) (q:Int)=some s:=s1;have hmn:=hm (L3 g i q);rw[Dp.eq_2,Cf.eq_2,if_pos (by omega),if_pos ⟨by omega,by omega⟩,if_pos (show (q:Int)<((AC g.f3 (i:Int)).f1.length:Int)by omega),if_pos (show 0≤(q:Int)∧(q:Int)<((AC g.f3 (i:Int)).f1.length:Int)from⟨by omega,by omega⟩),Er,HP,Option.bind_some,Option.bind_some,s1]
   cases hb:Mj g (A7.mk false (AC (AC g.f3 (i:Int)).f1 (q:Int)))with
   | false=>exact⟨11,rfl,.inl ⟨by decide,rfl⟩⟩
   | true=>
     rw[if_neg (by decide),if_neg (by decide),Option.bind_some];by_cases c:s=true
     ·rw[if_pos c];have:0<(An mp (AC (AC g.f3 (i:Int)).f1 (q:Int))).getD (0:Int):=hmn.2.2.2 (s2.1 c);exact⟨9,rfl,.inl ⟨by decide,if_pos this⟩⟩
     ·rw[if_neg c];have e0:(An mp (AC (AC g.f3 (i:Int)).f1 (q:Int))).getD (0:Int)=0:=by
       have h0:0≤(An mp (AC (AC g.f3 (i:Int)).f1 (q:Int))).getD (0:Int):=hmn.1;have h1:¬ 0<(An mp (AC (AC g.f3 (i:Int)).f1 (q:Int))).getD (0:Int):=fun z=>c (s2.2 (hmn.2.2.1 z));omega
      obtain⟨e,e1,e2⟩:=Nt h rec7 hi m (q+1) f1 f2 (A1 mp (L3 g i q) 1) (by omega) (by omega) (by omega) (fun n=>by
       rw[Dz];by_cases z:L3 g i q=n
       ·rw[if_pos z,Option.getD_some];exact⟨by omega,by omega,fun _=>⟨i,q,by omega,.inr ⟨rfl,by omega⟩,hi,hq',z⟩,fun _=>by omega⟩
       ·rw[if_neg z];obtain⟨u1,u2,u3⟩:=hm n;refine⟨u1,by omega,u3.trans ?_⟩;constructor
        ·rintro⟨a',b',k1,k2,k3⟩;exact⟨a',b',k1,by omega,k3⟩
        ·rintro⟨a',b',k1,k2,k3,k4,k5⟩;refine⟨a',b',k1,?_,k3,k4,k5⟩;by_cases e:a'=i∧b'=q
         ·obtain⟨rfl,rfl⟩:=e;exact(z k5).elim
         ·omega)
      have w1:AH ((0:Int)+1)=1:=by decide
      refine⟨e,by rw[B9 (by omega)];exact e1,?_⟩;have e3:(if 0<(An mp (AC (AC g.f3 (i:Int)).f1 (q:Int))).getD (0:Int)then some (Ca.mk 9 4 (i:Int))else Cf 20000 rec7 g (i:Int) f1 (A1 mp (AC (AC g.f3 (i:Int)).f1 (q:Int)) (AH ((An mp (AC (AC g.f3 (i:Int)).f1 (q:Int))).getD (0:Int)+1))) (AH ((q:Int)+1)))=Cf 20000 rec7 g (i:Int) f1 (A1 mp (L3 g i q) 1) ((q+1:Nat):Int):=by
       rw[e0,if_neg (by decide),w1,B9 (by omega)];rfl
      rw[e3];exact e2
theorem Nz {g:A6} (h:Lv g):∀ (m i f1 f2:Nat) (mp:List (Int×Int)),i+m=g.f3.length→m<f1→m<f2→LI g i 0 mp→∃ t,DU 20000 g f1 mp (i:Int)=some t∧((t.f0≠0∧t.f1=4∧EP 20000 g f2 (i:Int)=some (t.f0,t.f1,t.f2))∨(t.f0=0∧EP 20000 g f2 (i:Int)=Jn 20000 g))
 | 0,i,f1+1,f2+1,mp,hi,_,_,_=>⟨_,by rw[DU.eq_2,if_neg (by omega)];rfl,.inr ⟨rfl,by rw[EP.eq_2,if_neg (by omega)]⟩⟩
 | m+1,i,f1+1,f2+1,mp,hi,k1,k2,hm=>by
   have hn:=h.n;have hi':i<g.f3.length:=by omega
   have hl:=h.l _ (Bz g.f3 hi');have g0:0≤(i:Int)∧(i:Int)<(g.f3.length:Int):=⟨by omega,by omega⟩;obtain⟨b,hb⟩:∃ b,(if(AC g.f3 (i:Int)).f0<(1:Int)then some true else if(3:Int)<(AC g.f3 (i:Int)).f0 then some true else if(((AC g.f3 (i:Int)).f1).length:Int)=(0:Int)then some true else some (decide ((60:Int)≤(i:Int))))=some b:=by
    split
    ·exact⟨_,rfl⟩
    ·split
     ·exact⟨_,rfl⟩
     ·split<;>exact⟨_,rfl⟩
   rw[DU.eq_2,EP.eq_2,if_pos g0.2,if_pos g0,if_pos g0.2,hb];unfold UV;rw[if_pos g0,hb,Option.bind_some,Option.bind_some];by_cases c:b=true
   ·rw[if_pos c,if_pos c,Option.bind_some,if_pos (by decide)];exact⟨_,rfl,.inl ⟨by simp,rfl,rfl⟩⟩
   ·rw[if_neg c,if_neg c];obtain⟨e,e1,e2⟩:=Nt h (DU 20000 g f1) hi' (AC g.f3 (i:Int)).f1.length 0 20000 20000 mp (by omega) (by omega) (by omega) hm;have e1:Dp 20000 g (i:Int) 20000 (0:Int)=some e:=e1;rw[e1,Option.bind_some];rcases e2 with⟨e2,e3⟩|⟨e2,mp',e3,e4⟩
    ·rw[if_pos e2];exact⟨_,e3,.inl ⟨e2,rfl,rfl⟩⟩
    ·obtain⟨t,t1,t2⟩:=Nz h m (i+1) f1 f2 mp' (by omega) (by omega) (by omega) e3;rw[if_neg (by simp[e2]),B9 (by omega)];exact⟨t,e4.trans t1,t2⟩
theorem SR {g:A6} (h:Lv g):∃ t,J0 20000 g=some t∧t.f1≠1∧Jp 20000 g=some (t.f0,t.f1,t.f2):=by
 have hn:=h.n
 obtain⟨t,t1,t2⟩:=Nz h g.f3.length 0 20000 20000 [] (by omega) (by omega) (by omega) (fun n=>by
  have e0:(An ([]:List (Int×Int)) n).getD (0:Int)=0:=rfl;rw[e0]
  exact⟨by omega,by omega,fun h=>by omega,fun⟨a,b,_,h,_⟩=>by omega⟩)
 have t1:UR 20000 g=some t:=t1;unfold J0 Jp;rw[t1,Option.bind_some];rcases t2 with⟨a,b,c⟩|⟨a,c⟩
 ·have c:EP 20000 g 20000 (0:Int)=_:=c;rw[if_pos a,c];exact⟨t,rfl,by omega,rfl⟩
 ·have c:EP 20000 g 20000 (0:Int)=_:=c;rw[if_neg (by simp[a]),c];unfold Jn;obtain⟨b,hb⟩:∃ b,(if g.f4<(0:Int)then some true else some (decide ((g.f1.length:Int)≤g.f4)))=some b:=by
   split<;>exact⟨_,rfl⟩
  rw[hb,Option.bind_some,Option.bind_some]
  cases b with
  | true=>exact⟨_,rfl,by decide,rfl⟩
  | false=>exact⟨_,rfl,by decide,rfl⟩
structure Gs (g:A6):Prop where
 r:g.f0.length≤1000
 s:g.f1.length≤1000
 ss:∀ x∈g.f1,x.size≤1000
 p:g.f2.length≤1000
 pp:∀ x∈g.f2,x.f2.length≤1000∧x.f5.length≤1000∧x.f1.size≤1000
 l:Lv g
theorem Jm {g:A6} (h:Gs g):∀ (m i f1 f2:Nat),i+m=g.f2.length→m<f1→m<f2→∃ t,Ej 20000 g f1 (i:Int)=some t∧t.f1≠1∧FF 20000 g f2 (i:Int)=some (t.f0,t.f1,t.f2)
 | 0,i,f1+1,f2+1,hi,_,_=>by
   obtain⟨t,t1,t2,t3⟩:=SR h.l;exact⟨t,by rw[Ej.eq_2,if_neg (by omega)];exact t1,t2,by rw[FF.eq_2,if_neg (by omega)];exact t3⟩
 | m+1,i,f1+1,f2+1,hi,k1,k2=>by
   have hz:=h.p;have hi':i<g.f2.length:=by omega
   obtain⟨p1,p2,p3⟩:=h.pp _ (Bz g.f2 hi');have e:=QF hz hi' p1 p2 p3;obtain⟨t,t1,t2⟩:=Jm h m (i+1) f1 f2 (by omega) (by omega) (by omega);obtain⟨v,hv⟩:=Oy hz hi' p1 p2;rw[Ej.eq_2,FF.eq_2,if_pos (by omega),if_pos (by omega), ←e,hv,Option.bind_some,Option.bind_some,B9 (by omega)];by_cases c:v≠0
   ·rw[if_pos c,if_pos c];exact⟨_,rfl,by simp,rfl⟩
   ·rw[if_neg c,if_neg c];exact⟨t,t1,t2⟩
theorem K5 {g:A6} (h:Gs g) (hr:∀ r∈g.f0,DM r):∃ t u,F7 20000 g=some t∧F8 20000 g=some u∧(t.f0=6∧t.f1=1∨u=(t.f0,t.f1,t.f2)):=by
 have hz:=h.r;have hs:=h.s;have hp:=h.p
 obtain⟨a,e,a',e',r1,r2,r3⟩:=KF g.f0 hz hr g.f0.length 0 20000 20000 [] (by omega) (by omega) (by omega) (fun n=>by
  have e0:(An ([]:List (ByteArray×Int)) n).getD (0:Int)=0:=rfl;rw[e0]
  exact⟨by omega,by omega,fun h=>by omega,fun⟨j,j1,_⟩=>by omega⟩)
 obtain⟨s,s1,s2⟩:=KD hz hs h.ss g.f1.length 0 20000 20000 (by omega) (by omega) (by omega);obtain⟨t,t1,t2,t3⟩:=Jm h g.f2.length 0 20000 20000 (by omega) (by omega) (by omega);have r1:DI 20000 g.f0 20000 [] (0:Int)=some (a,e):=r1;have r2:C4 20000 g.f0 20000 (0:Int)=some (a',e'):=r2;have s1:Ci 20000 g 20000 (0:Int)=some s:=s1;have t1:Ej 20000 g 20000 (0:Int)=some t:=t1;have t3:FF 20000 g 20000 (0:Int)=_:=t3;have tail:∃ t u,((Tb 20000 g).bind fun t6=>if t6.f0≠(0:Int)then some t6 else if(200:Int)<(g.f2.length:Int)then some (Ca.mk 6 3 (g.f2.length:Int))else Ej 20000 g 20000 (0:Int))=some t∧(if(300:Int)<(g.f1.length:Int)then some ((6:Int),(2:Int),(g.f1.length:Int))else Ds 20000 g 20000 (0:Int))=some u∧t.f1≠1∧u=(t.f0,t.f1,t.f2):=by
  unfold Tb;by_cases c:(300:Int)<(g.f1.length:Int)
  ·rw[if_pos c,if_pos c,Option.bind_some,if_pos (by simp)];exact⟨_,_,rfl,rfl,by simp,rfl⟩
  ·rw[if_neg c,if_neg c,s1,Option.bind_some];rcases s2 with⟨s2,s3,s4⟩|⟨s2,s4⟩
   ·have s4:Ds 20000 g 20000 (0:Int)=_:=s4;rw[if_pos s2,s4];exact⟨_,_,rfl,rfl,by omega,rfl⟩
   ·have s4:Ds 20000 g 20000 (0:Int)=_:=s4;rw[if_neg (by simp[s2]),s4];unfold KO;by_cases d:(200:Int)<(g.f2.length:Int)
    ·rw[if_pos d,if_pos d];exact⟨_,_,rfl,rfl,by simp,rfl⟩
    ·rw[if_neg d,if_neg d,t1,t3];exact⟨_,_,rfl,rfl,t2,rfl⟩
 unfold F7 F8 UU UZ;by_cases c:(60:Int)<(g.f0.length:Int)
 ·rw[if_pos c,if_pos c,Option.bind_some,Option.bind_some,if_pos (by simp),if_pos (by simp)];exact⟨_,_,rfl,rfl,.inr rfl⟩
 ·rw[if_neg c,if_neg c,r1,r2,Option.bind_some,Option.bind_some];obtain⟨t,u,k1,k2,k3,k4⟩:=tail;by_cases d:e=0
  ·subst d;obtain⟨rfl,rfl⟩:=r3.resolve_left (by omega);rw[if_neg (show ¬ ((0:Int)≠0)by simp),if_neg (show ¬ ((0:Int)≠0)by simp)];exact⟨t,u,k1,k2,.inr k4⟩
  ·rw[if_pos d];by_cases q:e=6
   ·by_cases q':e'≠0
    ·rw[if_pos q'];exact⟨_,_,rfl,rfl,.inl ⟨q,rfl⟩⟩
    ·rw[if_neg q'];exact⟨_,u,rfl,k2,.inl ⟨q,rfl⟩⟩
   ·obtain⟨rfl,rfl⟩:=r3.resolve_left q;rw[if_pos d];exact⟨_,_,rfl,rfl,.inr rfl⟩
theorem Po:F5 20000=some true:=by decide+kernel
theorem Co (a0:A6) (h0:Sz a0):∃ k,F3 k a0=some true:=by
 refine⟨20000,?_⟩;obtain⟨b,b1,b2⟩:=RJ a0;unfold F3;rw[Po,Option.bind_some,if_neg (by decide),b1,Option.bind_some]
 cases b with
 | false=>rfl
 | true=>
 have h:=b2 rfl;have h1:=h.r;have h2:=h.s;have h3:=h.p;have h4:=h.l;have hg:Gs a0:=⟨by omega,by omega,fun x hx=>by have:=h.ss x hx;omega,by omega,fun x hx=>by have:=h.ps x hx;omega,⟨by omega,fun x hx=>by have:=h.ls x hx;omega⟩⟩;obtain⟨t,u,t1,t2,t3⟩:=K5 hg h.rs;obtain⟨s,s1,s2⟩:=Pw a0 a0 h.sm;have s2:s=true:=s2.2 rfl;subst s2;rw[if_neg (by decide),t1,Option.bind_some];rcases t3 with⟨e1,e2⟩|rfl
 ·rw[if_pos e1,e2];rfl
 ·rw[t2,s1];by_cases q:t.f0=6
  ·rw[if_pos q,Option.bind_some];by_cases q2:t.f1=1
   ·rw[decide_eq_true q2];rfl
   ·rw[decide_eq_false q2,if_neg (by decide),Option.bind_some,if_pos rfl,if_pos rfl,if_pos rfl];rfl
  ·rw[if_neg q,Option.bind_some,if_neg (by decide),Option.bind_some,if_pos rfl,if_pos rfl,if_pos rfl];rfl
end Go.Avl.TC
