/- Parts: AvT, Av0, Av1, Av2, Av3, Av4, Av5, Av6, Av7. -/
import Derived.WalkKit
import Derived.Below
import Derived.Deep.Quiet
import Derived.Deep.LoopGhost
import Derived.Laws.Append
import Derived.Laws.CopyRow
import Derived.Laws.MakeOwn
import Derived.Laws.OwnMore
import Derived.KernelRfl
import Derived.Laws.BitsLemmas
import Derived.Laws.Entries
import Derived.Laws.Slices
import Derived.Laws.BytesArg
namespace Go.Avl
open Go
def Pd:List (Nat×Nat×Value):=[]
end Go.Avl
namespace Go.Avl
open Go Go.RowKit
set_option linter.unusedVariables false
inductive AV where
 | fl (v:Value)
 | st (cs:List (Nat×AV))
 | ar (esz:Nat) (cs:List AV)
 | tup (vs:List AV)
 | fz (esz:Nat) (els:List AV)
 | own (n off len:Nat)
 | ptr (n off:Nat)
 | rp (x:AV)
 | mp (n:Nat)
structure Dv where
 b:Option Nat
 base:Nat
 cap:Nat
 esz:Nat
structure G where
 ro:Nat→Nat→Option Value
 nm:List Dv
structure G.le (g g':G):Prop where
 ro:∀ b o y,g.ro b o=some y→g'.ro b o=some y
 nm:∀ (n:Nat) p,g.nm[n]? =some p→g'.nm[n]? =some p
theorem G.le.refl (g:G):g.le g:=⟨fun _ _ _ h=>h,fun _ _ h=>h⟩
theorem G.le.trans {a b c:G} (h:a.le b) (k:b.le c):a.le c:=⟨fun _ _ _ x=>k.ro _ _ _ (h.ro _ _ _ x),fun _ _ x=>k.nm _ _ (h.nm _ _ x)⟩
theorem G.le.push (g:G) (p:Dv):g.le {g with nm:=g.nm++[p]}:=
 ⟨fun _ _ _ h=>h,fun n q h=>by
   have hn:n<g.nm.length:=(List.getElem?_eq_some_iff.1 h).1;show (g.nm++[p])[n]? =_
   rw[List.getElem?_append_left hn];exact h⟩
inductive AU (g:G):AV→List Value→Prop
 | fl {v}:v.oneCell'=true→AU g (.fl v) [v]
 | stNil:AU g (.st []) []
 | stCons {k c cs l r}:AU g c l→l.length=k→AU g (.st cs) r→AU g (.st ((k,c)::cs)) (l++r)
 | arNil {z}:AU g (.ar z []) []
 | arCons {z c cs l r}:AU g c l→l.length=z→AU g (.ar z cs) r→AU g (.ar z (c::cs)) (l++r)
 | fz {z els l b o cap}:AU g (.ar z els) l→(∀ j y,l[j]? =some y→g.ro b (o+j)=some y)→els.length≤cap→AU g (.fz z els) [.slice (some ⟨b,o,none⟩) els.length cap]
 | fz0 {z a cap}:AU g (.fz z []) [.slice a 0 cap]
 | own {n off len p b}:g.nm[n]? =some p→p.b=some b→off+len≤p.cap→AU g (.own n off len) [.slice (some ⟨b,p.base+off*p.esz,none⟩) len (p.cap-off)]
 | own0 {n off p a}:g.nm[n]? =some p→off≤p.cap→AU g (.own n off 0) [.slice a 0 0]
 | ptr {n off p b}:g.nm[n]? =some p→p.b=some b→AU g (.ptr n off) [.pointer (some ⟨b,p.base+off,none⟩)]
 | rp {x l b o}:AU g x l→(∀ j y,l[j]? =some y→g.ro b (o+j)=some y)→AU g (.rp x) [.pointer (some ⟨b,o,none⟩)]
 | mp {n p b}:g.nm[n]? =some p→p.b=some b→AU g (.mp n) [.map (some b)]
theorem AU.mono {g g':G} (h:g.le g') {x:AV} {l:List Value} (s:AU g x l):AU g' x l:=by
 induction s with
 | fl h=>exact .fl h
 | stNil=>exact .stNil
 | stCons _ hk _ i1 i2=>exact .stCons i1 hk i2
 | arNil=>exact .arNil
 | arCons _ hk _ i1 i2=>exact .arCons i1 hk i2
 | fz _ hr hc i=>exact .fz i (fun j y hy=>h.ro _ _ _ (hr j y hy)) hc
 | fz0=>exact .fz0
 | own h1 h2 h3=>exact .own (h.nm _ _ h1) h2 h3
 | own0 h1 h2=>exact .own0 (h.nm _ _ h1) h2
 | ptr h1 h2=>exact .ptr (h.nm _ _ h1) h2
 | rp _ hr i=>exact .rp i (fun j y hy=>h.ro _ _ _ (hr j y hy))
 | mp h1 h2=>exact .mp (h.nm _ _ h1) h2
theorem AU.one {g:G} {x:AV} {l:List Value} (s:AU g x l):∀ v∈l,v.oneCell'=true:=by
 induction s with
 | fl h=>simpa using h
 | stNil=>simp
 | stCons _ _ _ i1 i2=>intro v hv;exact(List.mem_append.1 hv).elim (i1 v) (i2 v)
 | arNil=>simp
 | arCons _ _ _ i1 i2=>intro v hv;exact(List.mem_append.1 hv).elim (i1 v) (i2 v)
 | _=>intro v hv;simp at hv;subst hv;rfl
def V1 (g:G):AV→Value→Prop
 | .fl u,v=>v=u
 | .st cs,v=>∃ l,v=.agg l.toArray∧AU g (.st cs) l
 | .ar z cs,v=>∃ l,v=.agg l.toArray∧AU g (.ar z cs) l
 | .tup _,_=>False
 | .fz z els,v=>AU g (.fz z els) [v]
 | .own n o l,v=>AU g (.own n o l) [v]
 | .ptr n o,v=>AU g (.ptr n o) [v]
 | .rp x,v=>AU g (.rp x) [v]
 | .mp n,v=>AU g (.mp n) [v]
inductive Bs {α β:Type} (R:α→β→Prop):List α→List β→Prop
 | nil:Bs R [] []
 | cons {a b l m}:R a b→Bs R l m→Bs R (a::l) (b::m)
theorem Bs.imp {α β:Type} {R R':α→β→Prop} (h:∀ a b,R a b→R' a b) {l:List α} {m:List β} (s:Bs R l m):Bs R' l m:=by
 induction s with
 | nil=>exact .nil
 | cons a _ ih=>exact .cons (h _ _ a) ih
theorem Bs.length {α β:Type} {R:α→β→Prop} {l:List α} {m:List β} (s:Bs R l m):m.length=l.length:=by
 induction s with
 | nil=>rfl
 | cons _ _ ih=>simp[ih]
theorem Bs.get {α β:Type} {R:α→β→Prop} {l:List α} {m:List β} (s:Bs R l m):∀ {i:Nat} {a:α},l[i]? =some a→∃ b,m[i]? =some b∧R a b:=by
 induction s with
 | nil=>intro i a h;simp at h
 | cons a _ ih=>
   intro i x h
   cases i with
   | zero=>simp at h;subst h;exact⟨_,rfl,a⟩
   | succ i=>simp at h;obtain⟨b,h1,h2⟩:=ih h;exact⟨b,by simpa using h1,h2⟩
def V (g:G):AV→Value→Prop
 | .tup vs,v=>∃ l:List Value,v=.tuple l.toArray∧Bs (V1 g) vs l
 | x,v=>V1 g x v
theorem V1.mono {g g':G} (h:g.le g') {x:AV} {v:Value} (s:V1 g x v):V1 g' x v:=by
 cases x<;>simp only[V1]at s⊢
 ·exact s
 ·obtain⟨l,e,s⟩:=s;exact⟨l,e,s.mono h⟩
 ·obtain⟨l,e,s⟩:=s;exact⟨l,e,s.mono h⟩
 all_goals exact s.mono h
theorem V.mono {g g':G} (h:g.le g') {x:AV} {v:Value} (s:V g x v):V g' x v:=by
 cases x<;>simp only[V]at s⊢
 case tup vs=>obtain⟨l,e,s⟩:=s;exact⟨l,e,s.imp fun _ _ k=>V1.mono h k⟩
 all_goals exact s.mono h
def AV.cell:AV→Bool
 | .fl v=>v.oneCell'
 | .tup _=>false
 | _=>true
def AV.isAgg:AV→Bool
 | .st _| .ar _ _=>true
 | _=>false
theorem V1.sim {g:G} {x:AV} {v:Value} (s:V1 g x v) (hc:x.cell=true):AU g x v.cells.toList:=by
 cases x with
 | fl u=>
   obtain rfl:v=u:=s;have:v.cells.toList=[v]:=by cases v<;>simp_all [Value.cells,AV.cell,Value.oneCell']
   rw[this];exact .fl hc
 | st cs=>obtain⟨l,rfl,s⟩:=s;simpa [Value.cells]using s
 | ar z cs=>obtain⟨l,rfl,s⟩:=s;simpa [Value.cells]using s
 | tup vs=>exact s.elim
 | _=>
   have s':AU g _ [v]:=s;have h1:=s'.one v (by simp);have:v.cells.toList=[v]:=by cases v<;>simp_all [Value.cells,Value.oneCell']
   rw[this];exact s'
theorem V1.of_sim_one {g:G} {x:AV} {l:List Value} (s:AU g x l) (ha:x.isAgg=false):∃ v,l=[v]∧V1 g x v∧v.oneCell'=true:=by
 cases s with
 | fl h=>exact⟨_,rfl,rfl,h⟩
 | stNil=>cases ha
 | stCons=>cases ha
 | arNil=>cases ha
 | arCons=>cases ha
 | fz a b c=>exact⟨_,rfl,.fz a b c,rfl⟩
 | fz0=>exact⟨_,rfl,.fz0,rfl⟩
 | own a b c=>exact⟨_,rfl,.own a b c,rfl⟩
 | own0 a b=>exact⟨_,rfl,.own0 a b,rfl⟩
 | ptr a b=>exact⟨_,rfl,.ptr a b,rfl⟩
 | rp a b=>exact⟨_,rfl,.rp a b,rfl⟩
 | mp a b=>exact⟨_,rfl,.mp a b,rfl⟩
theorem V1.of_sim_agg {g:G} {x:AV} {l:List Value} (s:AU g x l) (ha:x.isAgg=true):V1 g x (.agg l.toArray):=by
 cases x<;>simp[AV.isAgg]at ha
 ·exact⟨l,rfl,s⟩
 ·exact⟨l,rfl,s⟩
inductive At:AV→Nat→AV→Prop
 | here {x}:At x 0 x
 | fld0 {k c cs o y}:At c o y→At (.st ((k,c)::cs)) o y
 | fldS {k c cs o y}:At (.st cs) o y→At (.st ((k,c)::cs)) (k+o) y
 | idx {z cs c o y} (i:Nat):cs[i]? =some c→At c o y→At (.ar z cs) (i*z+o) y
theorem AU.ar_length {g:G} {z:Nat}:∀ {cs:List AV} {l:List Value},AU g (.ar z cs) l→l.length=cs.length*z:=by
 intro cs
 induction cs with
 | nil=>intro l s;cases s;simp
 | cons c cs ih=>
   intro l s
   cases s with
   | arCons a b d=>simp[ih d,b,Nat.add_mul,Nat.add_comm]
theorem AU.ar_get {g:G} {z:Nat}:∀ {cs:List AV} {l:List Value} {i:Nat} {c:AV},AU g (.ar z cs) l→cs[i]? =some c→
 ∃ m,AU g c m∧m.length=z∧∀ j y,m[j]? =some y→l[i*z+j]? =some y:=by
 intro cs
 induction cs with
 | nil=>intro l i c s h;simp at h
 | cons c0 cs ih=>
   intro l i c s h
   cases s with
   | @arCons _ _ _ l0 r a b d=>
     cases i with
     | zero=>
       simp at h;subst h;refine⟨l0,a,b,fun j y hy=>?_⟩;have hj:j<l0.length:=(List.getElem?_eq_some_iff.1 hy).1;simp only[Nat.zero_mul,Nat.zero_add];rw[List.getElem?_append_left hj];exact hy
     | succ i=>
       simp at h;obtain⟨m,h1,h2,h3⟩:=ih d h;refine⟨m,h1,h2,fun j y hy=>?_⟩;rw[List.getElem?_append_right (by rw[b,Nat.add_mul];omega)];have:(i+1)*z+j-l0.length=i*z+j:=by rw[b,Nat.add_mul];omega
       rw[this];exact h3 j y hy
theorem AU.at {g:G} {x y:AV} {o:Nat} (h:At x o y):∀ {l:List Value},AU g x l→∃ m,AU g y m∧∀ j v,m[j]? =some v→l[o+j]? =some v:=by
 induction h with
 | here=>intro l s;exact⟨l,s,fun j v h=>by simpa using h⟩
 | fld0 _ ih=>
   intro l s
   cases s with
   | stCons a b d=>
     obtain⟨m,h1,h2⟩:=ih a;refine⟨m,h1,fun j v hv=>?_⟩;have:=h2 j v hv;rw[List.getElem?_append_left (List.getElem?_eq_some_iff.1 this).1];exact this
 | fldS _ ih=>
   intro l s
   cases s with
   | @stCons k _ _ l0 r a b d=>
     obtain⟨m,h1,h2⟩:=ih d;refine⟨m,h1,fun j v hv=>?_⟩;rw[List.getElem?_append_right (by omega)];have:=h2 j v hv;rw[←this];congr 1;omega
 | idx i hi _ ih=>
   intro l s;obtain⟨m,h1,h2,h3⟩:=s.ar_get hi;obtain⟨m',k1,k2⟩:=ih h1;exact⟨m',k1,fun j v hv=>by rw[Nat.add_assoc];exact h3 _ _ (k2 j v hv)⟩
inductive FI:AV→Nat→AV→AV→AV→Prop
 | here {y y'}:FI y 0 y y' y'
 | fld0 {k c c' cs o y y'}:FI c o y y' c'→FI (.st ((k,c)::cs)) o y y' (.st ((k,c')::cs))
 | fldS {k c cs cs' o y y'}:FI (.st cs) o y y' (.st cs')→FI (.st ((k,c)::cs)) (k+o) y y' (.st ((k,c)::cs'))
 | idx {z cs c c' o y y'} (i:Nat):cs[i]? =some c→FI c o y y' c'→FI (.ar z cs) (i*z+o) y y' (.ar z (cs.set i c'))
theorem AU.ar_set {g g':G} {z:Nat} (hle:g.le g'):∀ {cs:List AV} {l:List Value} {i:Nat} {c c':AV},AU g (.ar z cs) l→cs[i]? =some c→
 ∃ p m s,l=p++m++s∧p.length=i*z∧AU g c m∧m.length=z∧∀ m',AU g' c' m'→m'.length=z→AU g' (.ar z (cs.set i c')) (p++m'++s):=by
 intro cs
 induction cs with
 | nil=>intro l i c c' s h;simp at h
 | cons c0 cs ih=>
   intro l i c c' s h
   cases s with
   | @arCons _ _ _ l0 r a b d=>
     cases i with
     | zero=>
       simp at h;subst h;exact⟨[],l0,r,rfl,by simp,a,b,fun m' h1 h2=>by simpa using AU.arCons h1 h2 (d.mono hle)⟩
     | succ i=>
       simp at h;obtain⟨p,m,s,rfl,h1,h2,h3,h4⟩:=ih (c':=c') d h;refine⟨l0++p,m,s,by simp,by simp[b,h1,Nat.add_mul,Nat.add_comm],h2,h3,fun m' k1 k2=>?_⟩;have:=AU.arCons (a.mono hle) b (h4 m' k1 k2);simpa using this
theorem AU.put {g g':G} (hle:g.le g') {x y y' x':AV} {o:Nat} (h:FI x o y y' x'):∀ {l:List Value},AU g x l→
 ∃ p m s,l=p++m++s∧p.length=o∧AU g y m∧∀ m',AU g' y' m'→m'.length=m.length→AU g' x' (p++m'++s):=by
 induction h with
 | here=>intro l s;exact⟨[],l,[],by simp,rfl,s,fun m' h _=>by simpa using h⟩
 | fld0 _ ih=>
   intro l s
   cases s with
   | @stCons k _ _ l0 r a b d=>
     obtain⟨p,m,s,rfl,h1,h2,h3⟩:=ih a;refine⟨p,m,s++r,by simp,h1,h2,fun m' k1 k2=>?_⟩;have hk:(p++m'++s).length=(p++m++s).length:=by simp;omega
     have:=AU.stCons (h3 m' k1 k2) (hk.trans b) (d.mono hle);simpa using this
 | fldS _ ih=>
   intro l s
   cases s with
   | @stCons k _ _ l0 r a b d=>
     obtain⟨p,m,s,rfl,h1,h2,h3⟩:=ih d;refine⟨l0++p,m,s,by simp,by simp[b,h1],h2,fun m' k1 k2=>?_⟩;have:=AU.stCons (a.mono hle) b (h3 m' k1 k2);simpa using this
 | idx i hi _ ih=>
   intro l sl;obtain⟨p,m,s,rfl,h1,h2,h3,h4⟩:=sl.ar_set hle hi;obtain⟨p',m2,s',rfl,k1,k2,k3⟩:=ih h2;refine⟨p++p',m2,s'++s,by simp,by simp[h1,k1],k2,fun m' j1 j2=>?_⟩;have:=h4 _ (k3 m' j1 j2) (by simp at h3⊢;omega);simpa using this
#print axioms AU.put
inductive EX where
 | mem (x:AV)
 | map (es:List (Value×AV))
 | raw (o:Obj)
abbrev AN:=List (Nat×EX)
abbrev AZ:=List (Nat×AV)
structure Fr where
 B:Nat
 W0:World
 r0:Nat→Nat→Option Value
 tab:∀ x∈Pd,x.1<B∧W0.cell? ⟨x.1,x.2.1,none⟩=some x.2.2
def JO (w:World):Prop:=∀ x∈Pd,w.cell? ⟨x.1,x.2.1,none⟩=some x.2.2
theorem JO.below {w w':World} (h:JO w) (hb:Below w.heap.size w w'):JO w':=fun x hx=>by
 have h1:=h x hx;rw[hb.cell (p:=⟨x.1,x.2.1,none⟩) (World.block_lt_of_cell? w _ h1)];exact h1
theorem JO.fr {w:World} (h:JO w):∀ x∈Pd,x.1<w.heap.size∧w.cell? ⟨x.1,x.2.1,none⟩=some x.2.2:=fun x hx=>⟨World.block_lt_of_cell? w _ (h x hx),h x hx⟩
def AV.arz:AV→Option Nat
 | .ar z _=>some z
 | _=>none
def AV.capn:AV→Nat
 | .ar _ cs=>cs.length
 | _=>0
def Bh (g:G) (w:World) (p:Dv):EX→Prop
 | .mem x=>(∀ z,x.arz=some z→z=p.esz)∧∃ l,AU g x l∧((∃ b c T,p.b=some b∧w.heap[b]? =some (.cells c T (0,0))∧p.base+p.cap*p.esz≤c.size∧p.base+l.length≤c.size∧∀ j y,l[j]? =some y→c[p.base+j]? =some y)∨
    (p.b=none∧l=[]∧p.cap=0∧x.capn=0))
 | .map es=>∃ b arr clock,p.b=some b∧w.heap[b]? =some (.map arr clock)∧Bs (fun (e:Value×AV) (m:MapEntry)=>m.key=e.1∧V1 g e.2 m.val) es arr.toList
 | .raw o=>∃ b,p.b=some b∧w.heap[b]? =some o
theorem Bh.mono {g g':G} (h:g.le g') {w:World} {p:Dv} {m:EX} (s:Bh g w p m):Bh g' w p m:=by
 cases m with
 | mem x=>obtain⟨he,l,s,r⟩:=s;exact⟨he,l,s.mono h,r⟩
 | map es=>obtain⟨b,arr,c,h1,h2,h3⟩:=s;exact⟨b,arr,c,h1,h2,h3.imp fun _ _ k=>⟨k.1,k.2.mono h⟩⟩
 | raw o=>exact s
theorem Bh.block {g:G} {w w':World} {p:Dv} {m:EX} (s:Bh g w p m) (h:∀ b,p.b=some b→w'.heap[b]? =w.heap[b]?):Bh g w' p m:=by
 cases m with
 | mem x=>
   obtain⟨he,l,s,r⟩:=s;refine⟨he,l,s,?_⟩;rcases r with⟨b,c,T,h1,h2,r⟩|r
   ·exact .inl ⟨b,c,T,h1,by rw[h b h1];exact h2,r⟩
   ·exact .inr r
 | map es=>obtain⟨b,arr,c,h1,h2,h3⟩:=s;exact⟨b,arr,c,h1,by rw[h b h1];exact h2,h3⟩
 | raw o=>obtain⟨b,h1,h2⟩:=s;exact⟨b,h1,by rw[h b h1];exact h2⟩
theorem Bh.lt {g:G} {w:World} {p:Dv} {m:EX} (s:Bh g w p m):∀ b,p.b=some b→b<w.heap.size:=by
 intro b hb
 cases m with
 | mem x=>
   obtain⟨he,l,s,r⟩:=s;rcases r with⟨b',c,T,h1,h2,r⟩|r
   ·rw[h1]at hb;cases hb;exact(Array.getElem?_eq_some_iff.1 h2).1
   ·rw[r.1]at hb;cases hb
 | map es=>obtain⟨b',arr,c,h1,h2,h3⟩:=s;rw[h1]at hb;cases hb;exact(Array.getElem?_eq_some_iff.1 h2).1
 | raw o=>obtain⟨b',h1,h2⟩:=s;rw[h1]at hb;cases hb;exact(Array.getElem?_eq_some_iff.1 h2).1
def GP (g:G) (x y:Nat×EX):Prop:=∀ p q b,g.nm[x.1]? =some p→g.nm[y.1]? =some q→p.b=some b→q.b≠some b
theorem GP.symm {g:G} {x y:Nat×EX} (h:GP g x y):GP g y x:=fun p q b h1 h2 h3 h4=>h q p b h2 h1 h4 h3
structure Ak (F:Fr) (g:G) (H:AN) (w:World):Prop where
 below:Below F.B F.W0 w
 size:F.B≤w.heap.size
 ro:∀ b o y,g.ro b o=some y→w.cell? ⟨b,o,none⟩=some y
 r0:∀ b o y,b<F.B→g.ro b o=some y→F.r0 b o=some y
 obj:∀ n m,(n,m)∈H→∃ p,g.nm[n]? =some p∧Bh g w p m∧∀ b,p.b=some b→F.B≤b∧∀ o,g.ro b o=none
 apart:H.Pairwise (GP g)
theorem L9 {g:G} {w:World} (h:∀ b o y,g.ro b o=some y→w.cell? ⟨b,o,none⟩=some y) {b o:Nat} {y:Value} (hy:g.ro b o=some y):b<w.heap.size:=
 World.block_lt_of_cell? w _ (h b o y hy)
theorem Ak.tab {F:Fr} {g:G} {H:AN} {w:World} (s:Ak F g H w):JO w:=fun x hx=>by
 have h1:=F.tab x hx;rw[s.below.cell (p:=⟨x.1,x.2.1,none⟩) h1.1];exact h1.2
theorem Ak.ext {F:Fr} {g g':G} {H:AN} {w w':World} (s:Ak F g H w) (hb:Below w.heap.size w w') (hg:g.le g')
 (hro:∀ b o y,g'.ro b o=some y→w'.cell? ⟨b,o,none⟩=some y) (hnew:∀ b o y,b<w.heap.size→g'.ro b o=some y→g.ro b o=some y):Ak F g' H w':=by
 refine⟨s.below.trans (hb.mono s.size),Nat.le_trans s.size hb.size,hro,fun b o y h1 h2=>s.r0 b o y h1 (hnew b o y (Nat.lt_of_lt_of_le h1 s.size) h2),fun n m hm=>?_,?_⟩
 ·obtain⟨p,h1,h2,h3⟩:=s.obj n m hm;refine⟨p,hg.nm _ _ h1,(h2.block fun b e=>hb.block b (h2.lt b e)).mono hg,fun b e=>⟨(h3 b e).1,fun o=>?_⟩⟩
  cases hx:g'.ro b o with
  | none=>rfl
  | some y=>have:=hnew b o y (h2.lt b e) hx;rw[(h3 b e).2 o]at this;cases this
 ·refine s.apart.imp_of_mem fun {x y} hx hy h=>?_;intro p q b h1 h2 h3 h4;obtain⟨p',k1,_,_⟩:=s.obj x.1 x.2 hx;obtain⟨q',k2,_,_⟩:=s.obj y.1 y.2 hy;have e1:=hg.nm _ _ k1;have e2:=hg.nm _ _ k2;rw[e1]at h1;rw[e2]at h2;cases h1;cases h2
  exact h p q b k1 k2 h3 h4
theorem Gw {g:G} {w w':World} (h:∀ b o y,g.ro b o=some y→w.cell? ⟨b,o,none⟩=some y) (hb:Below w.heap.size w w'):∀ b o y,g.ro b o=some y→w'.cell? ⟨b,o,none⟩=some y:=by
 intro b o y hy;rw[hb.cell (p:=⟨b,o,none⟩) (L9 h hy)];exact h b o y hy
theorem Ak.of_below {F:Fr} {g:G} {H:AN} {w w':World} (s:Ak F g H w) (hb:Below w.heap.size w w'):Ak F g H w':=
 s.ext hb (.refl g) (Gw s.ro hb) (fun _ _ _ _ h=>h)
theorem Ak.cons {F:Fr} {g:G} {H:AN} {w w':World} (s:Ak F g H w) (hb:Below w.heap.size w w') (p:Dv) (m:EX)
 (hp:∀ b,p.b=some b→w.heap.size≤b) (hm:Bh {g with nm:=g.nm++[p]} w' p m):Ak F {g with nm:=g.nm++[p]} ((g.nm.length,m)::H) w':=by
 have s':=s.of_below hb;have hle:=G.le.push g p;have hn:(g.nm++[p])[g.nm.length]? =some p:=by simp
 have sx:=s'.ext (Below.refl _ _) hle (fun b o y h=>s'.ro b o y h) (fun b o y _ h=>h);refine⟨sx.below,sx.size,sx.ro,sx.r0,fun n m' hm'=>?_,?_⟩
 ·rcases List.mem_cons.1 hm' with h|h
  ·cases h;refine⟨p,hn,hm,fun b e=>⟨Nat.le_trans s.size (hp b e),fun o=>?_⟩⟩
   cases hx:g.ro b o with
   | none=>rfl
   | some y=>have:=L9 s.ro hx;have:=hp b e;omega
  ·exact sx.obj n m' h
 ·refine List.pairwise_cons.2 ⟨fun y hy q r b h1 h2 h3 h4=>?_,sx.apart⟩;have e1:some p=some q:=hn.symm.trans h1;cases e1;obtain⟨r',k1,k2,_⟩:=s.obj y.1 y.2 hy;have e2:some r'=some r:=(hle.nm _ _ k1).symm.trans h2;cases e2;have:=k2.lt b h4;have:=hp b h3;omega
theorem I5 {α:Type} {R:α→α→Prop} (hs:∀ {x y},R x y→R y x) {l:List α} (h:l.Pairwise R) (i:Nat) (x':α)
 (hx:∀ j y,j≠i→l[j]? =some y→R x' y):(l.set i x').Pairwise R:=by
 induction l generalizing i with
 | nil=>exact .nil
 | cons a l ih=>
   obtain⟨h1,h2⟩:=List.pairwise_cons.1 h
   cases i with
   | zero=>
     refine List.pairwise_cons.2 ⟨fun y hy=>?_,h2⟩;obtain⟨j,hj⟩:=List.getElem?_of_mem hy;exact hx (j+1) y (by omega) (by simpa using hj)
   | succ i=>
     refine List.pairwise_cons.2 ⟨fun y hy=>?_,ih h2 i fun j y hj hy=>hx (j+1) y (by omega) (by simpa using hy)⟩;rcases List.mem_or_eq_of_mem_set hy with h|h
     ·exact h1 y h
     ·subst h;exact hs (hx 0 a (by omega) rfl)
theorem Ak.set {F:Fr} {g g':G} {H:AN} {w w':World} (s:Ak F g H w) {i n n':Nat} {m m':EX} {p p':Dv} (hi:H[i]? =some (n,m)) (hn:g.nm[n]? =some p)
 (hg:g.le g') (hro:∀ b o,g'.ro b o=g.ro b o) (hos:w'.os=w.os) (htape:w'.tape=w.tape) (hout:w'.output=w.output) (hsize:w.heap.size≤w'.heap.size)
 (hblk:∀ k,k<w.heap.size→p.b≠some k→w'.heap[k]? =w.heap[k]?) (hn':g'.nm[n']? =some p') (hm':Bh g' w' p' m')
 (hp':∀ b,p'.b=some b→p.b=some b∨w.heap.size≤b):Ak F g' (H.set i (n',m')) w':=by
 have hmem:(n,m)∈H:=List.mem_of_getElem? hi;obtain⟨p0,k1,k2,k3⟩:=s.obj n m hmem;obtain rfl:p0=p:=Option.some.inj (k1.symm.trans hn);have hother:∀ (j:Nat) y,j≠i→H[j]? =some y→∃ q,g.nm[y.1]? =some q∧Bh g w q y.2∧(∀ b,q.b=some b→F.B≤b∧∀ o,g.ro b o=none)∧∀ b,p0.b=some b→q.b≠some b:=by
  intro j y hj hy;obtain⟨q,q1,q2,q3⟩:=s.obj y.1 y.2 (List.mem_of_getElem? hy);refine⟨q,q1,q2,q3,fun b e1 e2=>?_⟩;rcases Nat.lt_or_gt_of_ne hj with hlt|hlt
  ·exact(List.pairwise_iff_getElem.1 s.apart) j i (List.getElem?_eq_some_iff.1 hy).1 (List.getElem?_eq_some_iff.1 hi).1 hlt q p0 b
    (by rw[(List.getElem?_eq_some_iff.1 hy).2];exact q1) (by rw[(List.getElem?_eq_some_iff.1 hi).2];exact hn) e2 e1
  ·exact(List.pairwise_iff_getElem.1 s.apart) i j (List.getElem?_eq_some_iff.1 hi).1 (List.getElem?_eq_some_iff.1 hy).1 hlt p0 q b
    (by rw[(List.getElem?_eq_some_iff.1 hi).2];exact hn) (by rw[(List.getElem?_eq_some_iff.1 hy).2];exact q1) e1 e2
 have hroblk:∀ b o y,g.ro b o=some y→p0.b≠some b:=fun b o y h e=>by have:=(k3 b e).2 o;rw[h]at this;cases this
 have hsub:Below F.B w w':=⟨hos,htape,hout,hsize,fun k hk=>hblk k (Nat.lt_of_lt_of_le hk s.size) fun e=>by have:=(k3 k e).1;omega⟩;refine⟨s.below.trans hsub,Nat.le_trans s.size hsize,fun b o y h=>?_,fun b o y h1 h2=>s.r0 b o y h1 (by rw[←hro];exact h2),fun n2 m2 h2=>?_,?_⟩
 ·rw[hro]at h;rw[World.cell?_of_block (w:=w) (a:=⟨b,o,none⟩) (hblk b (L9 s.ro h) (hroblk b o y h))];exact s.ro b o y h
 ·rw[List.mem_iff_getElem?]at h2;obtain⟨j,hj⟩:=h2;by_cases hji:j=i
  ·subst hji;rw[List.getElem?_set_self (List.getElem?_eq_some_iff.1 hi).1]at hj;cases hj;refine⟨p',hn',hm',fun b e=>?_⟩;rcases hp' b e with h|h
   ·exact⟨(k3 b h).1,fun o=>by rw[hro];exact(k3 b h).2 o⟩
   ·refine⟨Nat.le_trans s.size h,fun o=>?_⟩;rw[hro]
    cases hx:g.ro b o with
    | none=>rfl
    | some y=>have:=L9 s.ro hx;omega
  ·rw[List.getElem?_set_ne (fun e=>hji e.symm)]at hj;obtain⟨q,q1,q2,q3,q4⟩:=hother j _ hji hj;refine⟨q,hg.nm _ _ q1,(q2.block fun b e=>hblk b (q2.lt b e) fun e'=>q4 b e' e).mono hg,fun b e=>⟨(q3 b e).1,fun o=>by rw[hro];exact(q3 b e).2 o⟩⟩
 ·have hap:H.Pairwise (GP g'):=s.apart.imp_of_mem fun {x y} hx hy h=>by
   intro p1 q1 b h1 h2 h3 h4;obtain⟨p2,j1,_,_⟩:=s.obj x.1 x.2 hx;obtain⟨q2,j2,_,_⟩:=s.obj y.1 y.2 hy;have e1:=hg.nm _ _ j1;have e2:=hg.nm _ _ j2;rw[e1]at h1;rw[e2]at h2;cases h1;cases h2
   exact h _ _ b j1 j2 h3 h4
  refine I5 (fun h=>h.symm) hap i _ fun j y hji hj=>?_;obtain⟨q,q1,q2,q3,q4⟩:=hother j y hji hj;intro p1 q' b h1 h2 h3 h4;obtain rfl:p'=p1:=Option.some.inj (hn'.symm.trans h1);obtain rfl:q=q':=Option.some.inj ((hg.nm _ _ q1).symm.trans h2);rcases hp' b h3 with h|h
  ·exact q4 b h h4
  ·have:=q2.lt b h4;omega
def BS (H2 H:AN):Prop:=∃ l,(H2++l).Perm H
theorem BS.refl (H:AN):BS H H:=⟨[],by simp⟩
theorem BS.nil (H:AN):BS [] H:=⟨H,by simp⟩
theorem BS.drop {H2 H:AN} {x:Nat×EX} (h:BS H2 H):BS H2 (x::H):=by
 obtain⟨l,h⟩:=h;exact⟨x::l,(List.perm_middle).trans (h.cons x)⟩
theorem BS.keep {H2 H:AN} {x:Nat×EX} (h:BS H2 H):BS (x::H2) (x::H):=by
 obtain⟨l,h⟩:=h;exact⟨l,h.cons x⟩
theorem BS.trans {a b c:AN} (h:BS a b) (k:BS b c):BS a c:=by
 obtain⟨l,h⟩:=h;obtain⟨m,k⟩:=k;exact⟨l++m,by rw[←List.append_assoc];exact(h.append_right m).trans k⟩
theorem FJ {α:Type}:∀ {l:List α} {i:Nat} {x:α},l[i]? =some x→(x::l.eraseIdx i).Perm l
 | a::l,0,x,h=>by simp at h;subst h;simp
 | a::l,i+1,x,h=>by
   simp at h;exact(List.Perm.swap a x _).trans ((FJ h).cons a)
theorem BS.front (i:Nat) {H:AN} {x:Nat×EX} (h:H[i]? =some x):BS (x::H.eraseIdx i) H:=by
 refine⟨[],?_⟩;simp only[List.append_nil];exact FJ h
theorem BS.cons {H2 H:AN} (i:Nat) {x:Nat×EX} (hx:H[i]? =some x) (h:BS H2 (H.eraseIdx i)):BS (x::H2) H:=(h.keep).trans (BS.front i hx)
theorem Ak.sub {F:Fr} {g:G} {H H2:AN} {w:World} (s:Ak F g H w) (h:BS H2 H):Ak F g H2 w:=by
 obtain⟨l,h⟩:=h;have hp:=(List.Perm.pairwise_iff (fun {x y} (h:GP g x y)=>h.symm) h).2 s.apart;refine⟨s.below,s.size,s.ro,s.r0,fun n m hm=>s.obj n m (h.mem_iff.1 (List.mem_append_left _ hm)),(List.pairwise_append.1 hp).1⟩
#print axioms Ak.set
def A2 (g:G) (ρ:AZ) (a:Act):Prop:=∀ t x,ρ.lookup t=some x→V g x (a.tmps.getD t undef)
theorem A2.mono {g g':G} (h:g.le g') {ρ:AZ} {a:Act} (s:A2 g ρ a):A2 g' ρ a:=fun t x hx=>(s t x hx).mono h
def AZ.ev (ρ:AZ):Operand→Option AV
 | .tmp t=>ρ.lookup t
 | .const v=>some (.fl v)
 | .global g=>some (.fl (.pointer (some ⟨g,0,none⟩)))
 | .func f=>some (.fl (.func (.func f) #[] #[]))
theorem A2.ev {g:G} {ρ:AZ} {a:Act} (s:A2 g ρ a) {x:Operand} {y:AV} (h:AZ.ev ρ x=some y):V g y (a.eval x):=by
 cases x with
 | tmp t=>exact s t y h
 | const v=>cases h;rfl
 | global g=>cases h;rfl
 | func f=>cases h;rfl
theorem Aq (t u:Nat) (x:AV) (ρ:AZ):List.lookup t ((u,x)::ρ)=if t=u then some x else List.lookup t ρ:=by
 by_cases h:t=u
 ·subst h;simp[List.lookup]
 ·have:(t==u)=false:=by simpa using h
  simp[List.lookup,this,h]
theorem A2.put {g:G} {ρ:AZ} {a:Act} (s:A2 g ρ a) {d:Nat} {x:AV} {v:Value} (hv:V g x v) (hd:d<a.tmps.size):A2 g ((d,x)::ρ) (a.put (some d) v):=by
 intro t y hy;rw[Aq]at hy;by_cases h:t=d
 ·rw[if_pos h]at hy;cases hy;subst h
  simpa [Act.put,Array.getD,hd]using hv
 ·rw[if_neg h]at hy;have:=s t y hy;have e:(a.put (some d) v).tmps.getD t undef=a.tmps.getD t undef:=by
   simp[Act.put,Array.getElem?_setIfInBounds_ne (Ne.symm h)]
  rw[e];exact this
def Cs:AZ→AZ→Prop
 | [],_=>True
 | (t,x)::r,ρ=>ρ.lookup t=some x∧Cs r ρ
theorem Cs.lookup:∀ {ρ' ρ:AZ},Cs ρ' ρ→∀ {t x},ρ'.lookup t=some x→ρ.lookup t=some x
 | (u,y)::r,ρ,h,t,x,hx=>by
   rw[Aq]at hx;by_cases e:t=u
   ·rw[if_pos e]at hx;cases hx;subst e;exact h.1
   ·rw[if_neg e]at hx;exact Cs.lookup h.2 hx
theorem Cs.sat {g:G} {ρ' ρ:AZ} {a:Act} (h:Cs ρ' ρ) (s:A2 g ρ a):A2 g ρ' a:=fun t x hx=>s t x (h.lookup hx)
def AO (P:Program) (N:Nat) (ops:Array Oper) (rest:List Oper) (K:AZ→AN→Prop) (ρ:AZ) (H:AN):Prop:=
 ∀ (F:Fr) (g:G) (a:Act) (w:World) (Q:Exit→Act→World→Prop),A2 g ρ a→a.tmps.size=N→Ak F g H w→
  (∀ g' ρ' H' a' w',g.le g'→A2 g' ρ' a'→a'.tmps.size=N→a'.defers=a.defers→Ak F g' H' w'→K ρ' H'→Q .normal a' w')→wpList P ops Q rest a w
def AW (P:Program) (N:Nat) (c:Code) (Q:Exit→AZ→AN→Prop) (ρ:AZ) (H:AN):Prop:=
 ∀ (F:Fr) (g:G) (a:Act) (w:World) (R:Exit→Act→World→Prop),A2 g ρ a→a.tmps.size=N→Ak F g H w→
  (∀ e g' ρ' H' a' w',g.le g'→A2 g' ρ' a'→a'.tmps.size=N→a'.defers=a.defers→Ak F g' H' w'→Q e ρ' H'→R e a' w')→c.wp P R a w
def AG (P:Program) (o:Oper) (ρ:AZ) (H:AN) (x:AV):Prop:=
 ∀ (F:Fr) (g:G) (a:Act) (w:World),A2 g ρ a→Ak F g H w→
  ∃ v,V g x v∧∀ w',Below w.heap.size w w'→o.quietAt P a (Below w.heap.size w) w' v
section
variable {P:Program} {N:Nat} {ops:Array Oper} {o:Oper} {rest:List Oper} {K:AZ→AN→Prop} {ρ ρ':AZ} {H H':AN} {x:AV}
theorem CD (a:Act) (d:Option Nat) (v:Value):(a.put d v).tmps.size=a.tmps.size:=by cases d<;>simp[Act.put]
theorem BV (a:Act) (d:Option Nat) (v:Value):(a.put d v).defers=a.defers:=by cases d<;>rfl
theorem AO.nil (hs:Cs ρ' ρ) (hH:BS H' H) (hk:K ρ' H'):AO P N ops [] K ρ H:=
 fun F g a w Q h1 h2 h3 h4=>h4 g ρ' H' a w (.refl g) (hs.sat h1) h2 rfl (h3.sub hH) hk
theorem AO.weak (hs:Cs ρ' ρ) (hH:BS H' H) (h:AO P N ops rest K ρ' H'):AO P N ops rest K ρ H:=
 fun F g a w Q h1 h2 h3 h4=>h F g a w Q (hs.sat h1) h2 (h3.sub hH) h4
theorem Bf (h:o.guard=none) (t:Nat→Option Bool):Region.wanted o t=true:=by simp[Region.wanted,h]
theorem B3 {j:Nat} {want b:Bool} {d:Nat} {g:G} {a:Act} (hg:o.guard=some (j,want)) (hd:(ops[j]?).bind (·.dst)=some d) (hb:ρ.lookup d=some (.fl (.bool b))) (s:A2 g ρ a):
 Region.wanted o (yielded ops a.tmps)=(b==want):=by
 have hv:a.tmps.getD d undef=.bool b:=s d _ hb;have:a.tmps[d]? =some (.bool b):=by
  rcases Nat.lt_or_ge d a.tmps.size with h|h
  ·simp[h]at hv⊢;exact hv
  ·simp[Array.getElem?_eq_none h,undef]at hv
 simp[Region.wanted,hg,yielded,hd,this]
theorem AO.calm_w (hw:∀ g a,A2 g ρ a→Region.wanted o (yielded ops a.tmps)=true) (d:Nat) (hd:o.dst=some d) (hN:d<N) (x:AV) (hc:AG P o ρ H x) (h:AO P N ops rest K ((d,x)::ρ) H):AO P N ops (o::rest) K ρ H:=by
 intro F g a w Q h1 h2 h3 h4;unfold wpList;rw[if_pos (hw g a h1)];left;obtain⟨v,hv,hq⟩:=hc F g a w h1 h3;refine Oper.wp_of_quiet (C:=Below w.heap.size w) (K:=fun a'=>a'=a.put o.dst v) (Below.refl _ _) ?_ ⟨v,hq,rfl⟩;rintro a' w' hb rfl;refine h F g _ w' Q (by rw[hd];exact h1.put hv (by omega)) (by rw[CD];exact h2) (h3.of_below hb) ?_;intro g' ρ' H' a' w2 k1 k2 k3 k4 k5 k6;exact h4 g' ρ' H' a' w2 k1 k2 k3 (by rw[k4,BV]) k5 k6
theorem AO.calm (hg:o.guard=none) (d:Nat) (hd:o.dst=some d) (hN:d<N) (x:AV) (hc:AG P o ρ H x) (h:AO P N ops rest K ((d,x)::ρ) H):AO P N ops (o::rest) K ρ H:=
 AO.calm_w (fun _ _ _=>Bf hg _) d hd hN x hc h
theorem AO.calmG (j:Nat) (b:Bool) (e:Nat) (hg:o.guard=some (j,b)) (he:(ops[j]?).bind (·.dst)=some e) (hb:ρ.lookup e=some (.fl (.bool b)))
 (d:Nat) (hd:o.dst=some d) (hN:d<N) (x:AV) (hc:AG P o ρ H x) (h:AO P N ops rest K ((d,x)::ρ) H):AO P N ops (o::rest) K ρ H:=
 AO.calm_w (fun _ _ s=>by rw[B3 hg he hb s];simp) d hd hN x hc h
theorem AO.skipG (j:Nat) (b:Bool) (e:Nat) (hg:o.guard=some (j, !b)) (he:(ops[j]?).bind (·.dst)=some e) (hb:ρ.lookup e=some (.fl (.bool b)))
 (d:Nat) (hd:o.dst=some d) (hN:d<N) (h:AO P N ops rest K ((d,.fl undef)::ρ) H):AO P N ops (o::rest) K ρ H:=by
 intro F g a w Q h1 h2 h3 h4;unfold wpList;rw[if_neg (by rw[B3 hg he hb h1];cases b<;>simp)];refine h F g _ w Q (by rw[hd];exact h1.put rfl (by omega)) (by rw[CD];exact h2) h3 ?_;intro g' ρ' H' a' w2 k1 k2 k3 k4 k5 k6;exact h4 g' ρ' H' a' w2 k1 k2 k3 (by rw[k4,BV]) k5 k6
def AQ (P:Program) (N:Nat) (ops:Array Oper) (rest:List Oper) (K:AZ→Prop) (ρ:AZ) (H:AN):Prop:=
 ∀ (F:Fr) (g:G) (a:Act) (w:World) (Q:Act→Prop),A2 g ρ a→a.tmps.size=N→Ak F g H w→
  (∀ ρ' a',A2 g ρ' a'→a'.tmps.size=N→a'.defers=a.defers→K ρ'→Q a')→wpQuiet P ops (Below w.heap.size w) Q rest a
variable {KQ:AZ→Prop}
theorem AQ.nil (hs:Cs ρ' ρ) (hk:KQ ρ'):AQ P N ops [] KQ ρ H:=fun F g a w Q h1 h2 h3 h4=>h4 ρ' a (hs.sat h1) h2 rfl hk
theorem AQ.calm_w (hw:∀ g a,A2 g ρ a→Region.wanted o (yielded ops a.tmps)=true) (d:Nat) (hd:o.dst=some d) (hN:d<N) (x:AV) (hc:AG P o ρ H x) (h:AQ P N ops rest KQ ((d,x)::ρ) H):AQ P N ops (o::rest) KQ ρ H:=by
 intro F g a w Q h1 h2 h3 h4;unfold wpQuiet;rw[if_pos (hw g a h1)];obtain⟨v,hv,hq⟩:=hc F g a w h1 h3;refine⟨v,hq,?_⟩;refine h F g _ w Q (by rw[hd];exact h1.put hv (by omega)) (by rw[CD];exact h2) h3 ?_;intro ρ' a' k2 k3 k4 k6;exact h4 ρ' a' k2 k3 (by rw[k4,BV]) k6
theorem AQ.calm (hg:o.guard=none) (d:Nat) (hd:o.dst=some d) (hN:d<N) (x:AV) (hc:AG P o ρ H x) (h:AQ P N ops rest KQ ((d,x)::ρ) H):AQ P N ops (o::rest) KQ ρ H:=
 AQ.calm_w (fun _ _ _=>Bf hg _) d hd hN x hc h
theorem AQ.calmG (j:Nat) (b:Bool) (e:Nat) (hg:o.guard=some (j,b)) (he:(ops[j]?).bind (·.dst)=some e) (hb:ρ.lookup e=some (.fl (.bool b)))
 (d:Nat) (hd:o.dst=some d) (hN:d<N) (x:AV) (hc:AG P o ρ H x) (h:AQ P N ops rest KQ ((d,x)::ρ) H):AQ P N ops (o::rest) KQ ρ H:=
 AQ.calm_w (fun _ _ s=>by rw[B3 hg he hb s];simp) d hd hN x hc h
theorem AQ.skipG (j:Nat) (b:Bool) (e:Nat) (hg:o.guard=some (j, !b)) (he:(ops[j]?).bind (·.dst)=some e) (hb:ρ.lookup e=some (.fl (.bool b)))
 (d:Nat) (hd:o.dst=some d) (hN:d<N) (h:AQ P N ops rest KQ ((d,.fl undef)::ρ) H):AQ P N ops (o::rest) KQ ρ H:=by
 intro F g a w Q h1 h2 h3 h4;unfold wpQuiet;rw[if_neg (by rw[B3 hg he hb h1];cases b<;>simp)];refine h F g _ w Q (by rw[hd];exact h1.put rfl (by omega)) (by rw[CD];exact h2) h3 ?_;intro ρ' a' k2 k3 k4 k6;exact h4 ρ' a' k2 k3 (by rw[k4,BV]) k6
end
def Ml (K:AZ→AN→Prop) (Q:Exit→AZ→AN→Prop):Exit→AZ→AN→Prop
 | .normal,ρ,H=>K ρ H
 | e,ρ,H=>Q e ρ H
def Id (id:Nat) (Q:Exit→AZ→AN→Prop):Exit→AZ→AN→Prop
 | .exit id',ρ,H=>if id'=id then Q .normal ρ H else Q (.exit id') ρ H
 | e,ρ,H=>Q e ρ H
section
variable {P:Program} {N:Nat} {Q:Exit→AZ→AN→Prop} {ρ ρ':AZ} {H H':AN} {c c':Code}
theorem AW.weak (hs:Cs ρ' ρ) (hH:BS H' H) (h:AW P N c Q ρ' H'):AW P N c Q ρ H:=
 fun F g a w R h1 h2 h3 h4=>h F g a w R (hs.sat h1) h2 (h3.sub hH) h4
theorem AW.skip (hs:Cs ρ' ρ) (hH:BS H' H) (h:Q .normal ρ' H'):AW P N .skip Q ρ H:=
 fun F g a w R h1 h2 h3 h4=>wp_skip (h4 _ g ρ' H' a w (.refl g) (hs.sat h1) h2 rfl (h3.sub hH) h)
theorem AW.exit {id:Nat} (hs:Cs ρ' ρ) (hH:BS H' H) (h:Q (.exit id) ρ' H'):AW P N (.exit id) Q ρ H:=
 fun F g a w R h1 h2 h3 h4=>wp_exit (h4 _ g ρ' H' a w (.refl g) (hs.sat h1) h2 rfl (h3.sub hH) h)
theorem AW.ret (hs:Cs ρ' ρ) (hH:BS H' H) (h:Q .ret ρ' H'):AW P N .ret Q ρ H:=
 fun F g a w R h1 h2 h3 h4=>wp_ret (h4 _ g ρ' H' a w (.refl g) (hs.sat h1) h2 rfl (h3.sub hH) h)
theorem AW.seq (h:AW P N c (Ml (AW P N c' Q) Q) ρ H):AW P N (.seq c c') Q ρ H:=by
 intro F g a w R h1 h2 h3 h4;refine wp_seq (h F g a w _ h1 h2 h3 ?_);intro e g' ρ' H' a' w' k1 k2 k3 k4 k5 k6
 cases e with
 | normal=>exact k6 F g' a' w' R k2 k3 k5 fun e g2 ρ2 H2 a2 w2 j1 j2 j3 j4 j5 j6=>h4 e g2 ρ2 H2 a2 w2 (k1.trans j1) j2 j3 (j4.trans k4) j5 j6
 | _=>exact h4 _ g' ρ' H' a' w' k1 k2 k3 k4 k5 k6
theorem AW.seq_mid (M:AZ→AN→Prop) (h:AW P N c (Ml M Q) ρ H) (h':∀ ρ' H',M ρ' H'→AW P N c' Q ρ' H'):AW P N (.seq c c') Q ρ H:=
 AW.seq fun F g a w R h1 h2 h3 h4=>h F g a w R h1 h2 h3 fun e g' ρ' H' a' w' k1 k2 k3 k4 k5 k6=>h4 e g' ρ' H' a' w' k1 k2 k3 k4 k5 (by
  cases e with
  | normal=>exact h' _ _ k6
  | _=>exact k6)
theorem AW.block {id:Nat} (h:AW P N c (Id id Q) ρ H):AW P N (.block id c) Q ρ H:=by
 intro F g a w R h1 h2 h3 h4;refine wp_block (h F g a w _ h1 h2 h3 ?_);intro e g' ρ' H' a' w' k1 k2 k3 k4 k5 k6
 cases e with
 | exit id'=>
   simp only[Id]at k6;simp only[Exit.inBlock];by_cases h:id'=id
   ·rw[if_pos h]at k6⊢;exact h4 _ g' ρ' H' a' w' k1 k2 k3 k4 k5 k6
   ·rw[if_neg h]at k6⊢;exact h4 _ g' ρ' H' a' w' k1 k2 k3 k4 k5 k6
 | _=>exact h4 _ g' ρ' H' a' w' k1 k2 k3 k4 k5 k6
theorem AW.cond {x:Operand} (b:Bool) (hx:AZ.ev ρ x=some (.fl (.bool b))) (ht:b=true→AW P N c Q ρ H) (hf:b=false→AW P N c' Q ρ H):AW P N (.cond x c c') Q ρ H:=by
 intro F g a w R h1 h2 h3 h4;have he:a.eval x=.bool b:=h1.ev hx;exact wp_cond_split he (fun hb=>ht hb F g a w R h1 h2 h3 h4) (fun hb=>hf hb F g a w R h1 h2 h3 h4)
theorem AW.reg {id:Nat} {l:List Oper} (h:AO P N l.toArray l (Q .normal) ρ H):AW P N (.region id l.toArray false) Q ρ H:=
 fun F g a w R h1 h2 h3 h4=>wp_region_lit (h F g a w R h1 h2 h3 fun g' ρ' H' a' w' k1 k2 k3 k4 k5 k6=>h4 _ g' ρ' H' a' w' k1 k2 k3 k4 k5 k6)
theorem AW.regQ {id:Nat} {l:List Oper} (hm:P.follows .mixedOrders=true) (hB:Region.lexB .any l.toArray=true) (h:AQ P N l.toArray l (fun ρ'=>Q .normal ρ' H) ρ H):AW P N (.region id l.toArray true) Q ρ H:=by
 intro F g a w R h1 h2 h3 h4;refine wp_region_quiet (C:=Below w.heap.size w) hm hB (Below.refl _ _).drew ?_;refine h F g a w _ h1 h2 h3 ?_;intro ρ' a' k1 k2 k3 k4 w' hb;exact h4 _ g ρ' H a' w' (.refl g) k1 k2 k3 (h3.of_below hb) k4
theorem AW.loop (I:Nat→AZ→AN→Prop) (n:Nat) (h0:I n ρ H) (hr:∀ k ρ H,I k ρ H→AW P N c (Ml (fun ρ' H'=>∃ k',k'<k∧I k' ρ' H') Q) ρ H):AW P N (.loop c) Q ρ H:=by
 intro F g a w R h1 h2 h3 h4;refine wp_loop_ghost (fun k a' w'=>∃ g' ρ' H',g.le g'∧A2 g' ρ' a'∧a'.tmps.size=N∧a'.defers=a.defers∧Ak F g' H' w'∧I k ρ' H') n ⟨g,ρ,H,.refl g,h1,h2,rfl,h3,h0⟩ ?_;rintro k a1 w1 ⟨g1,ρ1,H1,k1,k2,k3,k4,k5,k6⟩;refine hr k ρ1 H1 k6 F g1 a1 w1 _ k2 k3 k5 ?_;intro e g' ρ' H' a' w' j1 j2 j3 j4 j5 j6
 cases e with
 | normal=>
   obtain⟨k',hk,hI⟩:=j6;exact⟨k',hk,g',ρ',H',k1.trans j1,j2,j3,j4.trans k4,j5,hI⟩
 | _=>exact h4 _ g' ρ' H' a' w' (k1.trans j1) j2 j3 (j4.trans k4) j5 j6
end
def AM (P:Program) (f:FuncId) (args:List AV) (r:AV):Prop:=
 ∀ (g:G) (cargs:List Value) (w:World),Bs (V1 g) args cargs→(∀ b o y,g.ro b o=some y→w.cell? ⟨b,o,none⟩=some y)→JO w→
  Calls P f cargs.toArray w fun e w'=>∃ v g',e=.returned v∧g.le g'∧V g' r v∧(∀ b o y,g'.ro b o=some y→w'.cell? ⟨b,o,none⟩=some y)∧
   (∀ b o y,b<w.heap.size→g'.ro b o=some y→g.ro b o=some y)∧Below w.heap.size w w'
def Al (P:Program) (f:FuncId) (args:List AV) (H:AN) (Q:AV→AN→Prop):Prop:=
 ∀ (F:Fr) (g:G) (cargs:List Value) (w:World),Bs (V1 g) args cargs→Ak F g H w→
  Calls P f cargs.toArray w fun e w'=>∃ v g' H' r,e=.returned v∧g.le g'∧V g' r v∧Ak F g' H' w'∧Q r H'
def AV.flats:List AV→Option (List Value)
 | []=>some []
 | .fl v::r=>(AV.flats r).map (v:: ·)
 | _::_=>none
def AV.det:AV→Option Value
 | .fl v=>some v
 | .tup vs=>(AV.flats vs).map fun l=>.tuple l.toArray
 | _=>none
theorem AV.flats_eq {g:G} {vs:List AV} {l m:List Value} (hl:Bs (V1 g) vs l) (hm:AV.flats vs=some m):l=m:=by
 induction hl generalizing m with
 | nil=>cases hm;rfl
 | @cons a b as bs h1 h2 ih=>
   cases a with
   | fl v=>
     simp only[AV.flats,Option.map_eq_some_iff]at hm;obtain⟨m',hm',rfl⟩:=hm;rw[ih hm'];have e:b=v:=h1;rw[e]
   | _=>cases hm
theorem AV.det_eq {g:G} {x:AV} {u v:Value} (hx:x.det=some u) (hv:V g x v):v=u:=by
 cases x with
 | fl v'=>cases hx;exact hv
 | tup vs=>
   obtain⟨l,rfl,hl⟩:=hv;simp only[AV.det,Option.map_eq_some_iff]at hx;obtain⟨m,hm,rfl⟩:=hx;rw[AV.flats_eq hl hm]
 | _=>cases hx
#print axioms AW.loop
def AH (n:Int):Int:=IntKind.i64.wrap n
def w8 (n:Int):Int:=IntKind.u8.wrap n
def u64 (n:Int):Int:=IntKind.u64.wrap n
theorem RY (n:Int):AH n=(n+9223372036854775808)%18446744073709551616-9223372036854775808:=IntKind.wrap_i64 n
theorem Qk (n:Int):w8 n=n%256:=IntKind.wrap_u8 n
theorem FM (n:Int):u64 n=n%18446744073709551616:=by simp[u64,IntKind.wrap,IntKind.bits,IntKind.signed]
theorem Ax {n:Int} (h: -9223372036854775808≤n) (h':n≤9223372036854775807):AH n=n:=by rw[RY];omega
theorem G7 {n:Int} (h:0≤n) (h':n≤255):w8 n=n:=by rw[Qk];omega
def Nh (op:BinOp) (k:IntKind) (m n:Int):Option Value:=
 match op with
 | .add=>some (.int k (k.wrap (m+n)))
 | .sub=>some (.int k (k.wrap (m-n)))
 | .mul=>some (.int k (k.wrap (m*n)))
 | .and| .or| .xor| .andNot=>some (.int k (bits op k m n))
 | .eql=>some (.bool (decide (m=n)))
 | .neq=>some (.bool (decide (m≠n)))
 | .lss=>some (.bool (decide (m<n)))
 | .leq=>some (.bool (decide (m≤n)))
 | .gtr=>some (.bool (decide (n<m)))
 | .geq=>some (.bool (decide (n≤m)))
 | _=>none
theorem Hz (a b:ByteArray):(a.toList==b.toList)=decide (a=b):=by
 rw[Bool.eq_iff_iff,beq_iff_eq,decide_eq_true_iff];constructor
 ·intro h;rw[ByteArray.toList_eq,ByteArray.toList_eq]at h;apply ByteArray.ext;apply Array.ext';simpa using h
 ·intro h;rw[h]
def Ov (op:BinOp) (a b:ByteArray):Option Value:=
 match op with
 | .eql=>some (.bool (decide (a=b)))
 | .neq=>some (.bool (decide (a≠b)))
 | .lss=>some (.bool (Op.bytesLess a.toList b.toList))
 | .leq=>some (.bool (Op.bytesLess a.toList b.toList||a.toList==b.toList))
 | .gtr=>some (.bool !(Op.bytesLess a.toList b.toList||a.toList==b.toList))
 | .geq=>some (.bool !(Op.bytesLess a.toList b.toList))
 | _=>none
def TZ (g:G) (w:World):Prop:=∀ b o y,g.ro b o=some y→w.cell? ⟨b,o,none⟩=some y
section
variable {P:Program} {o:Oper} {ρ:AZ} {H:AN} {x:AV}
theorem AG.of_read (h:∀ g a,A2 g ρ a→∃ v,V g x v∧∀ w,TZ g w→(execOp a.eval o).run P w=.ok (.value v) w):AG P o ρ H x:=
 fun F g a w h1 h3=>let⟨v,hv,hr⟩:=h g a h1;⟨v,hv,fun w' hb=>by unfold Oper.quietAt;rw[hr w' (Gw h3.ro hb)];exact⟨rfl,rfl⟩⟩
theorem AG.of_flat {v:Value} (h:∀ g a,A2 g ρ a→∀ w,(execOp a.eval o).run P w=.ok (.value v) w):AG P o ρ H (.fl v):=
 AG.of_read fun g a s=>⟨v,rfl,fun w _=>h g a s w⟩
theorem AG.move {y:Operand} (ho:o.op=.move y) (hy:AZ.ev ρ y=some x):AG P o ρ H x:=
 AG.of_read fun g a s=>⟨a.eval y,s.ev hy,fun w _=>by simp[execOp,ho]⟩
theorem AG.assign {y:Operand} (ho:o.op=.assign y) (hy:AZ.ev ρ y=some x):AG P o ρ H x:=
 AG.of_read fun g a s=>⟨a.eval y,s.ev hy,fun w _=>by simp[execOp,ho]⟩
theorem AG.pickT {c y z:Operand} (ho:o.op=.pick c y z) (hc:AZ.ev ρ c=some (.fl (.bool true))) (hy:AZ.ev ρ y=some x):AG P o ρ H x:=
 AG.of_read fun g a s=>⟨a.eval y,s.ev hy,fun w _=>by
  have e:a.eval c=.bool true:=s.ev hc
  simp[execOp,ho,e,asBool]⟩
theorem AG.pickF {c y z:Operand} (ho:o.op=.pick c y z) (hc:AZ.ev ρ c=some (.fl (.bool false))) (hy:AZ.ev ρ z=some x):AG P o ρ H x:=
 AG.of_read fun g a s=>⟨a.eval z,s.ev hy,fun w _=>by
  have e:a.eval c=.bool false:=s.ev hc
  simp[execOp,ho,e,asBool]⟩
theorem AG.nilCheck {y:Operand} {n off:Nat} (ho:o.op=.nilCheck y) (hy:AZ.ev ρ y=some (.ptr n off)):AG P o ρ H (.ptr n off):=
 AG.of_read fun g a s=>⟨a.eval y,s.ev hy,fun w _=>by
  have e:AU g (.ptr n off) [a.eval y]:=s.ev hy;generalize hv:a.eval y=v at e;cases e
  simp[execOp,ho,hv]⟩
theorem AG.int {op:BinOp} {T T':TypeId} {y z:Operand} {k:IntKind} {m n:Int} {r:Value} (ho:o.op=.binOp op T y z T') (hy:AZ.ev ρ y=some (.fl (.int k m))) (hz:AZ.ev ρ z=some (.fl (.int k n)))
 (hr:Nh op k m n=some r):AG P o ρ H (.fl r):=
 AG.of_flat fun g a s w=>by
  have e1:a.eval y=.int k m:=s.ev hy;have e2:a.eval z=.int k n:=s.ev hz;cases op<;>simp only[Nh,Option.some.injEq,reduceCtorEq]at hr<;>subst hr<;>
   simp[execOp,ho,e1,e2,eqGuard,binOp,Op.intArith,Op.intBits,Op.intCmp,bits]<;>first|rfl| (by_cases h:m=n<;>simp[h])
theorem AG.quo {T T':TypeId} {y z:Operand} {k:IntKind} {m n:Int} (ho:o.op=.binOp .quo T y z T') (hy:AZ.ev ρ y=some (.fl (.int k m))) (hz:AZ.ev ρ z=some (.fl (.int k n)))
 (hn:n≠0):AG P o ρ H (.fl (.int k (k.wrap (m.tdiv n)))):=
 AG.of_flat fun g a s w=>by
  have e1:a.eval y=.int k m:=s.ev hy;have e2:a.eval z=.int k n:=s.ev hz;simp[execOp,ho,e1,e2,eqGuard,binOp,Op.intDiv,hn]
theorem AG.rem {T T':TypeId} {y z:Operand} {k:IntKind} {m n:Int} (ho:o.op=.binOp .rem T y z T') (hy:AZ.ev ρ y=some (.fl (.int k m))) (hz:AZ.ev ρ z=some (.fl (.int k n)))
 (hn:n≠0):AG P o ρ H (.fl (.int k (m.tmod n))):=
 AG.of_flat fun g a s w=>by
  have e1:a.eval y=.int k m:=s.ev hy;have e2:a.eval z=.int k n:=s.ev hz;simp[execOp,ho,e1,e2,eqGuard,binOp,Op.intDiv,hn]
theorem AG.shl {T T':TypeId} {y z:Operand} {k k':IntKind} {m n:Int} (ho:o.op=.binOp .shl T y z T') (hy:AZ.ev ρ y=some (.fl (.int k m))) (hz:AZ.ev ρ z=some (.fl (.int k' n)))
 (hn:0≤n):AG P o ρ H (.fl (.int k (k.wrap (m*2 ^ (min n.toNat k.bits))))):=
 AG.of_flat fun g a s w=>by
  have e1:a.eval y=.int k m:=s.ev hy;have e2:a.eval z=.int k' n:=s.ev hz;simp[execOp,ho,e1,e2,eqGuard,binOp,Op.shift,show ¬ n<0 by omega]
theorem AG.shr {T T':TypeId} {y z:Operand} {k k':IntKind} {m n:Int} (ho:o.op=.binOp .shr T y z T') (hy:AZ.ev ρ y=some (.fl (.int k m))) (hz:AZ.ev ρ z=some (.fl (.int k' n)))
 (hn:0≤n):AG P o ρ H (.fl (.int k (m.fdiv (2 ^ (min n.toNat k.bits))))):=
 AG.of_flat fun g a s w=>by
  have e1:a.eval y=.int k m:=s.ev hy;have e2:a.eval z=.int k' n:=s.ev hz;simp[execOp,ho,e1,e2,eqGuard,binOp,Op.shift,show ¬ n<0 by omega]
theorem AG.str {op:BinOp} {T T':TypeId} {y z:Operand} {m n:ByteArray} {r:Value} (ho:o.op=.binOp op T y z T') (hy:AZ.ev ρ y=some (.fl (.string m))) (hz:AZ.ev ρ z=some (.fl (.string n)))
 (hr:Ov op m n=some r):AG P o ρ H (.fl r):=
 AG.of_flat fun g a s w=>by
  have e1:a.eval y=.string m:=s.ev hy;have e2:a.eval z=.string n:=s.ev hz;cases op<;>simp only[Ov,Option.some.injEq,reduceCtorEq]at hr<;>subst hr<;>
   simp[execOp,ho,e1,e2,eqGuard,binOp,Op.stringOp,Hz]
theorem AG.cat {T T':TypeId} {y z:Operand} {m n:ByteArray} (ho:o.op=.binOp .add T y z T') (hy:AZ.ev ρ y=some (.fl (.string m))) (hz:AZ.ev ρ z=some (.fl (.string n)))
 (hn:m.size+n.size≤9223372036854775807):AG P o ρ H (.fl (.string (m++n))):=
 AG.of_flat fun g a s w=>by
  have e1:a.eval y=.string m:=s.ev hy;have e2:a.eval z=.string n:=s.ev hz;have h3:¬ ((m.size:Int)+n.size>IntKind.i64.max):=by rw[show IntKind.i64.max=9223372036854775807 from rfl];omega
  simp[execOp,ho,e1,e2,eqGuard,binOp,Op.stringOp,show IntKind.i64.max=9223372036854775807 from rfl];omega
theorem AG.boolEq {T T':TypeId} {y z:Operand} {m n:Bool} (ho:o.op=.binOp .eql T y z T') (hy:AZ.ev ρ y=some (.fl (.bool m))) (hz:AZ.ev ρ z=some (.fl (.bool n)))
 (ht:P.underlying T=some .bool):AG P o ρ H (.fl (.bool (m==n))):=
 AG.of_flat fun g a s w=>by
  have e1:a.eval y=.bool m:=s.ev hy;have e2:a.eval z=.bool n:=s.ev hz;simp[execOp,ho,e1,e2,eqGuard,binOp,run_equal_bool (P:=P) w T m n ht]
theorem AG.not {T:TypeId} {y:Operand} {m:Bool} (ho:o.op=.unOp .not T y) (hy:AZ.ev ρ y=some (.fl (.bool m))):AG P o ρ H (.fl (.bool (!m))):=
 AG.of_flat fun g a s w=>by
  have e1:a.eval y=.bool m:=s.ev hy;simp[execOp,ho,e1,Op.unary]
theorem AG.neg {T:TypeId} {y:Operand} {k:IntKind} {m:Int} (ho:o.op=.unOp .neg T y) (hy:AZ.ev ρ y=some (.fl (.int k m))):AG P o ρ H (.fl (.int k (k.wrap (0-m)))):=
 AG.of_flat fun g a s w=>by
  have e1:a.eval y=.int k m:=s.ev hy;simp[execOp,ho,e1,Op.unary,Op.intArith]
theorem AG.conv {S D:TypeId} {y:Operand} {k k':IntKind} {m:Int} {d:TypeDesc} (ho:o.op=.convert S D y) (hy:AZ.ev ρ y=some (.fl (.int k' m)))
 (hs:P.underlying S=some d) (hd:P.underlying D=some (.int k)):AG P o ρ H (.fl (.int k (k.wrap m))):=
 AG.of_flat fun g a s w=>by
  have e1:a.eval y=.int k' m:=s.ev hy;simp[execOp,ho,e1,convert,run_underlying hs,run_underlying hd,Conv.intToInt]
theorem AG.extract {y:Operand} {i:Nat} {vs:List AV} (ho:o.op=.extract y i) (hy:AZ.ev ρ y=some (.tup vs)) (hi:vs[i]? =some x):AG P o ρ H x:=
 AG.of_read fun g a s=>by
  obtain⟨l,e,hl⟩:=(s.ev hy:V g (.tup vs) (a.eval y));obtain⟨v,h1,h2⟩:=hl.get hi;refine⟨v,by cases x<;>first|exact h2|exact h2.elim,fun w _=>?_⟩;simp[execOp,ho,e,Instr.extract,h1]
theorem AG.lenStr {T:TypeId} {y:Operand} {s:ByteArray} (ho:o.op=.call {callee:=.builtin .len,args:= #[y],argTypes:= #[T]}) (hy:AZ.ev ρ y=some (.fl (.string s)))
 (ht:P.underlying T=some .string):AG P o ρ H (.fl (.int .i64 (s.size:Int))):=
 AG.of_flat fun g a s' w=>by
  have e1:a.eval y=.string s:=s'.ev hy;simp[execOp,ho,e1,resolve,invoke,builtin,Builtin.len_,run_underlying ht,goInt]
theorem AG.lenFz {T E:TypeId} {y:Operand} {z:Nat} {els:List AV} (ho:o.op=.call {callee:=.builtin .len,args:= #[y],argTypes:= #[T]}) (hy:AZ.ev ρ y=some (.fz z els))
 (ht:P.underlying T=some (.slice E)):AG P o ρ H (.fl (.int .i64 (els.length:Int))):=
 AG.of_flat fun g a s' w=>by
  have e1:AU g (.fz z els) [a.eval y]:=s'.ev hy;generalize hv:a.eval y=v at e1;cases e1<;>simp[execOp,ho,hv,resolve,invoke,builtin,Builtin.len_,run_underlying ht,goInt]
theorem AG.lenOwn {T E:TypeId} {y:Operand} {n off len:Nat} (ho:o.op=.call {callee:=.builtin .len,args:= #[y],argTypes:= #[T]}) (hy:AZ.ev ρ y=some (.own n off len))
 (ht:P.underlying T=some (.slice E)):AG P o ρ H (.fl (.int .i64 (len:Int))):=
 AG.of_flat fun g a s' w=>by
  have e1:AU g (.own n off len) [a.eval y]:=s'.ev hy;generalize hv:a.eval y=v at e1;cases e1<;>simp[execOp,ho,hv,resolve,invoke,builtin,Builtin.len_,run_underlying ht,goInt]
end
def Fa:List (Nat×AV)→Nat
 | []=>0
 | (k,_)::r=>k+Fa r
def AV.size:AV→Nat
 | .st cs=>Fa cs
 | .ar z cs=>cs.length*z
 | _=>1
theorem AU.st_length {g:G}:∀ {cs:List (Nat×AV)} {l:List Value},AU g (.st cs) l→l.length=Fa cs:=by
 intro cs
 induction cs with
 | nil=>intro l s;cases s;rfl
 | cons c cs ih=>
   intro l s
   cases s with
   | stCons a b d=>simp[Fa,b,ih d]
theorem AU.length {g:G} {x:AV} {l:List Value} (s:AU g x l):l.length=x.size:=by
 cases x with
 | st cs=>exact s.st_length
 | ar z cs=>exact s.ar_length
 | tup vs=>cases s
 | _=>cases s<;>rfl
def AX (P:Program) (T:TypeId):Option Nat:=(P.info? T).map (·.size)
def Ao (P:Program) (T:TypeId):Option Bool:=(P.underlying T).map fun d=>match d with | .struct _| .array _ _=>true|_=>false
section
variable {P:Program} {w:World}
theorem Am {T:TypeId} {n:Nat} (h:AX P T=some n):(sizeOf T).run P w=.ok n w:=by
 simp only[AX,Option.map_eq_some_iff]at h;obtain⟨i,hi,rfl⟩:=h;simp[sizeOf,run_typeInfo (P:=P) w hi]
theorem IM {T:TypeId} {b:Bool} (h:Ao P T=some b):(isAgg T).run P w=.ok b w:=by
 simp only[Ao,Option.map_eq_some_iff]at h;obtain⟨d,hd,rfl⟩:=h;simp only[isAgg,Sem.run_bind,run_underlying hd,Result.andThen_ok];cases d<;>simp
end
def asValue (agg:Bool) (l:List Value):Value:=if agg then .agg l.toArray else l.headD undef
theorem V1.asValue {g:G} {x:AV} {l:List Value} (s:AU g x l):V1 g x (asValue x.isAgg l):=by
 cases h:x.isAgg with
 | true=>exact V1.of_sim_agg s h
 | false=>obtain⟨v,rfl,hv,_⟩:=V1.of_sim_one s h;exact hv
theorem V1.toV {g:G} {x:AV} {v:Value} (h:V1 g x v):V g x v:=by
 cases x<;>first|exact h|exact h.elim
section
variable {P:Program} {o:Oper} {ρ:AZ} {H:AN} {x:AV}
theorem Ek {g:G} {w:World} {T:TypeId} {b off:Nat} {l:List Value} (s:AU g x l) (h:∀ j y,l[j]? =some y→w.cell? ⟨b,off+j,none⟩=some y) (ha:Ao P T=some x.isAgg) (hz:AX P T=some x.size):
 (loadVar T ⟨b,off,none⟩).run P w=.ok (asValue x.isAgg l) w:=by
 simp only[loadVar,Sem.run_bind,IM ha,Result.andThen_ok]
 cases hx:x.isAgg with
 | true=>
   have:=run_loadCells_list (P:=P) w ⟨b,off,none⟩ l (fun j v hv=>by rw[Addr.add_lit];exact h j v hv);simp only[if_true,Sem.run_bind,Am hz,Result.andThen_ok, ←s.length,this,asValue];simp
 | false=>
   obtain⟨v,rfl,hv,_⟩:=V1.of_sim_one s hx;have:=h 0 v rfl;rw[Nat.add_zero]at this;simp[asValue,run_load,this]
theorem AG.loadRp {T:TypeId} {y:Operand} (ho:o.op=.load T y) (hy:AZ.ev ρ y=some (.rp x)) (ha:Ao P T=some x.isAgg) (hz:AX P T=some x.size):AG P o ρ H x:=
 AG.of_read fun g a s=>by
  have e1:AU g (.rp x) [a.eval y]:=s.ev hy;generalize hv:a.eval y=v at e1
  cases e1 with
  | @rp _ l b off sl hro=>
    refine⟨asValue x.isAgg l,(V1.asValue sl).toV,fun w hw=>?_⟩;simp[execOp,ho,hv,Instr.loadAt,Instr.sureAddr,Ek sl (fun j y h=>hw _ _ _ (hro j y h)) ha hz]
theorem Ak.at {F:Fr} {g:G} {w:World} (s:Ak F g H w) {i n off:Nat} {X:AV} {p:Dv} {b:Nat} (hi:H[i]? =some (n,.mem X)) (ht:At X off x) (hn:g.nm[n]? =some p) (hb:p.b=some b):
 ∃ m,AU g x m∧b<w.heap.size∧∀ j y,m[j]? =some y→w.cell? ⟨b,p.base+off+j,none⟩=some y:=by
 obtain⟨p',h1,h2,h3⟩:=s.obj n _ (List.mem_of_getElem? hi);obtain rfl:p'=p:=Option.some.inj (h1.symm.trans hn);have hlt:=h2.lt b hb;obtain⟨_,l,sl,r⟩:=h2;rcases r with⟨b',c,T,e1,e2,e3,e4,e5⟩|⟨e1,_⟩
 ·obtain rfl:b'=b:=Option.some.inj (e1.symm.trans hb);obtain⟨m,sm,hm⟩:=sl.at ht;refine⟨m,sm,hlt,fun j y hy=>?_⟩;rw[cell_of_row w b' _ c T (0,0) e2,Nat.add_assoc];exact e5 _ _ (hm j y hy)
 ·rw[e1]at hb;cases hb
theorem AG.load {T:TypeId} {y:Operand} {n off:Nat} {X:AV} (i:Nat) (ho:o.op=.load T y) (hy:AZ.ev ρ y=some (.ptr n off)) (hi:H[i]? =some (n,.mem X)) (ht:At X off x)
 (ha:Ao P T=some x.isAgg) (hz:AX P T=some x.size):AG P o ρ H x:=by
 intro F g a w s h3;have e1:AU g (.ptr n off) [a.eval y]:=s.ev hy;generalize hv:a.eval y=v at e1
 cases e1 with
 | @ptr _ _ p b hn hb=>
   obtain⟨m,sm,hlt,hm⟩:=h3.at hi ht hn hb;refine⟨asValue x.isAgg m,(V1.asValue sm).toV,fun w' hw=>?_⟩;have hm':∀ j y,m[j]? =some y→w'.cell? ⟨b,p.base+off+j,none⟩=some y:=fun j y hy=>by
    rw[hw.cell (p:=⟨b,p.base+off+j,none⟩) hlt];exact hm j y hy
   unfold Oper.quietAt;rw[show (execOp a.eval o).run P w'=.ok (.value (asValue x.isAgg m)) w' by simp[execOp,ho,hv,Instr.loadAt,Instr.sureAddr,Ek sm hm' ha hz]];exact⟨rfl,rfl⟩
theorem AG.fldPtr {S:TypeId} {y:Operand} {f n off:Nat} {fs:Array Field} {fd:Field} {k:Nat} (ho:o.op=.fieldAddr S y f) (hy:AZ.ev ρ y=some (.ptr n off))
 (hs:P.underlying S=some (.struct fs)) (hf:fs[f]? =some fd) (hk:AX P fd.type=some (k+1)) (d:Nat) (hd:off+fd.offset=d):AG P o ρ H (.ptr n d):=
 AG.of_read fun g a s=>by
  have e1:AU g (.ptr n off) [a.eval y]:=s.ev hy;generalize hv:a.eval y=v at e1
  cases e1 with
  | @ptr _ _ p b hn hb=>
    subst hd;refine⟨_,AU.ptr hn hb,fun w hw=>?_⟩;simp[execOp,ho,hv,Instr.fieldAt,run_underlying hs,hf,Instr.sureAddr,fieldPlace,Am hk,Addr.add_lit,Nat.add_assoc]
theorem AG.fldRp {S:TypeId} {y:Operand} {f:Nat} {X:AV} {fs:Array Field} {fd:Field} {k:Nat} (ho:o.op=.fieldAddr S y f) (hy:AZ.ev ρ y=some (.rp X))
 (hs:P.underlying S=some (.struct fs)) (hf:fs[f]? =some fd) (hk:AX P fd.type=some (k+1)) (ht:At X fd.offset x):AG P o ρ H (.rp x):=
 AG.of_read fun g a s=>by
  have e1:AU g (.rp X) [a.eval y]:=s.ev hy;generalize hv:a.eval y=v at e1
  cases e1 with
  | @rp _ l b off sl hro=>
    obtain⟨m,sm,hm⟩:=sl.at ht;refine⟨.pointer (some ⟨b,off+fd.offset,none⟩),AU.rp sm (fun j y h=>by rw[Nat.add_assoc];exact hro _ _ (hm j y h)),fun w hw=>?_⟩;simp[execOp,ho,hv,Instr.fieldAt,run_underlying hs,hf,Instr.sureAddr,fieldPlace,Am hk,Addr.add_lit]
theorem AG.idxFz {T E:TypeId} {y iy:Operand} {z:Nat} {els:List AV} {k:IntKind} {i:Int} (ho:o.op=.indexAddr T y iy) (hy:AZ.ev ρ y=some (.fz z els)) (hiy:AZ.ev ρ iy=some (.fl (.int k i)))
 (h0:0≤i) (hx:els[i.toNat]? =some x) (ht:P.underlying T=some (.slice E)) (hz:AX P E=some z):AG P o ρ H (.rp x):=
 AG.of_read fun g a s=>by
  have e1:AU g (.fz z els) [a.eval y]:=s.ev hy;have e2:a.eval iy=.int k i:=s.ev hiy;have hlt:i.toNat<els.length:=(List.getElem?_eq_some_iff.1 hx).1;generalize hv:a.eval y=v at e1
  cases e1 with
  | @fz _ _ l b off cap sl hro hc=>
    obtain⟨m,sm,hl,hm⟩:=sl.ar_get hx;refine⟨.pointer (some ⟨b,off+i.toNat*z,none⟩),AU.rp sm (fun j y h=>by rw[Nat.add_assoc];exact hro _ _ (hm j y h)),fun w hw=>?_⟩;simp[execOp,ho,hv,e2,Instr.indexAt,run_underlying ht,asIntOf,h0,show i<(els.length:Int)by omega,Am hz,Addr.add_lit]
  | fz0=>simp at hx
theorem AG.idxOwn {T E:TypeId} {y iy:Operand} {z n off len:Nat} {els:List AV} {k:IntKind} {i:Int} (j:Nat) (ho:o.op=.indexAddr T y iy) (hy:AZ.ev ρ y=some (.own n off len)) (hiy:AZ.ev ρ iy=some (.fl (.int k i)))
 (hH:H[j]? =some (n,.mem (.ar z els))) (h0:0≤i) (h1:i<(len:Int)) (ht:P.underlying T=some (.slice E)) (hz:AX P E=some z):AG P o ρ H (.ptr n ((off+i.toNat)*z)):=by
 intro F g a w s h3;have e1:AU g (.own n off len) [a.eval y]:=s.ev hy;have e2:a.eval iy=.int k i:=s.ev hiy;obtain⟨p',q1,q2,_⟩:=h3.obj n _ (List.mem_of_getElem? hH);have hez:z=p'.esz:=q2.1 z rfl;generalize hv:a.eval y=v at e1
 cases e1 with
 | @own _ _ _ p b hn hb hl=>
   obtain rfl:p'=p:=Option.some.inj (q1.symm.trans hn);refine⟨.pointer (some ⟨b,p'.base+off*p'.esz+i.toNat*z,none⟩),?_,fun w' hw=>?_⟩
   ·have e:p'.base+off*p'.esz+i.toNat*z=p'.base+(off+i.toNat)*z:=by rw[hez,Nat.add_mul];omega
    rw[e];exact AU.ptr hn hb
   ·unfold Oper.quietAt
    rw[show (execOp a.eval o).run P w'=.ok (.value (.pointer (some ⟨b,p'.base+off*p'.esz+i.toNat*z,none⟩))) w' by
     simp[execOp,ho,hv,e2,Instr.indexAt,run_underlying ht,asIntOf,h0,h1,Am hz,Addr.add_lit]]
    exact⟨rfl,rfl⟩
 | own0=>omega
theorem AG.idxPtr {T E:TypeId} {y iy:Operand} {L n off z:Nat} {k:IntKind} {i:Int} (ho:o.op=.indexAddr T y iy) (hy:AZ.ev ρ y=some (.ptr n off)) (hiy:AZ.ev ρ iy=some (.fl (.int k i)))
 (h0:0≤i) (h1:i<(L:Int)) (ht:P.underlying T=some (.array L E)) (hz:AX P E=some z):AG P o ρ H (.ptr n (off+i.toNat*z)):=
 AG.of_read fun g a s=>by
  have e1:AU g (.ptr n off) [a.eval y]:=s.ev hy;have e2:a.eval iy=.int k i:=s.ev hiy;generalize hv:a.eval y=v at e1
  cases e1 with
  | @ptr _ _ p b hn hb=>
    refine⟨.pointer (some ⟨b,p.base+(off+i.toNat*z),none⟩),AU.ptr hn hb,fun w hw=>?_⟩;simp[execOp,ho,hv,e2,Instr.indexAt,run_underlying ht,asIntOf,h0,h1,Am hz,Addr.add_lit,Instr.sureAddr,Nat.add_assoc]
def AF (s:ByteArray) (i:Int):Int:=if h:i.toNat<s.size then((s[i.toNat]'h).toNat:Int)else 0
theorem AG.idxStr {T:TypeId} {y iy:Operand} {s:ByteArray} {k:IntKind} {i:Int} (ho:o.op=.index T y iy) (hy:AZ.ev ρ y=some (.fl (.string s))) (hiy:AZ.ev ρ iy=some (.fl (.int k i)))
 (h0:0≤i) (h1:i<(s.size:Int)) (ht:P.underlying T=some .string):AG P o ρ H (.fl (.int .u8 (AF s i))):=
 AG.of_flat fun g a s' w=>by
  have e1:a.eval y=.string s:=s'.ev hy;have e2:a.eval iy=.int k i:=s'.ev hiy;have h2:i.toNat<s.size:=by omega
  simp[execOp,ho,e1,e2,Instr.index,run_underlying ht,asIntOf,h0,AF,h2,getElem?_pos]
theorem Fk {g:G} {w:World} {T:TypeId} {X:AV} {l:List Value} {off:Nat} (sl:AU g X l) (ht:At X off x) (ha:Ao P T=some x.isAgg) (hz:AX P T=some x.size):
 ∃ v,V1 g x v∧∀ w,(part T l.toArray off).run P w=.ok v w:=by
 obtain⟨m,sm,hm⟩:=sl.at ht;refine⟨asValue x.isAgg m,V1.asValue sm,fun w=>?_⟩;simp only[part,Sem.run_bind,IM ha,Result.andThen_ok]
 cases hx:x.isAgg with
 | true=>
   simp only[if_true,Sem.run_bind,Am hz,Result.andThen_ok,asValue,Sem.run_pure];have:(l.toArray.extract off (off+x.size))=m.toArray:=by
    apply Array.ext';apply List.ext_getElem?;intro j;have hml:=sm.length;simp only[List.extract_toArray,List.extract_eq_take_drop];by_cases hj:j<m.length
    ·have h1:=hm j _ (List.getElem?_eq_getElem hj);rw[List.getElem?_take_of_lt (by omega),List.getElem?_drop,h1,List.getElem?_eq_getElem hj]
    ·rw[List.getElem?_eq_none (by simp;omega),List.getElem?_eq_none (by omega)]
   rw[this]
 | false=>
   obtain⟨v,rfl,hv,_⟩:=V1.of_sim_one sm hx;have:=hm 0 v rfl;simp at this;simp[asValue,this]
end
section
variable {P:Program} {o:Oper} {ρ:AZ} {H:AN} {x:AV}
def FX (ρ:AZ):Option Operand→Option Int
 | none=>some 0
 | some y=>match AZ.ev ρ y with
   | some (.fl (.int _ i))=>some i
   | _=>none
def EF (ρ:AZ) (n:Nat):Option Operand→Option Int
 | none=>some n
 | some y=>match AZ.ev ρ y with
   | some (.fl (.int _ i))=>some i
   | _=>none
theorem Pn {g:G} {a:Act} (s:A2 g ρ a) {w:World} {lo:Option Operand} {l:Int} (h:FX ρ lo=some l) (y:Nat) (code:BoundsCode) (h0:0≤l) (h1:l≤y):
 (match lo.map a.eval with |some v=>Instr.sliceBound v y code|none=>pure 0:Sem Nat).run P w=.ok l.toNat w:=by
 cases lo with
 | none=>cases h;rfl
 | some t=>
   simp only[FX]at h;split at h
   ·rename_i k i he;cases h;have e:a.eval t=.int k l:=s.ev he;simp only[Option.map_some,e];exact run_sliceBound (P:=P) (w:=w) k l y code h0 h1
   ·cases h
theorem Nf {g:G} {a:Act} (s:A2 g ρ a) {w:World} {hi:Option Operand} {n:Nat} {l:Int} (h:EF ρ n hi=some l) (y:Nat) (code:BoundsCode) (h0:0≤l) (h1:l≤y):
 (match hi.map a.eval with |some v=>Instr.sliceBound v y code|none=>pure n:Sem Nat).run P w=.ok l.toNat w:=by
 cases hi with
 | none=>cases h;rfl
 | some t=>
   simp only[EF]at h;split at h
   ·rename_i k i he;cases h;have e:a.eval t=.int k l:=s.ev he;simp only[Option.map_some,e];exact run_sliceBound (P:=P) (w:=w) k l y code h0 h1
   ·cases h
theorem BZ {g:G} {a:Act} (s:A2 g ρ a) {w:World} {lo hi:Option Operand} {n cap:Nat} {isSlice:Bool} {l h:Int} (hl:FX ρ lo=some l) (hh:EF ρ n hi=some h)
 (h0:0≤l) (h1:l≤h) (h2:h≤cap):(Instr.sliceBounds isSlice n cap (lo.map a.eval) (hi.map a.eval) none).run P w=.ok (l.toNat,h.toNat,cap) w:=by
 have r1:=Pn (P:=P) (w:=w) s hl h.toNat .sliceB h0 (by omega);have r2:=Nf (P:=P) (w:=w) s hh cap (if isSlice=true then .sliceAcap else .sliceAlen) (by omega) h2;cases hi<;>cases lo<;>simp_all [Instr.sliceBounds]
theorem AG.sliceStr {T:TypeId} {y:Operand} {lo hi:Option Operand} {s:ByteArray} {l h:Int} (ho:o.op=.slice T y lo hi none) (hy:AZ.ev ρ y=some (.fl (.string s))) (hl:FX ρ lo=some l) (hh:EF ρ s.size hi=some h)
 (h0:0≤l) (h1:l≤h) (h2:h≤s.size) (ht:P.underlying T=some .string):AG P o ρ H (.fl (.string (s.extract l.toNat h.toNat))):=
 AG.of_flat fun g a s' w=>by
  have e1:a.eval y=.string s:=s'.ev hy;have r:=BZ (P:=P) (w:=w) (isSlice:=false) (cap:=s.size) s' hl hh h0 h1 h2;simp[execOp,ho,e1,Instr.sliceAt,Instr.slice,run_underlying ht,r]
theorem AU.ar_slice {g:G} {z:Nat} {els:List AV} {l:List Value} (s:AU g (.ar z els) l):∀ (i j:Nat),∃ m:List Value,AU g (.ar z ((els.take j).drop i)) m∧∀ (t:Nat) y,m[t]? =some y→l[i*z+t]? =some y:=by
 have tk:∀ (j:Nat) (els:List AV) (l:List Value),AU g (.ar z els) l→∃ m:List Value,AU g (.ar z (els.take j)) m∧∀ (t:Nat) y,m[t]? =some y→l[t]? =some y:=by
  intro j
  induction j with
  | zero=>intro els l s;exact⟨[],by simpa using AU.arNil,fun t y h=>by simp at h⟩
  | succ j ih=>
    intro els l s
    cases els with
    | nil=>cases s;exact⟨[],by simpa using AU.arNil,fun t y h=>by simp at h⟩
    | cons c els=>
      cases s with
      | @arCons _ _ _ l0 r a b d=>
        obtain⟨m,h1,h2⟩:=ih els r d;refine⟨l0++m,by simpa using AU.arCons a b h1,fun t y hy=>?_⟩;rcases Nat.lt_or_ge t l0.length with hlt|hge
        ·rw[List.getElem?_append_left hlt]at hy⊢;exact hy
        ·rw[List.getElem?_append_right hge]at hy⊢;exact h2 _ _ hy
 have dr:∀ (i:Nat) (els:List AV) (l:List Value),AU g (.ar z els) l→∃ m:List Value,AU g (.ar z (els.drop i)) m∧∀ (t:Nat) y,m[t]? =some y→l[i*z+t]? =some y:=by
  intro i
  induction i with
  | zero=>intro els l s;exact⟨l,by simpa using s,fun t y h=>by simpa using h⟩
  | succ i ih=>
    intro els l s
    cases els with
    | nil=>cases s;exact⟨[],by simpa using AU.arNil,fun t y h=>by simp at h⟩
    | cons c els=>
      cases s with
      | @arCons _ _ _ l0 r a b d=>
        obtain⟨m,h1,h2⟩:=ih els r d;refine⟨m,by simpa using h1,fun t y hy=>?_⟩;rw[List.getElem?_append_right (by rw[b,Nat.add_mul];omega)];have:=h2 t y hy;rw[←this];congr 1;rw[b,Nat.add_mul];omega
 intro i j;obtain⟨m1,h1,h2⟩:=tk j els l s;obtain⟨m2,k1,k2⟩:=dr i _ _ h1;exact⟨m2,k1,fun t y hy=>h2 _ _ (k2 t y hy)⟩
theorem AG.sliceFz {T E:TypeId} {y:Operand} {lo hi:Option Operand} {z:Nat} {els:List AV} {l h:Int} (ho:o.op=.slice T y lo hi none) (hy:AZ.ev ρ y=some (.fz z els)) (hl:FX ρ lo=some l) (hh:EF ρ els.length hi=some h)
 (h0:0≤l) (h1:l≤h) (h2:h≤els.length) (ht:P.underlying T=some (.slice E)) (hz:AX P E=some z):AG P o ρ H (.fz z ((els.take h.toNat).drop l.toNat)):=
 AG.of_read fun g a s=>by
  have e1:AU g (.fz z els) [a.eval y]:=s.ev hy;generalize hv:a.eval y=v at e1;have hlen:((els.take h.toNat).drop l.toNat).length=h.toNat-l.toNat:=by simp;omega
  cases e1 with
  | @fz _ _ cs b off cap sl hro hc=>
    obtain⟨m,sm,hm⟩:=sl.ar_slice l.toNat h.toNat;have r:=fun w=>BZ (P:=P) (w:=w) (isSlice:=true) (n:=els.length) (cap:=cap) s hl hh h0 h1 (by omega);by_cases hcl:cap=l.toNat
    ·subst hcl;refine⟨.slice (some ⟨b,off,none⟩) (h.toNat-l.toNat) (l.toNat-l.toNat),?_,fun w hw=>?_⟩
     ·have hz0:h.toNat-l.toNat=0:=by omega
      have:(els.take h.toNat).drop l.toNat=[]:=List.eq_nil_of_length_eq_zero (by omega);rw[this,hz0];exact AU.fz0
     ·simp[execOp,ho,hv,Instr.sliceAt,Instr.slice,run_underlying ht,r w,Am hz]
    ·refine⟨.slice (some ⟨b,off+l.toNat*z,none⟩) (h.toNat-l.toNat) (cap-l.toNat),?_,fun w hw=>?_⟩
     ·rw[←hlen];exact AU.fz sm (fun t y hy=>by rw[Nat.add_assoc];exact hro _ _ (hm t y hy)) (by omega)
     ·simp[execOp,ho,hv,Instr.sliceAt,Instr.slice,run_underlying ht,r w,Am hz,hcl,Addr.add_lit]
  | @fz0 _ ad cap=>
    have hl0:l=0:=by simp at h2;omega
    have hh0:h=0:=by simp at h2;omega
    subst hl0;subst hh0;have r:=fun w=>BZ (P:=P) (w:=w) (isSlice:=true) (n:=0) (cap:=cap) s hl hh (by omega) (by omega) (by omega);refine⟨.slice ad 0 cap,(by simpa using AU.fz0:AU g _ [_]),fun w hw=>?_⟩;have:(if cap=0 then ad else ad.map (·.add (0*z)))=ad:=by
     split
     ·rfl
     ·cases ad<;>simp[Addr.add]
    simp at this;simp[execOp,ho,hv,Instr.sliceAt,Instr.slice,run_underlying ht,r w,Am hz];exact this
theorem AG.sliceOwn {T E:TypeId} {y:Operand} {lo hi:Option Operand} {z n off len:Nat} {els:List AV} {l h:Int} (j:Nat) (ho:o.op=.slice T y lo hi none) (hy:AZ.ev ρ y=some (.own n off len)) (hl:FX ρ lo=some l) (hh:EF ρ len hi=some h)
 (hH:H[j]? =some (n,.mem (.ar z els))) (h0:0≤l) (h1:l≤h) (h2:h≤len) (ht:P.underlying T=some (.slice E)) (hz:AX P E=some z):AG P o ρ H (.own n (off+l.toNat) (h.toNat-l.toNat)):=by
 intro F g a w s h3;have e1:AU g (.own n off len) [a.eval y]:=s.ev hy;obtain⟨p',q1,q2,_⟩:=h3.obj n _ (List.mem_of_getElem? hH);have hez:z=p'.esz:=q2.1 z rfl;generalize hv:a.eval y=v at e1
 cases e1 with
 | @own _ _ _ p b hn hb hlc=>
   obtain rfl:p'=p:=Option.some.inj (q1.symm.trans hn);have r:=fun w=>BZ (P:=P) (w:=w) (isSlice:=true) (n:=len) (cap:=p'.cap-off) s hl hh h0 h1 (by omega);by_cases hcl:p'.cap-off=l.toNat
   ·refine⟨.slice (some ⟨b,p'.base+off*p'.esz,none⟩) (h.toNat-l.toNat) (p'.cap-off-l.toNat),?_,fun w' hw=>?_⟩
    ·rw[show h.toNat-l.toNat=0 by omega,show p'.cap-off-l.toNat=0 by omega];exact AU.own0 hn (by omega)
    ·unfold Oper.quietAt;have r2:=r w';rw[hcl]at r2
     rw[show (execOp a.eval o).run P w'=.ok (.value (.slice (some ⟨b,p'.base+off*p'.esz,none⟩) (h.toNat-l.toNat) (p'.cap-off-l.toNat))) w' by
      simp[execOp,ho,hv,Instr.sliceAt,Instr.slice,run_underlying ht,r2,Am hz,hcl]]
     exact⟨rfl,rfl⟩
   ·refine⟨.slice (some ⟨b,p'.base+(off+l.toNat)*p'.esz,none⟩) (h.toNat-l.toNat) (p'.cap - (off+l.toNat)),AU.own hn hb (by omega),fun w' hw=>?_⟩;unfold Oper.quietAt;have e:p'.base+off*p'.esz+l.toNat*z=p'.base+(off+l.toNat)*p'.esz:=by rw[hez,Nat.add_mul];omega
    rw[show (execOp a.eval o).run P w'=.ok (.value (.slice (some ⟨b,p'.base+(off+l.toNat)*p'.esz,none⟩) (h.toNat-l.toNat) (p'.cap - (off+l.toNat)))) w' by
     simp[execOp,ho,hv,Instr.sliceAt,Instr.slice,run_underlying ht,r w',Am hz,hcl,Addr.add_lit, ←e,Nat.sub_sub]]
    exact⟨rfl,rfl⟩
 | @own0 _ _ p ad hn hb=>
   have hl0:l=0:=by omega
   have hh0:h=0:=by omega
   subst hl0;subst hh0;have r:=fun w=>BZ (P:=P) (w:=w) (isSlice:=true) (n:=0) (cap:=0) s hl hh (by omega) (by omega) (by omega);refine⟨.slice ad 0 0,(by simpa using AU.own0 hn hb:AU g _ [_]),fun w' hw=>?_⟩;unfold Oper.quietAt
   rw[show (execOp a.eval o).run P w'=.ok (.value (.slice ad 0 0)) w' by
    simp[execOp,ho,hv,Instr.sliceAt,Instr.slice,run_underlying ht,r w',Am hz]]
   exact⟨rfl,rfl⟩
theorem AG.max2 {A:Array TypeId} {y z:Operand} {k:IntKind} {m n:Int} (ho:o.op=.call {callee:=.builtin .max,args:= #[y,z],argTypes:=A}) (hy:AZ.ev ρ y=some (.fl (.int k m))) (hz:AZ.ev ρ z=some (.fl (.int k n))):
 AG P o ρ H (.fl (.int k (max m n))):=
 AG.of_flat fun g a s w=>by
  have e1:a.eval y=.int k m:=s.ev hy;have e2:a.eval z=.int k n:=s.ev hz;have e3:(if n>m then n else m)=max m n:=by split<;>omega
  simp[execOp,ho,e1,e2,resolve,invoke,builtin,Builtin.max_,Builtin.max2,e3]
def I6 (xs:List Int):List AV:=xs.map fun n=>.fl (.int .u8 n)
theorem AU.bytes {g:G}:∀ {xs:List Int} {l:List Value},AU g (.ar 1 (I6 xs)) l→l=xs.map (Value.int .u8):=by
 intro xs
 induction xs with
 | nil=>intro l s;cases s;rfl
 | cons x xs ih=>
   intro l s
   cases s with
   | arCons a b d=>cases a;simp[ih d]
theorem AG.strOwn {S D E:TypeId} {y:Operand} {xs:List Int} {n off len:Nat} {els:List AV} (j:Nat) (ho:o.op=.convert S D y) (hy:AZ.ev ρ y=some (.own n off len)) (hH:H[j]? =some (n,.mem (.ar 1 els)))
 (hx:(els.drop off).take len=I6 xs) (hlen:xs.length=len)
 (hS:P.underlying S=some (.slice E)) (hD:P.underlying D=some .string) (hE:P.underlying E=some (.int .u8)):AG P o ρ H (.fl (.string (strOfNums xs))):=by
 intro F g a w s h3;have e1:AU g (.own n off len) [a.eval y]:=s.ev hy;obtain⟨p',q1,q2,_⟩:=h3.obj n _ (List.mem_of_getElem? hH);refine⟨_,rfl,fun w' hw'=>?_⟩;generalize hv:a.eval y=v at e1;have main:(execOp a.eval o).run P w'=.ok (.value (.string (strOfNums xs))) w':=by
  cases e1 with
  | @own _ _ _ p b hn hb hlc=>
    obtain rfl:p'=p:=Option.some.inj (q1.symm.trans hn);have hlt:=q2.lt b hb;obtain⟨hz,l,sl,r⟩:=q2;have hz1:1=p'.esz:=hz 1 rfl;rcases r with⟨b',c,T,e1,e2,e3,e4,e5⟩|⟨e1,_⟩
    ·obtain rfl:b'=b:=Option.some.inj (e1.symm.trans hb);obtain⟨m,sm,hm⟩:=sl.ar_slice off (off+len);have hm2:m=xs.map (Value.int .u8):=by
      have:(els.take (off+len)).drop off=I6 xs:=by rw[←hx,List.drop_take];congr 1;omega
      rw[this]at sm;exact sm.bytes
     have:=run_convert_bytes_arg (P:=P) w' S E hS hE b' (p'.base+off*p'.esz) len (p'.cap-off) xs hlen (fun i hi=>by
      rw[hw'.cell (p:=⟨b',_,none⟩) hlt,cell_of_row w b' _ c T (0,0) e2, ←hz1,Nat.mul_one,Nat.add_assoc];refine e5 _ _ ?_
      have:=hm i (.int .u8 (xs.getD i 0)) (by
       rw[hm2];have:i<xs.length:=by omega
       simp[this])
      simpa using this) D hD
     simp[execOp,ho,hv,this]
    ·rw[e1]at hb;cases hb
  | @own0 _ _ p ad hn hb=>
    have hx:xs=[]:=List.eq_nil_of_length_eq_zero hlen;subst hx;have e:=run_convert_bytes_string (P:=P) w' S D E ad 0 0 hS hE hD
    cases ad with
    | none=>
      rw[show Conv.bytesToString (.slice none 0 0)=(pure (.string .empty):Sem Value)from rfl]at e;simp[execOp,ho,hv,e];rfl
    | some ad=>
      have:=run_bytesToString (P:=P) w' ad 0 0 [] (by simp[loadCells,loadCellsFrom]);rw[this]at e;simp[execOp,ho,hv,e];rfl
 unfold Oper.quietAt;rw[main];exact⟨rfl,rfl⟩
end
def AV.notTup:AV→Bool
 | .tup _=>false
 | _=>true
theorem V.toV1 {g:G} {x:AV} {v:Value} (h:V g x v) (hn:x.notTup=true):V1 g x v:=by cases x<;>first|exact h|cases hn
def OH (ρ:AZ):List Operand→List AV→Prop
 | [],[]=>True
 | y::ys,x::xs=>AZ.ev ρ y=some x∧x.notTup=true∧OH ρ ys xs
 | _,_=>False
theorem OH.all {g:G} {ρ:AZ} {a:Act} (s:A2 g ρ a):∀ {ys:List Operand} {xs:List AV},OH ρ ys xs→Bs (V1 g) xs (ys.map a.eval)
 | [],[],_=>.nil
 | y::ys,x::xs,h=>.cons ((s.ev h.1).toV1 h.2.1) (OH.all s h.2.2)
 | [],_::_,h=>h.elim
 | _::_,[],h=>h.elim
def AK (P:Program) (f:FuncId):Prop:=∃ fn,P.funcs[f]? =some fn∧fn.body.isSome=true∧(fn.name== "runtime.NumGoroutine")=false
section
variable {P:Program} {N:Nat} {ops:Array Oper} {o:Oper} {rest:List Oper} {K:AZ→AN→Prop} {KQ:AZ→Prop} {ρ:AZ} {H:AN} {x:AV}
theorem Hl {a:Act} {w:World} {fo:Operand} {as:List Operand} {A:Array TypeId} {f:FuncId} (ho:o.op=.call {callee:=.value fo,args:=as.toArray,argTypes:=A}) (hf:a.eval fo=.func (.func f) #[] #[]) (hok:AK P f):
 (execOp a.eval o).run P w=.ok (.enter f (as.map a.eval).toArray) w:=by
 obtain⟨fn,h1,h2,h3⟩:=hok;have hb:fn.body≠none:=by intro h;rw[h]at h2;cases h2
 have h3':fn.name≠ "runtime.NumGoroutine" :=by simpa using h3
 simp[execOp,ho,resolve,hf,Deferred.ofValue,invoke,callFunc,h1,h3',hb]
theorem AG.call {fo:Operand} {as:List Operand} {A:Array TypeId} {f:FuncId} {args:List AV} {v:Value} (ho:o.op=.call {callee:=.value fo,args:=as.toArray,argTypes:=A}) (hf:AZ.ev ρ fo=some (.fl (.func (.func f) #[] #[])))
 (hok:AK P f) (ha:OH ρ as args) (hx:x.det=some v) (h:AM P f args x):AG P o ρ H x:=by
 intro F g a w s h3;have hfo:a.eval fo=.func (.func f) #[] #[]:=s.ev hf;have hv:∀ (w':World),TZ g w'→JO w'→Calls P f (as.map a.eval).toArray w' fun e w2=>e=.returned v∧Below w'.heap.size w' w2:=fun w' hw ht=>(h g _ w' (ha.all s) hw ht).mono fun e w2 ⟨u,g',he,hg,hu,_,_,hb⟩=>⟨by rw[he,AV.det_eq hx hu],hb⟩;have hV:V g x v:=by
  cases x with
  | fl u=>cases hx;rfl
  | tup vs=>
    simp only[AV.det,Option.map_eq_some_iff]at hx;obtain⟨m,hm,rfl⟩:=hx;refine⟨m,rfl,?_⟩;clear h hv
    induction vs generalizing m with
    | nil=>cases hm;exact .nil
    | cons y ys ih=>
      cases y with
      | fl u=>
        simp only[AV.flats,Option.map_eq_some_iff]at hm;obtain⟨m',hm',rfl⟩:=hm;exact .cons rfl (ih m' hm')
      | _=>cases hm
  | _=>cases hx
 refine⟨v,hV,fun w' hw=>?_⟩;unfold Oper.quietAt;rw[Hl ho hfo hok];exact⟨rfl,(hv w' (Gw h3.ro hw) (h3.tab.below hw)).mono fun e w2 ⟨h1,h2⟩=>⟨h1,hw.trans (h2.mono hw.size)⟩⟩
theorem AO.step_w (hw:∀ g a,A2 g ρ a→Region.wanted o (yielded ops a.tmps)=true) (d:Nat) (hd:o.dst=some d) (hN:d<N)
 (h:∀ F g a w,A2 g ρ a→Ak F g H w→∃ v g' w' x' H',(execOp a.eval o).run P w=.ok (.value v) w'∧g.le g'∧V g' x' v∧Ak F g' H' w'∧AO P N ops rest K ((d,x')::ρ) H'):AO P N ops (o::rest) K ρ H:=by
 intro F g a w Q h1 h2 h3 h4;unfold wpList;rw[if_pos (hw g a h1)];left;obtain⟨v,g',w',x',H',hr,hg,hv,hs,hK⟩:=h F g a w h1 h3;unfold Oper.wp;rw[hr];refine hK F g' _ w' Q (by rw[hd];exact(h1.mono hg).put hv (by omega)) (by rw[CD];exact h2) hs ?_;intro g2 ρ' H2 a' w2 k1 k2 k3 k4 k5 k6;exact h4 g2 ρ' H2 a' w2 (hg.trans k1) k2 k3 (by rw[k4,BV]) k5 k6
theorem AO.step (hg:o.guard=none) (d:Nat) (hd:o.dst=some d) (hN:d<N)
 (h:∀ F g a w,A2 g ρ a→Ak F g H w→∃ v g' w' x' H',(execOp a.eval o).run P w=.ok (.value v) w'∧g.le g'∧V g' x' v∧Ak F g' H' w'∧AO P N ops rest K ((d,x')::ρ) H'):AO P N ops (o::rest) K ρ H:=
 AO.step_w (fun _ _ _=>Bf hg _) d hd hN h
theorem AO.step0 (hg:o.guard=none) (hd:o.dst=none)
 (h:∀ F g a w,A2 g ρ a→Ak F g H w→∃ g' w' H',(execOp a.eval o).run P w=.ok .skip w'∧g.le g'∧Ak F g' H' w'∧AO P N ops rest K ρ H'):AO P N ops (o::rest) K ρ H:=by
 intro F g a w Q h1 h2 h3 h4;unfold wpList;rw[if_pos (Bf hg _)];left;obtain⟨g',w',H',hr,hg,hs,hK⟩:=h F g a w h1 h3;unfold Oper.wp;rw[hr];show wpList P ops Q rest (a.put o.dst undef) w';rw[hd];exact hK F g' a w' Q (h1.mono hg) h2 hs fun g2 ρ' H2 a' w2 k1 k2 k3 k4 k5 k6=>h4 g2 ρ' H2 a' w2 (hg.trans k1) k2 k3 k4 k5 k6
theorem AO.call_w (hw:∀ g a,A2 g ρ a→Region.wanted o (yielded ops a.tmps)=true) {fo:Operand} {as:List Operand} {A:Array TypeId} {f:FuncId} (args:List AV) (r:AV) (ho:o.op=.call {callee:=.value fo,args:=as.toArray,argTypes:=A}) (hf:AZ.ev ρ fo=some (.fl (.func (.func f) #[] #[])))
 (d:Nat) (hd:o.dst=some d) (hN:d<N) (hok:AK P f) (ha:OH ρ as args) (h:AM P f args r) (hk:AO P N ops rest K ((d,r)::ρ) H):AO P N ops (o::rest) K ρ H:=by
 intro F g a w Q h1 h2 h3 h4;unfold wpList;rw[if_pos (hw g a h1)];left;unfold Oper.wp;rw[Hl ho (h1.ev hf) hok];refine(h g _ w (ha.all h1) h3.ro h3.tab).mono ?_;rintro e w' ⟨v,g',rfl,hg,hv,hro,hnew,hb⟩;refine hk F g' _ w' Q (by rw[hd];exact(h1.mono hg).put hv (by omega)) (by rw[CD];exact h2) (h3.ext hb hg hro hnew) ?_;intro g2 ρ' H2 a' w2 k1 k2 k3 k4 k5 k6;exact h4 g2 ρ' H2 a' w2 (hg.trans k1) k2 k3 (by rw[k4,BV]) k5 k6
theorem AO.callH {fo:Operand} {as:List Operand} {A:Array TypeId} {f:FuncId} (args:List AV) (H1:AN) (Q1:AV→AN→Prop) (ho:o.op=.call {callee:=.value fo,args:=as.toArray,argTypes:=A}) (hf:AZ.ev ρ fo=some (.fl (.func (.func f) #[] #[])))
 (hg:o.guard=none) (d:Nat) (hd:o.dst=some d) (hN:d<N) (hok:AK P f) (ha:OH ρ as args) (hH:BS H1 H) (h:Al P f args H1 Q1) (hk:∀ r H',Q1 r H'→AO P N ops rest K ((d,r)::ρ) H'):AO P N ops (o::rest) K ρ H:=by
 intro F g a w Q h1 h2 h3 h4;unfold wpList;rw[if_pos (Bf hg _)];left;unfold Oper.wp;rw[Hl ho (h1.ev hf) hok];refine(h F g _ w (ha.all h1) (h3.sub hH)).mono ?_;rintro e w' ⟨v,g',H',r,rfl,hg,hv,hs,hq⟩;refine hk r H' hq F g' _ w' Q (by rw[hd];exact(h1.mono hg).put hv (by omega)) (by rw[CD];exact h2) hs ?_;intro g2 ρ' H2 a' w2 k1 k2 k3 k4 k5 k6;exact h4 g2 ρ' H2 a' w2 (hg.trans k1) k2 k3 (by rw[k4,BV]) k5 k6
end
def params:Nat→List AV→AZ
 | _,[]=>[]
 | i,x::xs=>(i,x)::params (i+1) xs
def DS (P:Program) (ρ:AZ) (H:AN):List ResultVar→List AV→Prop
 | [],[]=>True
 | .tmp t::rs,x::xs=>ρ.lookup t=some x∧x.notTup=true∧DS P ρ H rs xs
 | .cell t T::rs,x::xs=>(∃ (n i:Nat),ρ.lookup t=some (AV.ptr n 0)∧H[i]? =some (n,EX.mem x)∧Ao P T=some x.isAgg∧AX P T=some x.size)∧DS P ρ H rs xs
 | _,_=>False
def GC:List AV→AV
 | [x]=>x
 | xs=>.tup xs
def QS (P:Program) (res:List ResultVar) (Q:AV→AN→Prop):Exit→AZ→AN→Prop
 | .ret,ρ,H| .normal,ρ,H=>∃ xs,DS P ρ H res xs∧Q (GC xs) H
 | _,_,_=>False
theorem FB:∀ {xs:List AV} {i t:Nat} {x:AV},List.lookup t (params i xs)=some x→i≤t∧xs[t-i]? =some x
 | [],i,t,x,h=>by cases h
 | y::ys,i,t,x,h=>by
   simp only[params]at h;rw[Aq]at h;by_cases e:t=i
   ·rw[if_pos e]at h;cases h;subst e;simp
   ·rw[if_neg e]at h;obtain⟨h1,h2⟩:=FB h;refine⟨by omega,?_⟩;obtain⟨k,hk⟩:∃ k,t-i=k+1:=⟨t-i-1,by omega⟩;rw[hk,List.getElem?_cons_succ];rw[show t - (i+1)=k by omega]at h2;exact h2
theorem Ei {P:Program} {a:Act} {w:World} {F:Fr} {g:G} {ρ:AZ} {H:AN} (s:A2 g ρ a) (h3:Ak F g H w) (f:ResultVar→Sem Value) (f1:∀ t,f (.tmp t)=pure (a.tmps.getD t undef)) (f2:∀ c t,f (.cell c t)=(do loadVar t (←asAddr (a.tmps.getD c undef)))):∀ {res:List ResultVar} {xs:List AV},DS P ρ H res xs→
 ∃ vs:List Value,(res.mapM f).run P w=.ok vs w∧Bs (V1 g) xs vs
 | [],[],_=>⟨[],by simp,.nil⟩
 | .tmp t::rs,x::xs,h=>by
   obtain⟨vs,h1,h2⟩:=Ei s h3 f f1 f2 h.2.2;refine⟨a.tmps.getD t undef::vs,?_,.cons ((s t x h.1).toV1 h.2.1) h2⟩;simp only[List.mapM_cons,f1,Sem.run_bind,Sem.run_pure,Result.andThen_ok,h1]
 | .cell t T::rs,x::xs,h=>by
   obtain⟨vs,h1,h2⟩:=Ei s h3 f f1 f2 h.2;obtain⟨n,i,e1,e2,e3,e4⟩:=h.1;have hp:AU g (.ptr n 0) [a.tmps.getD t undef]:=s t _ e1;generalize hv:a.tmps.getD t undef=v at hp
   cases hp with
   | @ptr _ _ p b hn hb=>
     obtain⟨m,sm,hlt,hm⟩:=h3.at e2 At.here hn hb;have:=Ek (P:=P) (w:=w) sm hm e3 e4;refine⟨asValue x.isAgg m::vs,?_,.cons (V1.asValue sm) h2⟩;have e:(asAddr (a.tmps.getD t undef)).run P w=.ok ⟨b,p.base+0,none⟩ w:=by rw[hv];rfl
     simp only[List.mapM_cons,f2,Sem.run_bind,Sem.run_pure,Result.andThen_ok,e,this,h1]
 | [],_::_,h=>h.elim
 | _::_,[],h=>by cases ‹ResultVar› <;>exact h.elim
theorem Jh {P:Program} {fn:Func} {res:List ResultVar} (hres:fn.results=res.toArray) {a:Act} {w:World} {F:Fr} {g:G} {ρ:AZ} {H:AN} {xs:List AV} (s:A2 g ρ a) (h3:Ak F g H w) (h:DS P ρ H res xs):
 ∃ v,(results fn a.tmps).run P w=.ok v w∧V g (GC xs) v:=by
 obtain⟨vs,h1,h2⟩:=Ei s h3 (fun | .tmp t=>pure (a.tmps.getD t undef)| .cell c t=>do loadVar t (←asAddr (a.tmps.getD c undef))) (fun _=>rfl) (fun _ _=>rfl) h;refine⟨if hv:vs.toArray.size=1 then vs.toArray[0]else .tuple vs.toArray,?_,?_⟩
 ·unfold results;rw[hres,List.mapM_toArray];simp only[Sem.run_bind,map_eq_pure_bind];refine(congrArg (fun r=>(Result.andThen (Result.andThen r _) _)) h1).trans ?_;simp only[Result.andThen_ok,Sem.run_pure]
 ·cases h2 with
  | nil=>exact⟨[],by simp,.nil⟩
  | @cons x v xs vs hx hr=>
    cases hr with
    | nil=>simpa [GC]using hx.toV
    | cons hy hr=>exact⟨_,by simp,.cons hx (.cons hy hr)⟩
theorem Jd {g:G} {args:List AV} {cargs:List Value} (h:Bs (V1 g) args cargs) (k:Nat):A2 g (params 0 args) {tmps:=cargs.toArray++Array.replicate k undef,defers:=[]}:=by
 intro t x hx;obtain⟨_,h2⟩:=FB hx;obtain⟨v,h3,h4⟩:=h.get (by simpa using h2);have hlt:t<cargs.length:=(List.getElem?_eq_some_iff.1 h3).1;have:(cargs.toArray++Array.replicate k undef).getD t undef=v:=by
  simp[Array.getElem?_append_left (show t<cargs.toArray.size by simpa using hlt),h3]
 show V g x ((cargs.toArray++Array.replicate k undef).getD t undef);rw[this];exact h4.toV
theorem AK.mk {P:Program} {f:FuncId} {fn:Func} {c:Code} (hf:P.funcs[f]? =some fn) (hb:fn.body=some c) (hn:(fn.name== "runtime.NumGoroutine")=false):AK P f:=⟨fn,hf,by rw[hb];rfl,hn⟩
theorem AM.intro {P:Program} {f:FuncId} {fn:Func} {c:Code} {N:Nat} {args:List AV} {r:AV} {res:List ResultVar} (hf:P.funcs[f]? =some fn) (hb:fn.body=some c) (hN:fn.ntmps=N) (hres:fn.results=res.toArray) (hl:args.length≤N)
 (h:AW P N c (QS P res fun x _=>x=r) (params 0 args) []):AM P f args r:=by
 intro g cargs w ha hro htab;have hlen:=ha.length;refine calls_of_wp hf hb ?_;refine h ⟨w.heap.size,w,g.ro,htab.fr⟩ g _ w _ (Jd ha _) (by simp[hN];omega) ⟨Below.refl _ _,Nat.le_refl _,hro,fun _ _ _ _ h=>h,fun n m h=>by simp at h,List.Pairwise.nil⟩ ?_;intro e g' ρ' H' a' w' k1 k2 k3 k4 k5 k6
 have fin:(∃ xs,DS P ρ' H' res xs∧GC xs=r)→bodyPost P fn (fun e w'=>∃ v g',e=.returned v∧g.le g'∧V g' r v∧(∀ b o y,g'.ro b o=some y→w'.cell? ⟨b,o,none⟩=some y)∧
  (∀ b o y,b<w.heap.size→g'.ro b o=some y→g.ro b o=some y)∧Below w.heap.size w w') .ret a' w':=by
  rintro⟨xs,h1,rfl⟩;obtain⟨v,h2,h3⟩:=Jh hres k2 k5 h1;exact⟨k4,v,h2,v,g',rfl,k1,h3,k5.ro,k5.r0,k5.below⟩
 cases e with
 | ret=>exact fin k6
 | normal=>exact fin k6
 | _=>exact k6.elim
theorem Al.intro {P:Program} {f:FuncId} {fn:Func} {c:Code} {N:Nat} {args:List AV} {H:AN} {Q:AV→AN→Prop} {res:List ResultVar} (hf:P.funcs[f]? =some fn) (hb:fn.body=some c) (hN:fn.ntmps=N) (hres:fn.results=res.toArray) (hl:args.length≤N)
 (h:AW P N c (QS P res Q) (params 0 args) H):Al P f args H Q:=by
 intro F g cargs w ha hs;have hlen:=ha.length;refine calls_of_wp hf hb ?_;refine h F g _ w _ (Jd ha _) (by simp[hN];omega) hs ?_;intro e g' ρ' H' a' w' k1 k2 k3 k4 k5 k6;have fin:(∃ xs,DS P ρ' H' res xs∧Q (GC xs) H')→bodyPost P fn (fun e w'=>∃ v g' H' r,e=.returned v∧g.le g'∧V g' r v∧Ak F g' H' w'∧Q r H') .ret a' w':=by
  rintro⟨xs,h1,hq⟩;obtain⟨v,h2,h3⟩:=Jh hres k2 k5 h1;exact⟨k4,v,h2,v,g',H',_,rfl,k1,h3,k5,hq⟩
 cases e with
 | ret=>exact fin k6
 | normal=>exact fin k6
 | _=>exact k6.elim
def Ah (P:Program) (T:TypeId):Option (List Value):=((P.info? T).bind (·.zero)).map (·.cells.toList)
section
variable {P:Program} {w:World}
theorem D4 {T:TypeId} {l:List Value} (h:Ah P T=some l):∃ z,(zeroValue T).run P w=.ok z w∧z.cells=l.toArray:=by
 simp only[Ah,Option.map_eq_some_iff,Option.bind_eq_some_iff]at h;obtain⟨z,⟨i,hi,hz⟩,rfl⟩:=h;exact⟨z,by simp[zeroValue,run_typeInfo (P:=P) w hi,hz],by simp⟩
end
theorem Ak.new {F:Fr} {g:G} {H:AN} {w w':World} (s:Ak F g H w) (hb:Below w.heap.size w w') {x:AV} {l:List Value} (hx:AU g x l) {b:Nat} {c:Array Value} {T:TypeId} {cap:Nat} (hge:w.heap.size≤b)
 (hc:w'.heap[b]? =some (.cells c T (0,0))) (hcap:cap*(x.arz.getD 1)≤c.size) (hl:∀ (j:Nat) y,l[j]? =some y→c[j]? =some y):
 Ak F {g with nm:=g.nm++[⟨some b,0,cap,x.arz.getD 1⟩]} ((g.nm.length,.mem x)::H) w':=by
 refine s.cons hb _ _ (fun b' e=>by cases e;exact hge) ⟨fun z hz=>by rw[hz];rfl,l,hx.mono (G.le.push g _),.inl ⟨b,c,T,rfl,hc,by simpa using hcap,?_,fun j y h=>by simpa using hl j y h⟩⟩;rcases Nat.lt_or_ge c.size l.length with h|h
 ·have:=hl c.size _ (List.getElem?_eq_getElem h);simp at this
 ·simpa using h
theorem AU.capn {g:G} {x:AV} {l:List Value} (s:AU g x l):x.capn*x.arz.getD 1≤l.length:=by
 cases x with
 | ar z cs=>simp[AV.capn,AV.arz,s.ar_length]
 | _=>simp[AV.capn]
section
variable {P:Program} {N:Nat} {ops:Array Oper} {o:Oper} {rest:List Oper} {K:AZ→AN→Prop} {ρ:AZ} {H:AN} {x:AV}
theorem LR (g:G) (b cap esz:Nat):V {g with nm:=g.nm++[⟨some b,0,cap,esz⟩]} (.ptr g.nm.length 0) (.pointer (some ⟨b,0,none⟩)):=
 (AU.ptr (g:={g with nm:=g.nm++[⟨some b,0,cap,esz⟩]}) (n:=g.nm.length) (off:=0) (p:=⟨some b,0,cap,esz⟩) (by simp) rfl:AU _ _ [_])
theorem AO.box {T:TypeId} {y:Operand} (hg:o.guard=none) (d:Nat) (hd:o.dst=some d) (hN:d<N) (ho:o.op=.box T y) (hy:AZ.ev ρ y=some x) (hc:x.cell=true)
 (h:∀ n,AO P N ops rest K ((d,.ptr n 0)::ρ) ((n,.mem x)::H)):AO P N ops (o::rest) K ρ H:=
 AO.step hg d hd hN fun F g a w s h3=>by
  have hn:x.notTup=true:=by cases x<;>first|rfl|cases hc
  have sl:=((s.ev hy).toV1 hn).sim hc;have hb:Below w.heap.size w (w.alloc (.cells (a.eval y).cells T)):=(Below.refl _ _).alloc (Nat.le_refl _) _;refine⟨.pointer (some ⟨w.heap.size,0,none⟩),_,_,_,_,?_,G.le.push g _,LR g w.heap.size _ _,h3.new hb sl (Nat.le_refl _) (heap_alloc_new w _) (cap:=x.capn) (by simpa using sl.capn) (fun j y h=>by simpa using h),h _⟩;simp[execOp,ho,Instr.box,newVar,newRow]
theorem AO.alloc {T:TypeId} {l:List Value} (hg:o.guard=none) (d:Nat) (hd:o.dst=some d) (hN:d<N) (ho:o.op=.alloc T) (hz:Ah P T=some l) (hx:∀ g,AU g x l)
 (h:∀ n,AO P N ops rest K ((d,.ptr n 0)::ρ) ((n,.mem x)::H)):AO P N ops (o::rest) K ρ H:=
 AO.step hg d hd hN fun F g a w s h3=>by
  obtain⟨z,hz1,hz2⟩:=D4 (w:=w) hz;have hb:Below w.heap.size w (w.alloc (.cells z.cells T)):=(Below.refl _ _).alloc (Nat.le_refl _) _;refine⟨.pointer (some ⟨w.heap.size,0,none⟩),_,_,_,_,?_,G.le.push g _,LR g w.heap.size _ _,h3.new hb (hx g) (Nat.le_refl _) (heap_alloc_new w _) (cap:=x.capn) (by rw[hz2];simpa using (hx g).capn) (fun j y h=>by rw[hz2];simpa using h),h _⟩;simp[execOp,ho,Instr.alloc,hz1,newVar,newRow]
theorem Me {F:Fr} {g:G} {w:World} (h3:Ak F g H w) {i n off:Nat} {X X' y:AV} {p:Dv} {b:Nat} {T:TypeId} {v:Value} (hi:H[i]? =some (n,.mem X)) (hn:g.nm[n]? =some p) (hb:p.b=some b) (hp:FI X off y x X')
 (hv:V1 g x v) (hc:x.cell=true) (hs:y.size=x.size) (hT:AX P T=some x.size) (harz:X'.arz=X.arz):
 ∃ w',(storeVar T ⟨b,p.base+off,none⟩ v).run P w=.ok () w'∧Ak F g (H.set i (n,.mem X')) w':=by
 obtain⟨p',h1,h2,h4⟩:=h3.obj n _ (List.mem_of_getElem? hi);obtain rfl:p'=p:=Option.some.inj (h1.symm.trans hn);obtain⟨hz,l,sl,r⟩:=h2;rcases r with⟨b',c,T',e1,e2,e3,e4,e5⟩|⟨e1,_⟩
 ·obtain rfl:b'=b:=Option.some.inj (e1.symm.trans hb);obtain⟨q,m,t,rfl,k1,k2,k3⟩:=sl.put (G.le.refl g) hp;have sv:=hv.sim hc;have hml:v.cells.toList.length=m.length:=by rw[sv.length,k2.length,hs]
  have sX':=k3 _ sv hml;have hsz:v.cells.size=x.size:=by rw[←sv.length];simp
  have hml':v.cells.size=m.length:=by simpa using hml
  have hst:=run_storeCells_at P b' (p'.base+off) T' v.cells.toList 0 c w e2 (by simp at e4⊢;omega) (sv.one);refine⟨w.setRow b' (c.toList.take (p'.base+off)++v.cells.toList++c.toList.drop (p'.base+off+v.cells.toList.length)).toArray,?_,h3.set (p':=p') hi hn (G.le.refl g) (fun _ _=>rfl) rfl rfl rfl (by simp) (fun k hk hne=>setRow_other w b' k _ (fun e=>hne (by rw[e1,e]))) hn ⟨fun z hz'=>hz z (by rw[←harz];exact hz'),_,sX',.inl ⟨b',_,T',e1,setRow_heap w b' c _ T' _ e2,?_,?_,?_⟩⟩ (fun b hb'=>.inl hb')⟩
  ·simp only[storeVar,Sem.run_bind,Am hT,Result.andThen_ok,hsz];simpa using hst
  ·simp at e4⊢;omega
  ·simp at e4⊢;omega
  ·intro j u hj;have hq:q.length=off:=k1;simp only[List.getElem?_toArray];have e6:∀ j y,(q++m++t)[j]? =some y→c.toList[p'.base+j]? =some y:=fun j y h=>by simpa using e5 j y h
   rcases Nat.lt_or_ge j off with hlt|hge
   ·have:(q++m++t)[j]? =some u:=by
     rw[List.append_assoc,List.getElem?_append_left (by omega)]at hj⊢;exact hj
    rw[List.append_assoc,List.getElem?_append_left (by simp at e4⊢;omega),List.getElem?_take_of_lt (by omega)];exact e6 j u this
   ·rcases Nat.lt_or_ge j (off+m.length)with hlt2|hge2
    ·rw[List.append_assoc,List.getElem?_append_right (by simp at e4⊢;omega),List.getElem?_append_left (by simp at e4⊢;omega)];rw[List.append_assoc,List.getElem?_append_right (by omega),List.getElem?_append_left (by omega)]at hj;rw[←hj];congr 1;simp at e4⊢;omega
    ·have hj':(q++m++t)[j]? =some u:=by
      rw[List.getElem?_append_right (by simp;omega)]at hj⊢
      rw[←hj];congr 1;simp;omega
     have:=e6 j u hj';rw[List.getElem?_append_right (by simp at e4⊢;omega),List.getElem?_drop];rw[←this];congr 1;simp at e4⊢;omega
 ·rw[e1]at hb;cases hb
theorem AO.store {T:TypeId} {pa y:Operand} {n off:Nat} {X X' y0:AV} (i:Nat) (hg:o.guard=none) (hd:o.dst=none) (ho:o.op=.store T pa y) (hpa:AZ.ev ρ pa=some (.ptr n off)) (hy:AZ.ev ρ y=some x) (hi:H[i]? =some (n,.mem X))
 (hp:FI X off y0 x X') (hc:x.cell=true) (hs:y0.size=x.size) (hT:AX P T=some x.size) (harz:X'.arz=X.arz) (h:AO P N ops rest K ρ (H.set i (n,.mem X'))):AO P N ops (o::rest) K ρ H:=
 AO.step0 hg hd fun F g a w s h3=>by
  have e1:AU g (.ptr n off) [a.eval pa]:=s.ev hpa;have hn:x.notTup=true:=by cases x<;>first|rfl|cases hc
  have hv:=(s.ev hy).toV1 hn;generalize hav:a.eval pa=v at e1
  cases e1 with
  | @ptr _ _ p b hn hb=>
    obtain⟨w',h1,h2⟩:=Me (P:=P) h3 hi hn hb hp hv hc hs hT harz;refine⟨g,w',_,?_,G.le.refl g,h2,h⟩;simp[execOp,ho,hav,Instr.storeAt,Instr.sureAddr,h1]
inductive CG (place:Nat→Option (Nat×Nat)):List (Nat×AV)→AV→AV→Prop
 | nil {X}:CG place [] X X
 | cons {i off sz x y r X X1 X2}:place i=some (off,sz)→x.cell=true→x.size=sz→y.size=sz→FI X off y x X1→CG place r X1 X2→CG place ((i,x)::r) X X2
theorem IU:∀ (vs:List Value) (off k:Nat) (cs:List Value),off+k+vs.length≤cs.length→
 (vs.zipIdx k).foldl (fun (cs:Array Value) (c:Value×Nat)=>cs.setIfInBounds (off+c.2) c.1) cs.toArray=(cs.take (off+k)++vs++cs.drop (off+k+vs.length)).toArray
 | [],off,k,cs,h=>by simp
 | v::vs,off,k,cs,h=>by
   simp only[List.zipIdx_cons,List.foldl_cons,List.setIfInBounds_toArray];rw[IU vs off (k+1) _ (by simp at h⊢;omega)];congr 1;have:=list_seg_step cs (off+k) v vs (by simp at h;omega);rw[show off+(k+1)=off+k+1 by omega,this];simp[Nat.add_assoc]
theorem Hc {g:G} {place:Nat→Option (Nat×Nat)} {ps:List (Nat×AV)} {X X2:AV} (h:CG place ps X X2):∀ {l:List Value} {vs:List (Nat×Value)},AU g X l→Bs (fun p q=>p.1=q.1∧V1 g p.2 q.2) ps vs→
 ∃ l2,Instr.fill place l.toArray vs=some l2.toArray∧AU g X2 l2:=by
 induction h with
 | nil=>intro l vs s a;cases a;exact⟨l,rfl,s⟩
 | @cons i off sz x y r X X1 X2 h1 h2 h3 h4 h5 _ ih=>
   intro l vs s a
   cases a with
   | @cons _ q _ vs hq ar=>
     obtain⟨i',v⟩:=q;obtain⟨rfl,hv⟩:=hq;have hsv:=hv.sim h2;obtain⟨p,m,t,rfl,k1,k2,k3⟩:=s.put (G.le.refl g) h5;have hlen:v.cells.toList.length=m.length:=by rw[hsv.length,k2.length,h3,h4]
     have hlen':v.cells.size=m.length:=by simpa using hlen
     have hsz:v.cells.size=sz:=by rw[hlen',k2.length,h4]
     obtain⟨l2,e1,e2⟩:=ih (k3 _ hsv hlen) ar;refine⟨l2,?_,e2⟩;simp only[Instr.fill,h1];rw[if_neg (by simp;omega)];rw[←e1];congr 1;have:=IU v.cells.toList off 0 (p++m++t) (by simp;omega);simp only[Nat.add_zero]at this;rw[←Array.foldl_toList,Array.toList_zipIdx,this];congr 1;have t1:(p++m++t).take off=p:=by rw[List.append_assoc, ←k1,List.take_left]
     have t2:(p++m++t).drop (off+v.cells.toList.length)=t:=by
      rw[hlen,show off+m.length=(p++m).length by simp[k1]];exact List.drop_left
     rw[t1,t2]
def Fm (P:Program):List Field→Option (List (Nat×Nat))
 | []=>some []
 | f::r=>match AX P f.type,Fm P r with
   | some n,some m=>some ((f.offset,n)::m)
   | _,_=>none
theorem Hh {w:World}:∀ {fs:List Field} {l:List (Nat×Nat)},Fm P fs=some l→(fs.mapM fun f=>do pure (f.offset, ←sizeOf f.type):Sem (List (Nat×Nat))).run P w=.ok l w
 | [],l,h=>by cases h;simp
 | f::r,l,h=>by
   simp only[Fm]at h;split at h
   ·rename_i n m h1 h2;cases h;simp only[List.mapM_cons,Sem.run_bind,Sem.run_pure,Result.andThen_ok,Am h1,Hh h2]
   ·cases h
def EM (ρ:AZ):List (Nat×Operand)→List (Nat×AV)→Prop
 | [],[]=>True
 | p::ps,q::qs=>p.1=q.1∧AZ.ev ρ p.2=some q.2∧q.2.notTup=true∧EM ρ ps qs
 | _,_=>False
theorem EM.all {g:G} {a:Act} (s:A2 g ρ a):∀ {ps:List (Nat×Operand)} {qs:List (Nat×AV)},EM ρ ps qs→Bs (fun p q=>p.1=q.1∧V1 g p.2 q.2) qs (ps.map fun p=>(p.1,a.eval p.2))
 | [],[],_=>.nil
 | p::ps,q::qs,h=>.cons ⟨h.1.symm,(s.ev h.2.1).toV1 h.2.2.1⟩ (EM.all s h.2.2.2)
 | [],_::_,h=>h.elim
 | _::_,[],h=>h.elim
theorem AG.build {T:TypeId} {CI:List (Nat×Operand)} {fs:List Field} {pl:List (Nat×Nat)} {zl:List Value} {Z:AV} {qs:List (Nat×AV)} (ho:o.op=.build T CI.toArray) (hp:EM ρ CI qs) (ht:P.underlying T=some (.struct fs.toArray)) (hpl:Fm P fs=some pl)
 (hz:Ah P T=some zl) (hZ:∀ g,AU g Z zl) (hb:CG (fun i:Nat=>pl[i]?) qs Z x) (ha:x.isAgg=true):AG P o ρ H x:=
 AG.of_read fun g a s=>by
  obtain⟨l2,h1,h2⟩:=Hc hb (hZ g) (hp.all s);refine⟨.agg l2.toArray,(V1.of_sim_agg h2 ha).toV,fun w hw=>?_⟩;obtain⟨z,hz1,hz2⟩:=D4 (w:=w) hz;have hm:(fs.toArray.mapM fun f=>do pure (f.offset, ←sizeOf f.type):Sem (Array (Nat×Nat))).run P w=.ok pl.toArray w:=by
   rw[List.mapM_toArray];simp only[map_eq_pure_bind,Sem.run_bind,Hh hpl,Result.andThen_ok,Sem.run_pure]
  have hf:(fun i:Nat=>pl.toArray[i]?)=(fun i:Nat=>pl[i]?):=by funext i;simp
  simp only[execOp,ho,Instr.build,Sem.run_bind,hz1,Result.andThen_ok,run_underlying ht,hm,hz2,List.map_toArray];rw[hf];simp only[h1];simp
theorem AG.buildAr {T E:TypeId} {L z:Nat} {CI:List (Nat×Operand)} {zl:List Value} {Z:AV} {qs:List (Nat×AV)} (ho:o.op=.build T CI.toArray) (hp:EM ρ CI qs) (ht:P.underlying T=some (.array L E)) (hE:AX P E=some z)
 (hz:Ah P T=some zl) (hZ:∀ g,AU g Z zl) (hb:CG (fun i=>some (i*z,z)) qs Z x) (ha:x.isAgg=true):AG P o ρ H x:=
 AG.of_read fun g a s=>by
  obtain⟨l2,h1,h2⟩:=Hc hb (hZ g) (hp.all s);refine⟨.agg l2.toArray,(V1.of_sim_agg h2 ha).toV,fun w hw=>?_⟩;obtain⟨zv,hz1,hz2⟩:=D4 (w:=w) hz;simp only[execOp,ho,Instr.build,Sem.run_bind,hz1,Result.andThen_ok,run_underlying ht,Am hE,hz2,List.map_toArray,h1];simp
theorem AO.lit {T E:TypeId} {len z:Nat} {CI:List (Nat×Operand)} {zl:List Value} {Z:AV} {qs:List (Nat×AV)} {xs:List AV} (hg:o.guard=none) (d:Nat) (hd:o.dst=some d) (hN:d<N) (ho:o.op=.buildSlice T len CI.toArray) (hp:EM ρ CI qs)
 (ht:P.underlying T=some (.slice E)) (hE:AX P E=some z) (hz:Ah P E=some zl) (hZ:∀ g,AU g Z zl) (hzl:zl.length=z) (h24:len*z≤16777216) (hb:CG (fun i=>some (i*z,z)) qs (.ar z (List.replicate len Z)) (.ar z xs)) (hlen:xs.length=len)
 (h:∀ n,AO P N ops rest K ((d,.own n 0 len)::ρ) ((n,.mem (.ar z xs))::H)):AO P N ops (o::rest) K ρ H:=
 AO.step hg d hd hN fun F g a w s h3=>by
  have hrep:∀ k,AU g (.ar z (List.replicate k Z)) (List.replicate k zl).flatten:=by
   intro k
   induction k with
   | zero=>exact AU.arNil
   | succ k ih=>simpa [List.replicate_succ]using AU.arCons (hZ g) hzl ih
  obtain⟨l2,h1,h2⟩:=Hc hb (hrep len) (hp.all s);have hl2:l2.length=len*z:=by rw[h2.ar_length,hlen]
  have hb':Below w.heap.size w (w.alloc (.cells l2.toArray E)):=(Below.refl _ _).alloc (Nat.le_refl _) _;have hnm:({g with nm:=g.nm++[⟨some w.heap.size,0,len,(AV.ar z xs).arz.getD 1⟩]}:G).nm[g.nm.length]? =some ⟨some w.heap.size,0,len,z⟩:=by simp[AV.arz]
  refine⟨.slice (some ⟨w.heap.size,0,none⟩) len len,_,w.alloc (.cells l2.toArray E),_,_,?_,G.le.push g _,?_,h3.new hb' h2 (Nat.le_refl _) (heap_alloc_new w _) (cap:=len) (by simp[AV.arz,hl2]) (fun j y h=>by simpa using h),h _⟩
  ·obtain⟨zv,hz1,hz2⟩:=D4 (w:=w) hz;have e0:((Array.range (len*z)).map fun j=>zl.toArray[j%zl.toArray.size]!)=(List.replicate len zl).flatten.toArray:=by
    apply Array.ext';apply List.ext_getElem?;intro j;have hfl:(List.replicate len zl).flatten.length=len*z:=by simp[hzl]
    by_cases hj:j<len*z
    ·have hz0:0<z:=Nat.pos_of_ne_zero fun e=>by rw[e]at hj;simp at hj
     have hjm:j%z<z:=Nat.mod_lt _ hz0;have e2:∀ (k j:Nat),j<k*z→(List.replicate k zl).flatten[j]? =zl[j%z]? :=by
      intro k
      induction k with
      | zero=>intro j h;simp at h
      | succ k ih=>
        intro j h;rw[List.replicate_succ,List.flatten_cons];rcases Nat.lt_or_ge j z with h'|h'
        ·rw[List.getElem?_append_left (by omega),Nat.mod_eq_of_lt h']
        ·rw[List.getElem?_append_right (by omega),hzl,ih (j-z) (by rw[Nat.add_mul]at h;omega),Nat.mod_eq_sub_mod h']
     have e3:=e2 len j hj;rw[e3,List.getElem?_eq_getElem (show j%z<zl.length by omega)];simp[hj,hzl,hjm]
    ·rw[List.getElem?_eq_none (by simp;omega),List.getElem?_eq_none (by rw[hfl];omega)]
   simp only[execOp,ho,Instr.buildSlice,Sem.run_bind,run_underlying ht,Result.andThen_ok,Am hE];rw[if_neg (by omega)];by_cases h0:len*z=0
   ·have:l2=[]:=List.eq_nil_of_length_eq_zero (by omega);subst this;have e1:(List.replicate len zl).flatten=[]:=List.eq_nil_of_length_eq_zero (by simp[hzl,h0]);rw[e1]at h1;simp only[h0,if_true,Sem.run_bind,Sem.run_pure,Result.andThen_ok,Array.range_zero',List.map_toArray,List.map_nil];rw[h1];simp[newRow]
   ·simp only[h0,if_false,Sem.run_bind,hz1,Sem.run_pure,Result.andThen_ok,hz2,List.map_toArray];rw[e0,h1];simp[newRow]
  ·have:=AU.own (g:={g with nm:=g.nm++[⟨some w.heap.size,0,len,(AV.ar z xs).arz.getD 1⟩]}) (n:=g.nm.length) (off:=0) (len:=len) hnm rfl (by simp);exact(by simpa using this:AU _ _ [_])
end
end Go.Avl
