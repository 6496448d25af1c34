/- Parts: T7LawRulesOne. -/
import Derived.Test.YtpkgpmmcbpfenaaRows
import Derived.Test.YtpkgpmmcbpfenaaAM5
import Derived.WalkKit
import Derived.ProofKit
import Derived.OpenShut
import Derived.ShutString
import Derived.ChangeOld
import Derived.Below
import Derived.SizedLaws
import Derived.Carry
namespace Go.Proofs.Ytpkgpmmcbpfenaa.rulesOne
open Go.ChangeShapes Go.WideShapes Go.ChangeAt Go.RowKit
open Go.ChangeMaps (open_string shut_string)
open Go.Avl Go.Avl.T7
set_option linter.unusedVariables false
theorem own:ownKnob Try.prog.godebug=none:=by kernel_rfl
theorem laidOut:laidOutB Try.prog=true:=by kernel_rfl
set_option maxRecDepth 100000 in
theorem lifted (os:Os) (started:os.Started) (H:Type) (enc:TypeId×Value→H):
 ReturnsInHanded {} Try.checked os 7 .any (Rows.rulesOneSpec.pre6 enc Try.prog Try.f7 Rows.rulesOneRow.domain false) (Rows.rulesOneSpec.post enc Try.prog Try.f7 false true false false):=by
 refine returnsInHanded_of_change_sized (C:=Try.checked) own started (by kernel_rfl) Try.func7
  (ChangeSpec.witness6 (enc:=enc) (C:=Try.checked) false ⟨#[], #[.string ByteArray.empty,.string ByteArray.empty],[]⟩ 8 (by kernel_rfl) (by kernel_rfl) (by kernel_rfl) (by kernel_rfl)) ?_
 intro W base args ds gs before hval0 hW hcnd hsz0 _
 have hsz:(DataW.weightsEach Try.prog (Try.f7.params.toList++Rows.rulesOneSpec.plain.varTypes Try.prog) (ds++gs)).all (· ≤reachBytes)=true:=hsz0
 have hval:∀ (j:Nat) t v,Try.f7.params[j]? =some t→args[j]? =some v→Value.okWide Try.prog W .any base t v:=hval0
 have hW':=hW
 obtain⟨p,q,hA0,hV,rfl,hfz,hnd⟩:=hW
 have hA:DataW.TrodAll enc Try.prog W 0 (fun _=>true) true Try.f7.params.toList args.toList ds p:=hA0
 rw[Try.params7]at hA hval hsz
 obtain⟨v0,vs0,d0,ds0,p0,q0,hargs,rfl,rfl,h0,r0⟩:=trodAll_cons hA
 obtain⟨v1,vs1,d1,ds1,p1,q1,rfl,rfl,rfl,h1,r1⟩:=trodAll_cons r0
 obtain⟨rfl,rfl,rfl⟩:=trodAll_nil r1
 obtain rfl:args= #[v0,v1]:=by cases args;simp_all
 obtain⟨rfl,rfl⟩:=trodVars_none hV
 have lt0:∀ x∈p0,x.block<W.heap.size:=by obtain⟨m,hm⟩:=h0;exact DataW.trod_lt m _ _ _ hm
 obtain⟨a0,e0,w0⟩:=op9.arg (fun _=>ag9) (hval 0 9 v0 rfl rfl) h0
 obtain rfl:v0=.string a0:=e0
 have y0:a0.size≤140737488351232:=by
  obtain⟨b0,eb0,rfl,rfl,_⟩:=open_string Try.underlying9 (hval 0 9 _ rfl rfl) h0
  cases eb0
  have z:=sized_string hsz (j:=0) (t:=9) rfl rfl
  rw[Array.length_toList]at z
  exact z
 have lt1:∀ x∈p1,x.block<W.heap.size:=by obtain⟨m,hm⟩:=h1;exact DataW.trod_lt m _ _ _ hm
 obtain⟨a1,e1,w1⟩:=op9.arg (fun _=>ag9) (hval 1 9 v1 rfl rfl) h1
 obtain rfl:v1=.string a1:=e1
 have y1:a1.size≤140737488351232:=by
  obtain⟨b1,eb1,rfl,rfl,_⟩:=open_string Try.underlying9 (hval 1 9 _ rfl rfl) h1
  cases eb1
  have z:=sized_string hsz (j:=1) (t:=9) rfl rfl
  rw[Array.length_toList]at z
  exact z
 obtain⟨k,hk⟩:=bosketlaw11_RulesOne_true a0 a1 w0 y0 w1 y1
 refine(Spec.law (F7_spec hk) (fun x hx=>by simp[tabs]at hx) (All2.cons (show V1 (g0 W) (eStr a0) (.string a0)from rfl) (All2.cons (show V1 (g0 W) (eStr a1) (.string a1)from rfl) All2.nil))).mono fun e W' ⟨he,bel⟩=>?_
 subst he
 exact⟨_,rfl,_,_,_,[],_,[],hW',trodAll_mk1 (shut_bool Try.underlying4 _),(trodAll_cons_mk (Below.trod laidOut (by kernel_rfl) (of_decide_eq_true (by kernel_rfl)) h0 bel lt0) (trodAll_cons_mk (Below.trod laidOut (by kernel_rfl) (of_decide_eq_true (by kernel_rfl)) h1 bel lt1) trodAll_mk0)),rfl,bel.frame _,fun h=>by cases h⟩
theorem over:Rows.rulesOneRow.holds Try.pinned (OpenSpec.ofChange Rows.rulesOneSpec):=
 OpenClaim.holds_of_wide 7 Try.f7 rfl rfl rfl rfl rfl rfl rfl ⟨rfl,rfl,rfl,rfl,rfl⟩ rfl rfl rfl rfl rfl (by kernel_rfl) Try.func7 (by kernel_rfl)
  (of_decide_eq_true (by kernel_rfl)) (by unfold Func.isWrapper;first| (rw[if_pos (by decide+kernel)];kernel_rfl)| (rw[if_neg (by decide+kernel)];exact⟨rfl,rfl⟩))
  (fun os started H enc _=>lifted os started H enc)
theorem proved:Rows.RulesOneSaid:=over
#print axioms proved
end Go.Proofs.Ytpkgpmmcbpfenaa.rulesOne
namespace Go.Proofs.Ytpkgpmmcbpfenaa
theorem rulesOne_holds:Rows.RulesOneSaid:=rulesOne.proved
end Go.Proofs.Ytpkgpmmcbpfenaa
