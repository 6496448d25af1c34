/- Parts: Av30. -/
import Derived.Test.YtcdennkoccjacaaAv2
/- The rules under short names, with what follows by computing left out. -/
namespace Go.Avl
open Go Go.RowKit
set_option linter.unusedVariables false
inductive Keep : List Nat → Env → Env → Prop
  | nil {ρ : Env} : Keep [] ρ []
  | cons {t : Nat} {ts : List Nat} {ρ ρ' : Env} {x : AV} : ρ.lookup t = some x → Keep ts ρ ρ' → Keep (t :: ts) ρ ((t, x) :: ρ')
theorem Keep.sub {ts : List Nat} {ρ ρ' : Env} (h : Keep ts ρ ρ') : ESub ρ' ρ := by
  induction h with
  | nil => trivial
  | cons h _ ih => exact ⟨h, ih⟩
theorem bD {a b : Bool} (h : a = b) : some (AV.fl (Value.bool a)) = some (AV.fl (Value.bool b)) := congrArg (fun b => some (AV.fl (Value.bool b))) h
theorem of_ite {p : Prop} [Decidable p] {α : Type} {a b r : α} (h : (if p then a else b) = r) : (p ∧ a = r) ∨ (¬p ∧ b = r) := by
  by_cases q : p
  · exact .inl ⟨q, by rwa [if_pos q] at h⟩
  · exact .inr ⟨q, by rwa [if_neg q] at h⟩
section
variable {P : Program} {N : Nat} {ops : Array Oper} {o : Oper} {rest : List Oper} {K : Env → Heap → Prop} {ρ ρ' : Env} {H H' : Heap} {x : AV}
theorem AO.c {d : Nat} (hc : Calm P o ρ H x) (h : AO P N ops rest K ((d, x) :: ρ) H) (hg : o.guard = none := by rfl) (hd : o.dst = some d := by rfl) (hN : d < N := by decide) : AO P N ops (o :: rest) K ρ H := AO.calm hg d hd hN x hc h
theorem AO.cG {d j e : Nat} {b : Bool} (hg : o.guard = some (j, b)) (he : (ops[j]?).bind (·.dst) = some e) (hb : ρ.lookup e = some (.fl (.bool b))) (hc : Calm P o ρ H x) (h : AO P N ops rest K ((d, x) :: ρ) H) (hd : o.dst = some d := by rfl) (hN : d < N := by decide) : AO P N ops (o :: rest) K ρ H := AO.calmG j b e hg he hb d hd hN x hc h
theorem AO.sT {d j e : Nat} (hg : o.guard = some (j, true)) (he : (ops[j]?).bind (·.dst) = some e) (hb : ρ.lookup e = some (.fl (.bool false))) (h : AO P N ops rest K ((d, .fl undef) :: ρ) H) (hd : o.dst = some d := by rfl) (hN : d < N := by decide) : AO P N ops (o :: rest) K ρ H := AO.skipG j false e hg he hb d hd hN h
theorem AO.sF {d j e : Nat} (hg : o.guard = some (j, false)) (he : (ops[j]?).bind (·.dst) = some e) (hb : ρ.lookup e = some (.fl (.bool true))) (h : AO P N ops rest K ((d, .fl undef) :: ρ) H) (hd : o.dst = some d := by rfl) (hN : d < N := by decide) : AO P N ops (o :: rest) K ρ H := AO.skipG j true e hg he hb d hd hN h
theorem AO.sU {d j e : Nat} {b : Bool} (hg : o.guard = some (j, b)) (he : (ops[j]?).bind (·.dst) = some e) (hb : ρ.lookup e = some (.fl undef)) (h : AO P N ops rest K ((d, .fl undef) :: ρ) H) (hd : o.dst = some d := by rfl) (hN : d < N := by decide) : AO P N ops (o :: rest) K ρ H := AO.skipU j b e hg he hb d hd hN h
theorem AO.nK (ks : List Nat) (hk : K ρ' H) (hs : Keep ks ρ ρ' := by repeat' (first | exact Keep.nil | apply Keep.cons rfl)) : AO P N ops [] K ρ H := AO.nil hs.sub (Sub.refl _) hk
theorem AO.nH (ks : List Nat) (hH : Sub H' H) (hk : K ρ' H') (hs : Keep ks ρ ρ' := by repeat' (first | exact Keep.nil | apply Keep.cons rfl)) : AO P N ops [] K ρ H := AO.nil hs.sub hH hk
theorem AO.wK (ks : List Nat) (h : AO P N ops rest K ρ' H) (hs : Keep ks ρ ρ' := by repeat' (first | exact Keep.nil | apply Keep.cons rfl)) : AO P N ops rest K ρ H := AO.weak hs.sub (Sub.refl _) h
theorem AO.wH (ks : List Nat) (hH : Sub H' H) (h : AO P N ops rest K ρ' H') (hs : Keep ks ρ ρ' := by repeat' (first | exact Keep.nil | apply Keep.cons rfl)) : AO P N ops rest K ρ H := AO.weak hs.sub hH h
theorem AO.nE {d : Nat} (hl : ρ.lookup d = some x) (hk : K [(d, x)] H) : AO P N ops [] K ρ H := AO.nil (ρ' := [(d, x)]) ⟨hl, trivial⟩ (Sub.refl _) hk
theorem AO.n0 (hk : K [] H) : AO P N ops [] K ρ H := AO.nil (ρ' := []) trivial (Sub.refl _) hk
end
section
variable {P : Program} {N : Nat} {ops : Array Oper} {o : Oper} {rest : List Oper} {K : Env → Prop} {ρ ρ' : Env} {H H' : Heap} {x : AV}
theorem AQ.c {d : Nat} (hc : Calm P o ρ H x) (h : AQ P N ops rest K ((d, x) :: ρ) H) (hg : o.guard = none := by rfl) (hd : o.dst = some d := by rfl) (hN : d < N := by decide) : AQ P N ops (o :: rest) K ρ H := AQ.calm hg d hd hN x hc h
theorem AQ.cG {d j e : Nat} {b : Bool} (hg : o.guard = some (j, b)) (he : (ops[j]?).bind (·.dst) = some e) (hb : ρ.lookup e = some (.fl (.bool b))) (hc : Calm P o ρ H x) (h : AQ P N ops rest K ((d, x) :: ρ) H) (hd : o.dst = some d := by rfl) (hN : d < N := by decide) : AQ P N ops (o :: rest) K ρ H := AQ.calmG j b e hg he hb d hd hN x hc h
theorem AQ.sT {d j e : Nat} (hg : o.guard = some (j, true)) (he : (ops[j]?).bind (·.dst) = some e) (hb : ρ.lookup e = some (.fl (.bool false))) (h : AQ P N ops rest K ((d, .fl undef) :: ρ) H) (hd : o.dst = some d := by rfl) (hN : d < N := by decide) : AQ P N ops (o :: rest) K ρ H := AQ.skipG j false e hg he hb d hd hN h
theorem AQ.sF {d j e : Nat} (hg : o.guard = some (j, false)) (he : (ops[j]?).bind (·.dst) = some e) (hb : ρ.lookup e = some (.fl (.bool true))) (h : AQ P N ops rest K ((d, .fl undef) :: ρ) H) (hd : o.dst = some d := by rfl) (hN : d < N := by decide) : AQ P N ops (o :: rest) K ρ H := AQ.skipG j true e hg he hb d hd hN h
theorem AQ.sU {d j e : Nat} {b : Bool} (hg : o.guard = some (j, b)) (he : (ops[j]?).bind (·.dst) = some e) (hb : ρ.lookup e = some (.fl undef)) (h : AQ P N ops rest K ((d, .fl undef) :: ρ) H) (hd : o.dst = some d := by rfl) (hN : d < N := by decide) : AQ P N ops (o :: rest) K ρ H := AQ.skipU j b e hg he hb d hd hN h
theorem AQ.nK (ks : List Nat) (hk : K ρ') (hs : Keep ks ρ ρ' := by repeat' (first | exact Keep.nil | apply Keep.cons rfl)) : AQ P N ops [] K ρ H := AQ.nil hs.sub hk
end
section
variable {P : Program} {N : Nat} {Q : Exit → Env → Heap → Prop} {ρ ρ' : Env} {H H' : Heap} {c c' : Code}
theorem AW.wK (ks : List Nat) (h : AW P N c Q ρ' H) (hs : Keep ks ρ ρ' := by repeat' (first | exact Keep.nil | apply Keep.cons rfl)) : AW P N c Q ρ H := AW.weak hs.sub (Sub.refl _) h
theorem AW.wH (ks : List Nat) (hH : Sub H' H) (h : AW P N c Q ρ' H') (hs : Keep ks ρ ρ' := by repeat' (first | exact Keep.nil | apply Keep.cons rfl)) : AW P N c Q ρ H := AW.weak hs.sub hH h
theorem AW.sK (ks : List Nat) (h : Q .normal ρ' H) (hs : Keep ks ρ ρ' := by repeat' (first | exact Keep.nil | apply Keep.cons rfl)) : AW P N .skip Q ρ H := AW.skip hs.sub (Sub.refl _) h
theorem AW.eK {id : Nat} (ks : List Nat) (h : Q (.exit id) ρ' H) (hs : Keep ks ρ ρ' := by repeat' (first | exact Keep.nil | apply Keep.cons rfl)) : AW P N (.exit id) Q ρ H := AW.exit hs.sub (Sub.refl _) h
theorem AW.eH {id : Nat} (ks : List Nat) (hH : Sub H' H) (h : Q (.exit id) ρ' H') (hs : Keep ks ρ ρ' := by repeat' (first | exact Keep.nil | apply Keep.cons rfl)) : AW P N (.exit id) Q ρ H := AW.exit hs.sub hH h
theorem AW.rK (ks : List Nat) (h : Q .ret ρ' H) (hs : Keep ks ρ ρ' := by repeat' (first | exact Keep.nil | apply Keep.cons rfl)) : AW P N .ret Q ρ H := AW.ret hs.sub (Sub.refl _) h
theorem AW.rH (ks : List Nat) (hH : Sub H' H) (h : Q .ret ρ' H') (hs : Keep ks ρ ρ' := by repeat' (first | exact Keep.nil | apply Keep.cons rfl)) : AW P N .ret Q ρ H := AW.ret hs.sub hH h
theorem AW.lK {l : Nat} (ks : List Nat) (h : Q .normal ρ' H) (hs : Keep ks ρ ρ' := by repeat' (first | exact Keep.nil | apply Keep.cons rfl)) : AW P N (.label l) Q ρ H := AW.label hs.sub (Sub.refl _) h
theorem AW.sr {id : Nat} {l : List Oper} {rest : Code} (h : AO P N l.toArray l (Then (AW P N rest Q) Q .normal) ρ H) : AW P N (.seq (.region id l.toArray false) rest) Q ρ H := AW.seq (AW.reg h)
end
end Go.Avl
