/- Parts: T7f76, T7f77, T7f62, T7f129, T7f113, T7f112, T7f89. -/
import Derived.Test.YtpkgpmmcbpfenaaAF1
import Derived.Test.YtpkgpmmcbpfenaaAF4
import Derived.Test.YtpkgpmmcbpfenaaAF5
import Derived.Test.YtpkgpmmcbpfenaaAF3
/- bosket/subset.Of; printed by avmain.py. -/
namespace Go.Avl.T7
open Go Go.RowKit Go.Proofs Go.Avl
set_option linter.unusedVariables false
set_option maxRecDepth 100000
set_option maxHeartbeats 4000000
set_option linter.unusedSimpArgs false
attribute [local irreducible] AW AO AQ Spec SpecH Calm

def F76_c0 (k : Nat) (x26 : Int) (x27 : (List S152)) (x28 : Int) (x29 : Int) (x30 : (List Int)) (x31 : (List Int)) (x33 : (List (ByteArray × Int))) (x35 : (List (List Bool))) (x36 : (Vector Int 256)) (x38 : (List (List Int))) (x40 : (List Int)) : Option (S55 × Int) :=
  some ((S55.mk x36 x38 x40), (0 : Int))
def F76_c1 (k : Nat) (rec57 : (Int → (List S152) → Int → Int → (List Int) → (List Int) → (List (ByteArray × Int)) → (List (List Bool)) → (Vector Int 256) → (List (List Int)) → (List Int) → Int → Option (S55 × Int))) (x56 : Int) (x60 : Int) (x61 : (List S152)) (x62 : Int) (x63 : Int) (x64 : (List Int)) (x65 : (List Int)) (x67 : (List (ByteArray × Int))) (x69 : (List (List Bool))) (x70 : (Vector Int 256)) (x72 : (List (List Int))) (x74 : (List Int)) : Option (S55 × Int) :=
  rec57 x60 x61 x62 x63 x64 x65 x67 x69 x70 x72 x74 (w64 (x56 + (1 : Int)))
def F76_c2 (k : Nat) (rec57 : (Int → (List S152) → Int → Int → (List Int) → (List Int) → (List (ByteArray × Int)) → (List (List Bool)) → (Vector Int 256) → (List (List Int)) → (List Int) → Int → Option (S55 × Int))) (x56 : Int) (x76 : Int) (x77 : (List S152)) (x78 : Int) (x79 : Int) (x80 : (List Int)) (x81 : (List Int)) (x83 : (List (ByteArray × Int))) (x85 : (List (List Bool))) (x86 : (Vector Int 256)) (x88 : (List (List Int))) (x90 : (List Int)) (x92 : (List Int)) : Option (S55 × Int) :=
  if (x88 ++ ([x92] : List (List Int))).length * 24 ≤ 140737488355328 then F76_c1 k rec57 x56 x76 x77 x78 x79 x80 x81 x83 x85 x86 (x88 ++ ([x92] : List (List Int))) x90
  else none
def F76_l3 (k : Nat) (rec57 : (Int → (List S152) → Int → Int → (List Int) → (List Int) → (List (ByteArray × Int)) → (List (List Bool)) → (Vector Int 256) → (List (List Int)) → (List Int) → Int → Option (S55 × Int))) (p0 : S121) (x46 : (List Int)) (x56 : Int) : Nat → Int → (List S152) → Int → Int → (List Int) → (List Int) → (List (ByteArray × Int)) → (List (List Bool)) → (Vector Int 256) → (List (List Int)) → (List Int) → (List Int) → Int → Option (S55 × Int)
  | 0, _, _, _, _, _, _, _, _, _, _, _, _, _ => none
  | j + 1, x96, x97, x98, x99, x100, x101, x103, x105, x106, x108, x110, x112, x113 =>
    if x113 < (x46.length : Int) then if 0 ≤ x113 ∧ x113 < (x46.length : Int) then if 0 ≤ x56 ∧ x56 < (x105.length : Int) then (F100 k p0 (lget x105 x56) (lget x46 x113)).bind fun t119 =>
    (F99 k p0 t119).bind fun t120 =>
    (F98 k (S156.mk (S121.mk x96 x97 x98 x99) x100 x101 x103 x105 (S55.mk x106 x108 x110)) t120).bind fun t121 =>
    if (x112 ++ ([t121.1] : List Int)).length * 8 ≤ 140737488355328 then (F76_l3 k rec57 p0 x46 x56 j) t121.2.f0.f0 t121.2.f0.f1 t121.2.f0.f2 t121.2.f0.f3 t121.2.f1 t121.2.f2 t121.2.f3 t121.2.f4 t121.2.f5.f0 t121.2.f5.f1 t121.2.f5.f2 (x112 ++ ([t121.1] : List Int)) (w64 (x113 + (1 : Int)))
    else none
    else none
    else none
    else F76_c2 k rec57 x56 x96 x97 x98 x99 x100 x101 x103 x105 x106 x108 x110 x112
def F76_l4 (k : Nat) (p0 : S121) : Nat → Int → (List S152) → Int → Int → (List Int) → (List Int) → (List (ByteArray × Int)) → (List (List Bool)) → (Vector Int 256) → (List (List Int)) → (List Int) → Int → Option (S55 × Int)
  | 0, _, _, _, _, _, _, _, _, _, _, _, _ => none
  | j + 1, x41, x42, x43, x44, x45, x46, x48, x50, x51, x53, x55, x56 =>
    if x56 < (x50.length : Int) then if (2000 : Int) < (x50.length : Int) then some ((S55.mk (Vector.replicate 256 (0 : Int)) ([] : List (List Int)) ([] : List Int)), (6 : Int))
    else F76_l3 k (F76_l4 k p0 j) p0 x46 x56 k x41 x42 x43 x44 x45 x46 x48 x50 x51 x53 x55 ([] : List Int) (0 : Int)
    else F76_c0 k x41 x42 x43 x44 x45 x46 x48 x50 x51 x53 x55
def F76_c5 (k : Nat) (p0 : S121) (p1 : (List Int)) (t10 : (Vector Int 256)) (x12 : (List Int)) : Option (S55 × Int) :=
  if 0 ≤ p0.f0 ∧ p0.f0 * (1 : Int) ≤ 140737488355328 ∧ p0.f0 ≤ 9223372036854775807 then if 0 ≤ p0.f2 ∧ p0.f2 < ((List.replicate p0.f0.toNat false).length : Int) then (F99 k p0 (lset (List.replicate p0.f0.toNat false) p0.f2 true)).bind fun t16 =>
  (F98 k (S156.mk p0 p1 x12 ([] : List (ByteArray × Int)) ([] : List (List Bool)) (S55.mk t10 ([] : List (List Int)) ([] : List Int))) t16).bind fun t20 =>
  F76_l4 k p0 k t20.2.f0.f0 t20.2.f0.f1 t20.2.f0.f2 t20.2.f0.f3 t20.2.f1 t20.2.f2 t20.2.f3 t20.2.f4 t20.2.f5.f0 t20.2.f5.f1 t20.2.f5.f2 (0 : Int)
  else none
  else none
def F76_c6 (k : Nat) (rec134 : ((List Int) → Int → Option (S55 × Int))) (x133 : Int) (x138 : (List Int)) : Option (S55 × Int) :=
  rec134 x138 (w64 (x133 + (1 : Int)))
def F76_l7 (k : Nat) (p0 : S121) (p1 : (List Int)) (t10 : (Vector Int 256)) : Nat → (List Int) → Int → Option (S55 × Int)
  | 0, _, _ => none
  | j + 1, x132, x133 =>
    if x133 < (256 : Int) then if 0 ≤ x133 ∧ x133 < (256 : Int) then if (w64 (vget t10 x133)) = (x132.length : Int) then if (x132 ++ ([(w8 x133)] : List Int)).length * 1 ≤ 140737488355328 then F76_c6 k (F76_l7 k p0 p1 t10 j) x133 (x132 ++ ([(w8 x133)] : List Int))
    else none
    else F76_c6 k (F76_l7 k p0 p1 t10 j) x133 x132
    else none
    else F76_c5 k p0 p1 t10 x132
def F76 (k : Nat) (p0 : S121) (p1 : (List Int)) : Option (S55 × Int) :=
  (F95 k p0).bind fun t5 =>
  if (!t5) = true then some ((S55.mk (Vector.replicate 256 (0 : Int)) ([] : List (List Int)) ([] : List Int)), (1 : Int))
  else (F97 k p0).bind fun t9 =>
  (F96 k t9).bind fun t10 =>
  F76_l7 k p0 p1 t10 k ([] : List Int) (0 : Int)
theorem F76_spec {k : Nat} {p0 : S121} {p1 : (List Int)} {r : (S55 × Int)} (h : F76 k p0 p1 = some r) : Spec Try.prog 76 [(e121 p0), (.fz 1 (p1.map eI64))] (.tup [(e55 r.1), (eI64 r.2)]) := by
  rw [F76.eq_1] at h
  refine Spec.intro (res := [.cell 4 55, .tmp 5]) Try.func76 rfl rfl rfl (Nat.le_of_ble_eq_true rfl) ?_
  refine AW.sr ?_
  refine AO.box rfl 2 rfl (by decide) rfl rfl rfl fun n3 => ?_
  refine AO.alloc rfl 4 rfl (by decide) rfl zr55 lay55 fun n4 => ?_
  refine AO.ag rfl rfl ?_
  refine AO.nH [1, 2, 4] (H' := [(n3, (.mem (e121 p0))), (n4, (.mem (.st [(256, (.ar 1 ((Vector.replicate 256 (0 : Int)).toList.map eU8))), (1, (.fl (.slice none 0 0))), (1, (.fl (.slice none 0 0)))])))]) (Sub.cons 1 rfl (Sub.cons 0 rfl (Sub.nil _))) ?_
  refine AW.seq ?_
  refine AW.sr ?_
  refine AO.c (Calm.load 0 rfl rfl rfl (At.cast At.here rfl) ag121 sz121) ?_
  obtain ⟨t5, et5, h⟩ := of_bind h
  refine AO.callS [(e121 p0)] (eBool t5) 14 rfl (by decide) ok95 rfl rfl rfl ⟨rfl, rfl, trivial⟩ (F95_spec et5) ?_
  refine AO.c (Calm.not rfl rfl) ?_
  refine AO.nK [1, 2, 4, 15] ?_
  rcases of_ite h with ⟨hc6, h⟩ | ⟨hc6, h⟩
  ·refine AW.condT' _ rfl hc6 ?_
   refine AW.sr ?_
   refine AO.c (x := .st [(256, (.ar 1 ((Vector.replicate 256 (0 : Int)).toList.map eU8))), (1, (.fl (.slice none 0 0))), (1, (.fl (.slice none 0 0)))]) (Calm.build (qs := []) rfl trivial Try.underlying55 rfl zr55 lay55 .nil rfl) ?_
   refine AO.store (X' := (.st [(256, (.ar 1 ((Vector.replicate 256 (0 : Int)).toList.map eU8))), (1, (.fl (.slice none 0 0))), (1, (.fl (.slice none 0 0)))])) 1 rfl rfl rfl rfl rfl rfl (Put.cast Put.here rfl) rfl rfl sz55 rfl ?_
   refine AO.ag rfl rfl ?_
   refine AO.nH [4, 5] (H' := [(n4, (.mem (.st [(256, (.ar 1 ((Vector.replicate 256 (0 : Int)).toList.map eU8))), (1, (.fl (.slice none 0 0))), (1, (.fl (.slice none 0 0)))])))]) (Sub.cons 1 rfl (Sub.nil _)) ?_
   refine AW.coeFld (X' := (.st [(256, (.ar 1 ((Vector.replicate 256 (0 : Int)).toList.map eU8))), (1, (.fz 1 (([] : List (List Int)).map e35))), (1, (.fl (.slice none 0 0)))])) 0 rfl (Put.cast (Put.fldS (Put.fld0 Put.here)) rfl) rfl (nil_fz 1) rfl rfl ?_
   refine AW.coeFld (X' := (.st [(256, (.ar 1 ((Vector.replicate 256 (0 : Int)).toList.map eU8))), (1, (.fz 1 (([] : List (List Int)).map e35))), (1, (.fz 1 (([] : List Int).map eI64)))])) 0 rfl (Put.cast (Put.fldS (Put.fldS (Put.fld0 Put.here))) rfl) rfl (nil_fz 1) rfl rfl ?_
   refine AW.rK [4, 5] ?_
   have hr := Option.some.inj h
   subst hr
   exact ⟨[(e55 (S55.mk (Vector.replicate 256 (0 : Int)) ([] : List (List Int)) ([] : List Int))), (eI64 (1 : Int))], ⟨⟨_, 0, rfl, rfl, ag55, sz55⟩, rfl, rfl, trivial⟩, rfl⟩
  ·refine AW.condF' _ rfl hc6 ?_
   refine AW.sK [1, 2, 4] ?_
   refine AW.sr ?_
   refine AO.c (Calm.load 0 rfl rfl rfl (At.cast At.here rfl) ag121 sz121) ?_
   refine AO.mv rfl rfl ?_
   refine AO.makeMap rfl 19 rfl (by decide) rfl fun n7 => ?_
   refine AO.c (x := .st [(4, (e121 p0)), (1, (.fz 1 (p1.map eI64))), (1, (.fl (.slice none 0 0))), (1, (.mp n7)), (1, (.fl (.slice none 0 0))), (258, (.st [(256, (.ar 1 ((Vector.replicate 256 (0 : Int)).toList.map eU8))), (1, (.fl (.slice none 0 0))), (1, (.fl (.slice none 0 0)))]))]) (Calm.build (qs := [(0, (e121 p0)), (1, (.fz 1 (p1.map eI64))), (3, (.mp n7))]) rfl ⟨rfl, rfl, rfl, rfl, rfl, rfl, rfl, rfl, rfl, trivial⟩ Try.underlying156 rfl zr156 lay156 (.cons rfl rfl rfl rfl (Put.cast (Put.fld0 Put.here) rfl) (.cons rfl rfl rfl rfl (Put.cast (Put.fldS (Put.fld0 Put.here)) rfl) (.cons rfl rfl rfl rfl (Put.cast (Put.fldS (Put.fldS (Put.fldS (Put.fld0 Put.here)))) rfl) .nil))) rfl) ?_
   refine AO.box rfl 21 rfl (by decide) rfl rfl rfl fun n8 => ?_
   refine AO.ag rfl rfl ?_
   refine AO.nH [2, 4, 6] (H' := [(n3, (.mem (e121 p0))), (n4, (.mem (.st [(256, (.ar 1 ((Vector.replicate 256 (0 : Int)).toList.map eU8))), (1, (.fl (.slice none 0 0))), (1, (.fl (.slice none 0 0)))]))), (n8, (.mem (.st [(4, (e121 p0)), (1, (.fz 1 (p1.map eI64))), (1, (.fl (.slice none 0 0))), (1, (.mp n7)), (1, (.fl (.slice none 0 0))), (258, (.st [(256, (.ar 1 ((Vector.replicate 256 (0 : Int)).toList.map eU8))), (1, (.fl (.slice none 0 0))), (1, (.fl (.slice none 0 0)))]))]))), (n7, (.map (encM Value.string eI64 ([] : List (ByteArray × Int)))))]) (Sub.cons 2 rfl (Sub.cons 2 rfl (Sub.cons 0 rfl (Sub.cons 0 rfl (Sub.nil _))))) ?_
   refine AW.sr ?_
   refine AO.mv rfl rfl ?_
   refine AO.c (Calm.load 0 rfl rfl rfl (At.cast At.here rfl) ag121 sz121) ?_
   obtain ⟨t9, et9, h⟩ := of_bind h
   refine AO.callS [(e121 p0)] (.fz 4 (t9.map e62)) 24 rfl (by decide) ok97 rfl rfl rfl ⟨rfl, rfl, trivial⟩ (F97_spec et9) ?_
   obtain ⟨t10, et10, h⟩ := of_bind h
   refine AO.callS [(.fz 4 (t9.map e62))] (.ar 1 (t10.toList.map eU8)) 25 rfl (by decide) ok96 rfl rfl rfl ⟨rfl, rfl, trivial⟩ (F96_spec et10) ?_
   refine AO.c (Calm.nilCheck rfl rfl) ?_
   refine AO.c (x := .ptr n8 8) (Calm.fldPtr rfl rfl Try.underlying156 rfl sz55 _ rfl) ?_
   refine AO.c (x := .ptr n8 8) (Calm.fldPtr rfl rfl Try.underlying55 rfl sz52 _ rfl) ?_
   refine AO.store (X' := (.st [(4, (e121 p0)), (1, (.fz 1 (p1.map eI64))), (1, (.fl (.slice none 0 0))), (1, (.mp n7)), (1, (.fl (.slice none 0 0))), (258, (.st [(256, (.ar 1 (t10.toList.map eU8))), (1, (.fl (.slice none 0 0))), (1, (.fl (.slice none 0 0)))]))])) 2 rfl rfl rfl rfl rfl rfl (Put.cast (Put.fldS (Put.fldS (Put.fldS (Put.fldS (Put.fldS (Put.fld0 (Put.fld0 Put.here))))))) rfl) rfl (by simp [AV.size]) (by rw [sz52]; simp [AV.size]) rfl ?_
   refine AO.nK [2, 4, 6] ?_
   refine AW.seq_mid (fun ρ H => ∃ (n11 : Nat) (x12 : (List Int)), ρ = [(2, (.ptr n3 0)), (4, (.ptr n4 0)), (6, (.ptr n8 0))] ∧ H = [(n3, (.mem (e121 p0))), (n4, (.mem (.st [(256, (.ar 1 ((Vector.replicate 256 (0 : Int)).toList.map eU8))), (1, (.fl (.slice none 0 0))), (1, (.fl (.slice none 0 0)))]))), (n8, (.mem (.st [(4, (e121 p0)), (1, (.fz 1 (p1.map eI64))), (1, (.own n11 0 x12.length)), (1, (.mp n7)), (1, (.fl (.slice none 0 0))), (258, (.st [(256, (.ar 1 (t10.toList.map eU8))), (1, (.fl (.slice none 0 0))), (1, (.fl (.slice none 0 0)))]))]))), (n11, (.mem (.ar 1 (x12.map eU8)))), (n7, (.map (encM Value.string eI64 ([] : List (ByteArray × Int)))))] ∧ F76_c5 k p0 p1 t10 x12 = some r) ?_ ?_
   ·refine AW.sr ?_
    refine AO.mv rfl rfl ?_
    refine AO.nK [2, 4, 6, 29] ?_
    refine AW.block ?_
    refine AW.nilOwnFld 2 1 (fun n144 => (.st [(4, (e121 p0)), (1, (.fz 1 (p1.map eI64))), (1, (.own n144 0 0)), (1, (.mp n7)), (1, (.fl (.slice none 0 0))), (258, (.st [(256, (.ar 1 (t10.toList.map eU8))), (1, (.fl (.slice none 0 0))), (1, (.fl (.slice none 0 0)))]))])) rfl (fun _ => (Put.cast (Put.fldS (Put.fldS (Put.fld0 Put.here))) rfl)) (fun _ => rfl) (fun _ => rfl) fun n144 => ?_
    refine AW.wH [2, 4, 6, 29] (H' := [(n3, (.mem (e121 p0))), (n4, (.mem (.st [(256, (.ar 1 ((Vector.replicate 256 (0 : Int)).toList.map eU8))), (1, (.fl (.slice none 0 0))), (1, (.fl (.slice none 0 0)))]))), (n8, (.mem (.st [(4, (e121 p0)), (1, (.fz 1 (p1.map eI64))), (1, (.own n144 0 ([] : List Int).length)), (1, (.mp n7)), (1, (.fl (.slice none 0 0))), (258, (.st [(256, (.ar 1 (t10.toList.map eU8))), (1, (.fl (.slice none 0 0))), (1, (.fl (.slice none 0 0)))]))]))), (n144, (.mem (.ar 1 (([] : List Int).map eU8)))), (n7, (.map (encM Value.string eI64 ([] : List (ByteArray × Int)))))]) (Sub.cons 1 rfl (Sub.cons 1 rfl (Sub.cons 1 rfl (Sub.cons 0 rfl (Sub.cons 0 rfl (Sub.nil _)))))) ?_
    refine AW.loop (fun kq ρ H => ∃ (n131 : Nat) (x132 : (List Int)) (x133 : Int), ρ = [(2, (.ptr n3 0)), (4, (.ptr n4 0)), (6, (.ptr n8 0)), (29, (eI64 x133))] ∧ H = [(n3, (.mem (e121 p0))), (n4, (.mem (.st [(256, (.ar 1 ((Vector.replicate 256 (0 : Int)).toList.map eU8))), (1, (.fl (.slice none 0 0))), (1, (.fl (.slice none 0 0)))]))), (n8, (.mem (.st [(4, (e121 p0)), (1, (.fz 1 (p1.map eI64))), (1, (.own n131 0 x132.length)), (1, (.mp n7)), (1, (.fl (.slice none 0 0))), (258, (.st [(256, (.ar 1 (t10.toList.map eU8))), (1, (.fl (.slice none 0 0))), (1, (.fl (.slice none 0 0)))]))]))), (n131, (.mem (.ar 1 (x132.map eU8)))), (n7, (.map (encM Value.string eI64 ([] : List (ByteArray × Int)))))] ∧ F76_l7 k p0 p1 t10 kq x132 x133 = some r) k ⟨n144, ([] : List Int), (0 : Int), rfl, rfl, h⟩ ?_
    rintro kq135 _ _ ⟨n131, x132, x133, rfl, rfl, h⟩
    cases kq135 with
    | zero => rw [F76_l7.eq_1] at h; cases h
    | succ kq135 =>
    rw [F76_l7.eq_2] at h
    generalize hrec134 : F76_l7 k p0 p1 t10 kq135 = rec134 at h
    refine AW.sr ?_
    refine AO.c (x := eBool (decide (x133 < (256 : Int)))) (Calm.int rfl rfl rfl rfl) ?_
    refine AO.nK [2, 4, 6, 29, 30] ?_
    refine AW.seq ?_
    rcases of_ite h with ⟨hc136, h⟩ | ⟨hc136, h⟩
    ·refine AW.condP _ rfl hc136 ?_
     refine AW.sK [2, 4, 6, 29] ?_
     refine AW.seq_mid (fun ρ H => ∃ (n137 : Nat) (x138 : (List Int)), ρ = [(2, (.ptr n3 0)), (4, (.ptr n4 0)), (6, (.ptr n8 0)), (29, (eI64 x133))] ∧ H = [(n3, (.mem (e121 p0))), (n4, (.mem (.st [(256, (.ar 1 ((Vector.replicate 256 (0 : Int)).toList.map eU8))), (1, (.fl (.slice none 0 0))), (1, (.fl (.slice none 0 0)))]))), (n8, (.mem (.st [(4, (e121 p0)), (1, (.fz 1 (p1.map eI64))), (1, (.own n137 0 x138.length)), (1, (.mp n7)), (1, (.fl (.slice none 0 0))), (258, (.st [(256, (.ar 1 (t10.toList.map eU8))), (1, (.fl (.slice none 0 0))), (1, (.fl (.slice none 0 0)))]))]))), (n137, (.mem (.ar 1 (x138.map eU8)))), (n7, (.map (encM Value.string eI64 ([] : List (ByteArray × Int)))))] ∧ F76_c6 k rec134 x133 x138 = some r) ?_ ?_
     ·refine AW.block ?_
      refine AW.sr ?_
      refine AO.mv rfl rfl ?_
      refine AO.ag rfl rfl ?_
      refine AO.nK [2, 4, 6, 7, 29] ?_
      refine AW.seq ?_
      refine AW.regQ (by rfl) (by decide +kernel) ?_
      refine AQ.c (Calm.move rfl rfl) ?_
      refine AQ.c (Calm.move rfl rfl) ?_
      refine AQ.c (Calm.nilCheck rfl rfl) ?_
      refine AQ.c (x := .ptr n8 8) (Calm.fldPtr rfl rfl Try.underlying156 rfl sz55 _ rfl) ?_
      refine AQ.c (x := .ptr n8 8) (Calm.fldPtr rfl rfl Try.underlying55 rfl sz52 _ rfl) ?_
      obtain ⟨hg139, h⟩ := of_guard h
      refine AQ.c (Calm.idxP rfl rfl rfl hg139 Try.underlying52 sz5) ?_
      refine AQ.c (Calm.load 2 rfl rfl rfl (At.cast (At.fldS (At.fldS (At.fldS (At.fldS (At.fldS (At.fld0 (At.fld0 (At.vidx x133 hg139.1 hg139.2 At.here)))))))) (by omega)) ag5 sz5) ?_
      refine AQ.c (x := eI64 (w64 (vget t10 x133))) (Calm.conv rfl rfl Try.underlying5 Try.underlying3) ?_
      refine AQ.c (Calm.move rfl rfl) ?_
      refine AQ.c (Calm.nilCheck rfl rfl) ?_
      refine AQ.c (x := .ptr n8 5) (Calm.fldPtr rfl rfl Try.underlying156 rfl sz102 _ rfl) ?_
      refine AQ.c (Calm.load 2 rfl rfl rfl (At.cast (At.fldS (At.fldS (At.fld0 At.here))) rfl) ag102 sz102) ?_
      refine AQ.c (Calm.lenOwn rfl rfl Try.underlying102) ?_
      refine AQ.c (x := eBool (decide ((w64 (vget t10 x133)) = (x132.length : Int)))) (Calm.int rfl rfl rfl rfl) ?_
      refine AQ.nK [2, 4, 6, 7, 29, 45] ?_
      rcases of_ite h with ⟨hc140, h⟩ | ⟨hc140, h⟩
      ·refine AW.condP _ rfl hc140 ?_
       refine AW.reg ?_
       refine AO.mv rfl rfl ?_
       refine AO.mv rfl rfl ?_
       refine AO.c (Calm.nilCheck rfl rfl) ?_
       refine AO.c (x := .ptr n8 5) (Calm.fldPtr rfl rfl Try.underlying156 rfl sz102 _ rfl) ?_
       refine AO.c (Calm.load 2 rfl rfl rfl (At.cast (At.fldS (At.fldS (At.fld0 At.here))) rfl) ag102 sz102) ?_
       refine AO.mv rfl rfl ?_
       refine AO.c (x := eU8 (w8 x133)) (Calm.conv rfl rfl Try.underlying3 Try.underlying5) ?_
       refine AO.lit (Z := (eU8 (0 : Int))) (xs := (([(w8 x133)] : List Int).map eU8)) (qs := [(0, (eU8 (w8 x133)))]) rfl 53 rfl (by decide) rfl ⟨rfl, rfl, rfl, trivial⟩ Try.underlying102 sz5 zr5 lay5 rfl (by decide) (litOK (z := 1) [(eU8 (w8 x133))] rfl ⟨⟨rfl, rfl⟩, trivial⟩) rfl fun n141 => ?_
       obtain ⟨hg143, h⟩ := of_guard h
       refine AO.appendL (l := x132) (m := ([(w8 x133)] : List Int)) 4 54 rfl (by decide) rfl rfl rfl rfl rfl (Src.ownL (f := eU8) (l := ([(w8 x133)] : List Int)) 0 rfl) Try.underlying102 Try.underlying102 sz5 by5 zr5 rfl hg143 (by decide) fun n142 => ?_
       refine AO.c (Calm.nilCheck rfl rfl) ?_
       refine AO.c (x := .ptr n8 5) (Calm.fldPtr rfl rfl Try.underlying156 rfl sz102 _ rfl) ?_
       refine AO.store (X' := (.st [(4, (e121 p0)), (1, (.fz 1 (p1.map eI64))), (1, (.own n142 0 (x132 ++ ([(w8 x133)] : List Int)).length)), (1, (.mp n7)), (1, (.fl (.slice none 0 0))), (258, (.st [(256, (.ar 1 (t10.toList.map eU8))), (1, (.fl (.slice none 0 0))), (1, (.fl (.slice none 0 0)))]))])) 3 rfl rfl rfl rfl rfl rfl (Put.cast (Put.fldS (Put.fldS (Put.fld0 Put.here))) rfl) rfl rfl sz102 rfl ?_
       refine AO.nH [2, 4, 6, 29] (H' := [(n3, (.mem (e121 p0))), (n4, (.mem (.st [(256, (.ar 1 ((Vector.replicate 256 (0 : Int)).toList.map eU8))), (1, (.fl (.slice none 0 0))), (1, (.fl (.slice none 0 0)))]))), (n8, (.mem (.st [(4, (e121 p0)), (1, (.fz 1 (p1.map eI64))), (1, (.own n142 0 (x132 ++ ([(w8 x133)] : List Int)).length)), (1, (.mp n7)), (1, (.fl (.slice none 0 0))), (258, (.st [(256, (.ar 1 (t10.toList.map eU8))), (1, (.fl (.slice none 0 0))), (1, (.fl (.slice none 0 0)))]))]))), (n142, (.mem (.ar 1 ((x132 ++ ([(w8 x133)] : List Int)).map eU8)))), (n7, (.map (encM Value.string eI64 ([] : List (ByteArray × Int)))))]) (Sub.cons 1 rfl (Sub.cons 1 rfl (Sub.cons 1 rfl (Sub.cons 1 rfl (Sub.cons 1 rfl (Sub.nil _)))))) ?_
       exact ⟨n142, (x132 ++ ([(w8 x133)] : List Int)), rfl, rfl, h⟩
      ·refine AW.condN _ rfl hc140 ?_
       refine AW.sK [2, 4, 6, 29] ?_
       exact ⟨n131, x132, rfl, rfl, h⟩
     ·rintro _ _ ⟨n137, x138, rfl, rfl, h⟩
      rw [F76_c6.eq_1] at h
      refine AW.reg ?_
      refine AO.c (x := eI64 (w64 (x133 + (1 : Int)))) (Calm.int rfl rfl rfl rfl) ?_
      refine AO.mv rfl rfl ?_
      refine AO.nK [2, 4, 6, 29] ?_
      exact ⟨kq135, Nat.lt_succ_self _, n137, x138, (w64 (x133 + (1 : Int))), rfl, rfl, by rw [hrec134]; exact h⟩
    ·refine AW.condN _ rfl hc136 ?_
     refine AW.eK [2, 4, 6] ?_
     exact ⟨n131, x132, rfl, rfl, h⟩
   ·rintro _ _ ⟨n11, x12, rfl, rfl, h⟩
    rw [F76_c5.eq_1] at h
    refine AW.sr ?_
    refine AO.c (x := .ptr n3 0) (Calm.fldPtr rfl rfl Try.underlying121 rfl sz3 _ rfl) ?_
    refine AO.c (Calm.load 0 rfl rfl rfl (At.cast (At.fld0 At.here) rfl) ag3 sz3) ?_
    obtain ⟨hg14, h⟩ := of_guard h
    refine AO.makeL (f := eBool) false rfl 60 rfl (by decide) rfl rfl rfl Try.underlying98 sz4 by4 zr4 lay4 rfl hg14 fun n13 => ?_
    refine AO.ag rfl rfl ?_
    refine AO.nH [2, 4, 6, 8] (H' := [(n3, (.mem (e121 p0))), (n4, (.mem (.st [(256, (.ar 1 ((Vector.replicate 256 (0 : Int)).toList.map eU8))), (1, (.fl (.slice none 0 0))), (1, (.fl (.slice none 0 0)))]))), (n8, (.mem (.st [(4, (e121 p0)), (1, (.fz 1 (p1.map eI64))), (1, (.own n11 0 x12.length)), (1, (.mp n7)), (1, (.fl (.slice none 0 0))), (258, (.st [(256, (.ar 1 (t10.toList.map eU8))), (1, (.fl (.slice none 0 0))), (1, (.fl (.slice none 0 0)))]))]))), (n11, (.mem (.ar 1 (x12.map eU8)))), (n7, (.map (encM Value.string eI64 ([] : List (ByteArray × Int))))), (n13, (.mem (.ar 1 ((List.replicate p0.f0.toNat false).map eBool))))]) (Sub.cons 1 rfl (Sub.cons 1 rfl (Sub.cons 1 rfl (Sub.cons 1 rfl (Sub.cons 1 rfl (Sub.cons 0 rfl (Sub.nil _))))))) ?_
    refine AW.sr ?_
    refine AO.mv rfl rfl ?_
    refine AO.c (x := .ptr n3 2) (Calm.fldPtr rfl rfl Try.underlying121 rfl sz3 _ rfl) ?_
    refine AO.c (Calm.load 0 rfl rfl rfl (At.cast (At.fldS (At.fldS (At.fld0 At.here))) rfl) ag3 sz3) ?_
    obtain ⟨hg15, h⟩ := of_guard h
    refine AO.c (Calm.idxO 5 rfl rfl rfl rfl hg15 Try.underlying98 sz4) ?_
    refine AO.store (X' := (.ar 1 ((lset (List.replicate p0.f0.toNat false) p0.f2 true).map eBool))) 5 rfl rfl rfl rfl rfl rfl (Put.cast (Put.lidx p0.f2 true hg15.1 hg15.2 Put.here) (by omega)) rfl rfl sz4 rfl ?_
    refine AO.coe 8 (y' := (.own n13 0 (lset (List.replicate p0.f0.toNat false) p0.f2 true).length)) rfl (fun _ _ h => lset_own h) ?_
    refine AO.coe 61 (y' := (.own n13 0 (lset (List.replicate p0.f0.toNat false) p0.f2 true).length)) rfl (fun _ _ h => lset_own h) ?_
    refine AO.nK [2, 4, 6, 8] ?_
    refine AW.sr ?_
    refine AO.mv rfl rfl ?_
    refine AO.c (Calm.load 0 rfl rfl rfl (At.cast At.here rfl) ag121 sz121) ?_
    refine AO.mv rfl rfl ?_
    obtain ⟨t16, et16, h⟩ := of_bind h
    refine AO.freezeS 5 [(8, (.fz 1 ((lset (List.replicate p0.f0.toNat false) p0.f2 true).map eBool))), (67, (.fz 1 ((lset (List.replicate p0.f0.toNat false) p0.f2 true).map eBool)))] rfl ⟨fz_all rfl, fz_all rfl, trivial⟩ ?_
    refine AO.callS [(e121 p0), (.fz 1 ((lset (List.replicate p0.f0.toNat false) p0.f2 true).map eBool))] (.fz 1 (t16.map eBool)) 68 rfl (by decide) ok99 rfl rfl rfl ⟨rfl, rfl, rfl, rfl, trivial⟩ (F99_spec et16) ?_
    obtain ⟨t20, et20, h⟩ := of_bind h
    refine AO.freezeFld (X' := (.st [(4, (e121 p0)), (1, (.fz 1 (p1.map eI64))), (1, (.fz 1 (x12.map eU8))), (1, (.mp n7)), (1, (.fl (.slice none 0 0))), (258, (.st [(256, (.ar 1 (t10.toList.map eU8))), (1, (.fl (.slice none 0 0))), (1, (.fl (.slice none 0 0)))]))])) (els' := (x12.map eU8)) 3 2 rfl rfl (Put.cast (Put.fldS (Put.fldS (Put.fld0 Put.here))) rfl) (by simp) (by rw [own_all]) rfl rfl (by decide) ?_
    refine AO.nilOwnFld 2 1 (fun n17 => (.st [(4, (e121 p0)), (1, (.fz 1 (p1.map eI64))), (1, (.fz 1 (x12.map eU8))), (1, (.mp n7)), (1, (.own n17 0 0)), (258, (.st [(256, (.ar 1 (t10.toList.map eU8))), (1, (.fl (.slice none 0 0))), (1, (.fl (.slice none 0 0)))]))])) rfl (fun _ => (Put.cast (Put.fldS (Put.fldS (Put.fldS (Put.fldS (Put.fld0 Put.here))))) rfl)) (fun _ => rfl) (fun _ => rfl) fun n17 => ?_
    refine AO.nilOwnFld 3 1 (fun n18 => (.st [(4, (e121 p0)), (1, (.fz 1 (p1.map eI64))), (1, (.fz 1 (x12.map eU8))), (1, (.mp n7)), (1, (.own n17 0 ([] : List (List Bool)).length)), (258, (.st [(256, (.ar 1 (t10.toList.map eU8))), (1, (.own n18 0 0)), (1, (.fl (.slice none 0 0)))]))])) rfl (fun _ => (Put.cast (Put.fldS (Put.fldS (Put.fldS (Put.fldS (Put.fldS (Put.fld0 (Put.fldS (Put.fld0 Put.here)))))))) rfl)) (fun _ => rfl) (fun _ => rfl) fun n18 => ?_
    refine AO.nilOwnFld 4 1 (fun n19 => (.st [(4, (e121 p0)), (1, (.fz 1 (p1.map eI64))), (1, (.fz 1 (x12.map eU8))), (1, (.mp n7)), (1, (.own n17 0 ([] : List (List Bool)).length)), (258, (.st [(256, (.ar 1 (t10.toList.map eU8))), (1, (.own n18 0 ([] : List (List Int)).length)), (1, (.own n19 0 0))]))])) rfl (fun _ => (Put.cast (Put.fldS (Put.fldS (Put.fldS (Put.fldS (Put.fldS (Put.fld0 (Put.fldS (Put.fldS (Put.fld0 Put.here))))))))) rfl)) (fun _ => rfl) (fun _ => rfl) fun n19 => ?_
    refine AO.callH [(.ptr n8 0), (.fz 1 (t16.map eBool))] [(n8, (.mem (.st [(4, (e121 p0)), (1, (.fz 1 (p1.map eI64))), (1, (.fz 1 (x12.map eU8))), (1, (.mp n7)), (1, (.own n17 0 ([] : List (List Bool)).length)), (258, (.st [(256, (.ar 1 (t10.toList.map eU8))), (1, (.own n18 0 ([] : List (List Int)).length)), (1, (.own n19 0 ([] : List Int).length))]))]))), (n7, (.map (encM Value.string eI64 ([] : List (ByteArray × Int))))), (n17, (.mem (.ar 1 (([] : List (List Bool)).map e98)))), (n18, (.mem (.ar 1 (([] : List (List Int)).map e35)))), (n19, (.mem (.ar 1 (([] : List Int).map eI64)))), (n3, (.mem (e121 p0))), (n4, (.mem (.st [(256, (.ar 1 ((Vector.replicate 256 (0 : Int)).toList.map eU8))), (1, (.fl (.slice none 0 0))), (1, (.fl (.slice none 0 0)))])))] _ rfl rfl rfl 69 rfl (by decide) ok98 ⟨rfl, rfl, rfl, rfl, trivial⟩ (Sub.cons 5 rfl (Sub.cons 5 rfl (Sub.cons 2 rfl (Sub.cons 1 rfl (Sub.cons 0 rfl (Sub.refl _)))))) (F98_spec et20) ?_
    rintro _ _ ⟨n22, n23, n24, n25, rfl, hs21⟩
    refine AO.wH [2, 4, 6, 8, 65, 66, 67, 68, 69] hs21 ?_
    refine AO.nH [2, 4, 6] (H' := [(n3, (.mem (e121 p0))), (n4, (.mem (.st [(256, (.ar 1 ((Vector.replicate 256 (0 : Int)).toList.map eU8))), (1, (.fl (.slice none 0 0))), (1, (.fl (.slice none 0 0)))]))), (n8, (.mem (.st [(4, (e121 t20.2.f0)), (1, (.fz 1 (t20.2.f1.map eI64))), (1, (.fz 1 (t20.2.f2.map eU8))), (1, (.mp n22)), (1, (.own n23 0 t20.2.f4.length)), (258, (.st [(256, (.ar 1 (t20.2.f5.f0.toList.map eU8))), (1, (.own n24 0 t20.2.f5.f1.length)), (1, (.own n25 0 t20.2.f5.f2.length))]))]))), (n22, (.map (encM Value.string eI64 t20.2.f3))), (n23, (.mem (.ar 1 (t20.2.f4.map e98)))), (n24, (.mem (.ar 1 (t20.2.f5.f1.map e35)))), (n25, (.mem (.ar 1 (t20.2.f5.f2.map eI64))))]) (Sub.cons 5 rfl (Sub.cons 5 rfl (Sub.cons 0 rfl (Sub.cons 0 rfl (Sub.cons 0 rfl (Sub.cons 0 rfl (Sub.cons 0 rfl (Sub.nil _)))))))) ?_
    refine AW.seq_mid (fun ρ H => ∃ (n32 : Nat) (n34 : Nat) (n37 : Nat) (n39 : Nat) (x26 : Int) (x27 : (List S152)) (x28 : Int) (x29 : Int) (x30 : (List Int)) (x31 : (List Int)) (x33 : (List (ByteArray × Int))) (x35 : (List (List Bool))) (x36 : (Vector Int 256)) (x38 : (List (List Int))) (x40 : (List Int)), ρ = [(4, (.ptr n4 0)), (6, (.ptr n8 0))] ∧ H = [(n4, (.mem (.st [(256, (.ar 1 ((Vector.replicate 256 (0 : Int)).toList.map eU8))), (1, (.fl (.slice none 0 0))), (1, (.fl (.slice none 0 0)))]))), (n8, (.mem (.st [(4, (.st [(1, (eI64 x26)), (1, (.fz 7 (x27.map e152))), (1, (eI64 x28)), (1, (eI64 x29))])), (1, (.fz 1 (x30.map eI64))), (1, (.fz 1 (x31.map eU8))), (1, (.mp n32)), (1, (.own n34 0 x35.length)), (258, (.st [(256, (.ar 1 (x36.toList.map eU8))), (1, (.own n37 0 x38.length)), (1, (.own n39 0 x40.length))]))]))), (n32, (.map (encM Value.string eI64 x33))), (n34, (.mem (.ar 1 (x35.map e98)))), (n37, (.mem (.ar 1 (x38.map e35)))), (n39, (.mem (.ar 1 (x40.map eI64))))] ∧ F76_c0 k x26 x27 x28 x29 x30 x31 x33 x35 x36 x38 x40 = some r) ?_ ?_
    ·refine AW.sr ?_
     refine AO.ag rfl rfl ?_
     refine AO.nK [2, 4, 6, 9] ?_
     refine AW.block ?_
     refine AW.wK [2, 4, 6, 9] ?_
     refine AW.loop (fun kq ρ H => ∃ (n47 : Nat) (n49 : Nat) (n52 : Nat) (n54 : Nat) (x41 : Int) (x42 : (List S152)) (x43 : Int) (x44 : Int) (x45 : (List Int)) (x46 : (List Int)) (x48 : (List (ByteArray × Int))) (x50 : (List (List Bool))) (x51 : (Vector Int 256)) (x53 : (List (List Int))) (x55 : (List Int)) (x56 : Int), ρ = [(2, (.ptr n3 0)), (4, (.ptr n4 0)), (6, (.ptr n8 0)), (9, (eI64 x56))] ∧ H = [(n3, (.mem (e121 p0))), (n4, (.mem (.st [(256, (.ar 1 ((Vector.replicate 256 (0 : Int)).toList.map eU8))), (1, (.fl (.slice none 0 0))), (1, (.fl (.slice none 0 0)))]))), (n8, (.mem (.st [(4, (.st [(1, (eI64 x41)), (1, (.fz 7 (x42.map e152))), (1, (eI64 x43)), (1, (eI64 x44))])), (1, (.fz 1 (x45.map eI64))), (1, (.fz 1 (x46.map eU8))), (1, (.mp n47)), (1, (.own n49 0 x50.length)), (258, (.st [(256, (.ar 1 (x51.toList.map eU8))), (1, (.own n52 0 x53.length)), (1, (.own n54 0 x55.length))]))]))), (n47, (.map (encM Value.string eI64 x48))), (n49, (.mem (.ar 1 (x50.map e98)))), (n52, (.mem (.ar 1 (x53.map e35)))), (n54, (.mem (.ar 1 (x55.map eI64))))] ∧ F76_l4 k p0 kq x41 x42 x43 x44 x45 x46 x48 x50 x51 x53 x55 x56 = some r) k ⟨n22, n23, n24, n25, t20.2.f0.f0, t20.2.f0.f1, t20.2.f0.f2, t20.2.f0.f3, t20.2.f1, t20.2.f2, t20.2.f3, t20.2.f4, t20.2.f5.f0, t20.2.f5.f1, t20.2.f5.f2, (0 : Int), rfl, rfl, h⟩ ?_
     rintro kq58 _ _ ⟨n47, n49, n52, n54, x41, x42, x43, x44, x45, x46, x48, x50, x51, x53, x55, x56, rfl, rfl, h⟩
     cases kq58 with
     | zero => rw [F76_l4.eq_1] at h; cases h
     | succ kq58 =>
     rw [F76_l4.eq_2] at h
     generalize hrec57 : F76_l4 k p0 kq58 = rec57 at h
     refine AW.seq ?_
     refine AW.sr ?_
     refine AO.mv rfl rfl ?_
     refine AO.mv rfl rfl ?_
     refine AO.c (Calm.nilCheck rfl rfl) ?_
     refine AO.c (x := .ptr n8 7) (Calm.fldPtr rfl rfl Try.underlying156 rfl sz107 _ rfl) ?_
     refine AO.c (Calm.load 2 rfl rfl rfl (At.cast (At.fldS (At.fldS (At.fldS (At.fldS (At.fld0 At.here))))) rfl) ag107 sz107) ?_
     refine AO.c (Calm.lenOwn rfl rfl Try.underlying107) ?_
     refine AO.c (x := eBool (decide (x56 < (x50.length : Int)))) (Calm.int rfl rfl rfl rfl) ?_
     refine AO.nK [2, 4, 6, 9, 76] ?_
     rcases of_ite h with ⟨hc59, h⟩ | ⟨hc59, h⟩
     ·refine AW.condP _ rfl hc59 ?_
      refine AW.sK [2, 4, 6, 9] ?_
      refine AW.seq_mid (fun ρ H => ∃ (n66 : Nat) (n68 : Nat) (n71 : Nat) (n73 : Nat) (x60 : Int) (x61 : (List S152)) (x62 : Int) (x63 : Int) (x64 : (List Int)) (x65 : (List Int)) (x67 : (List (ByteArray × Int))) (x69 : (List (List Bool))) (x70 : (Vector Int 256)) (x72 : (List (List Int))) (x74 : (List Int)), ρ = [(2, (.ptr n3 0)), (4, (.ptr n4 0)), (6, (.ptr n8 0)), (9, (eI64 x56))] ∧ H = [(n3, (.mem (e121 p0))), (n4, (.mem (.st [(256, (.ar 1 ((Vector.replicate 256 (0 : Int)).toList.map eU8))), (1, (.fl (.slice none 0 0))), (1, (.fl (.slice none 0 0)))]))), (n8, (.mem (.st [(4, (.st [(1, (eI64 x60)), (1, (.fz 7 (x61.map e152))), (1, (eI64 x62)), (1, (eI64 x63))])), (1, (.fz 1 (x64.map eI64))), (1, (.fz 1 (x65.map eU8))), (1, (.mp n66)), (1, (.own n68 0 x69.length)), (258, (.st [(256, (.ar 1 (x70.toList.map eU8))), (1, (.own n71 0 x72.length)), (1, (.own n73 0 x74.length))]))]))), (n66, (.map (encM Value.string eI64 x67))), (n68, (.mem (.ar 1 (x69.map e98)))), (n71, (.mem (.ar 1 (x72.map e35)))), (n73, (.mem (.ar 1 (x74.map eI64))))] ∧ F76_c1 k rec57 x56 x60 x61 x62 x63 x64 x65 x67 x69 x70 x72 x74 = some r) ?_ ?_
      ·refine AW.block ?_
       refine AW.seq ?_
       refine AW.sr ?_
       refine AO.mv rfl rfl ?_
       refine AO.c (Calm.nilCheck rfl rfl) ?_
       refine AO.c (x := .ptr n8 7) (Calm.fldPtr rfl rfl Try.underlying156 rfl sz107 _ rfl) ?_
       refine AO.c (Calm.load 2 rfl rfl rfl (At.cast (At.fldS (At.fldS (At.fldS (At.fldS (At.fld0 At.here))))) rfl) ag107 sz107) ?_
       refine AO.c (Calm.lenOwn rfl rfl Try.underlying107) ?_
       refine AO.c (x := eBool (decide ((2000 : Int) < (x50.length : Int)))) (Calm.int rfl rfl rfl rfl) ?_
       refine AO.nK [2, 4, 6, 9, 84] ?_
       rcases of_ite h with ⟨hc75, h⟩ | ⟨hc75, h⟩
       ·refine AW.condP _ rfl hc75 ?_
        refine AW.sr ?_
        refine AO.c (x := .st [(256, (.ar 1 ((Vector.replicate 256 (0 : Int)).toList.map eU8))), (1, (.fl (.slice none 0 0))), (1, (.fl (.slice none 0 0)))]) (Calm.build (qs := []) rfl trivial Try.underlying55 rfl zr55 lay55 .nil rfl) ?_
        refine AO.store (X' := (.st [(256, (.ar 1 ((Vector.replicate 256 (0 : Int)).toList.map eU8))), (1, (.fl (.slice none 0 0))), (1, (.fl (.slice none 0 0)))])) 1 rfl rfl rfl rfl rfl rfl (Put.cast Put.here rfl) rfl rfl sz55 rfl ?_
        refine AO.ag rfl rfl ?_
        refine AO.nH [4, 5] (H' := [(n4, (.mem (.st [(256, (.ar 1 ((Vector.replicate 256 (0 : Int)).toList.map eU8))), (1, (.fl (.slice none 0 0))), (1, (.fl (.slice none 0 0)))])))]) (Sub.cons 1 rfl (Sub.nil _)) ?_
        refine AW.coeFld (X' := (.st [(256, (.ar 1 ((Vector.replicate 256 (0 : Int)).toList.map eU8))), (1, (.fz 1 (([] : List (List Int)).map e35))), (1, (.fl (.slice none 0 0)))])) 0 rfl (Put.cast (Put.fldS (Put.fld0 Put.here)) rfl) rfl (nil_fz 1) rfl rfl ?_
        refine AW.coeFld (X' := (.st [(256, (.ar 1 ((Vector.replicate 256 (0 : Int)).toList.map eU8))), (1, (.fz 1 (([] : List (List Int)).map e35))), (1, (.fz 1 (([] : List Int).map eI64)))])) 0 rfl (Put.cast (Put.fldS (Put.fldS (Put.fld0 Put.here))) rfl) rfl (nil_fz 1) rfl rfl ?_
        refine AW.rK [4, 5] ?_
        have hr := Option.some.inj h
        subst hr
        exact ⟨[(e55 (S55.mk (Vector.replicate 256 (0 : Int)) ([] : List (List Int)) ([] : List Int))), (eI64 (6 : Int))], ⟨⟨_, 0, rfl, rfl, ag55, sz55⟩, rfl, rfl, trivial⟩, rfl⟩
       ·refine AW.condN _ rfl hc75 ?_
        refine AW.sK [2, 4, 6, 9] ?_
        refine AW.sr ?_
        refine AO.ag rfl rfl ?_
        refine AO.nK [2, 4, 6, 9, 10] ?_
        refine AW.seq_mid (fun ρ H => ∃ (n82 : Nat) (n84 : Nat) (n87 : Nat) (n89 : Nat) (n91 : Nat) (x76 : Int) (x77 : (List S152)) (x78 : Int) (x79 : Int) (x80 : (List Int)) (x81 : (List Int)) (x83 : (List (ByteArray × Int))) (x85 : (List (List Bool))) (x86 : (Vector Int 256)) (x88 : (List (List Int))) (x90 : (List Int)) (x92 : (List Int)), ρ = [(2, (.ptr n3 0)), (4, (.ptr n4 0)), (6, (.ptr n8 0)), (9, (eI64 x56)), (10, (.own n91 0 x92.length))] ∧ H = [(n3, (.mem (e121 p0))), (n4, (.mem (.st [(256, (.ar 1 ((Vector.replicate 256 (0 : Int)).toList.map eU8))), (1, (.fl (.slice none 0 0))), (1, (.fl (.slice none 0 0)))]))), (n8, (.mem (.st [(4, (.st [(1, (eI64 x76)), (1, (.fz 7 (x77.map e152))), (1, (eI64 x78)), (1, (eI64 x79))])), (1, (.fz 1 (x80.map eI64))), (1, (.fz 1 (x81.map eU8))), (1, (.mp n82)), (1, (.own n84 0 x85.length)), (258, (.st [(256, (.ar 1 (x86.toList.map eU8))), (1, (.own n87 0 x88.length)), (1, (.own n89 0 x90.length))]))]))), (n82, (.map (encM Value.string eI64 x83))), (n84, (.mem (.ar 1 (x85.map e98)))), (n87, (.mem (.ar 1 (x88.map e35)))), (n89, (.mem (.ar 1 (x90.map eI64)))), (n91, (.mem (.ar 1 (x92.map eI64))))] ∧ F76_c2 k rec57 x56 x76 x77 x78 x79 x80 x81 x83 x85 x86 x88 x90 x92 = some r) ?_ ?_
        ·refine AW.sr ?_
         refine AO.mv rfl rfl ?_
         refine AO.c (Calm.nilCheck rfl rfl) ?_
         refine AO.c (x := .ptr n8 5) (Calm.fldPtr rfl rfl Try.underlying156 rfl sz102 _ rfl) ?_
         refine AO.c (Calm.load 2 rfl rfl rfl (At.cast (At.fldS (At.fldS (At.fld0 At.here))) rfl) ag102 sz102) ?_
         refine AO.c (Calm.lenL rfl rfl Try.underlying102) ?_
         refine AO.mv rfl rfl ?_
         refine AO.nK [2, 4, 6, 9, 10, 89, 90, 91] ?_
         refine AW.block ?_
         refine AW.nilOwn 10 1 rfl fun n130 => ?_
         refine AW.wH [2, 4, 6, 9, 10, 89, 90, 91] (H' := [(n3, (.mem (e121 p0))), (n4, (.mem (.st [(256, (.ar 1 ((Vector.replicate 256 (0 : Int)).toList.map eU8))), (1, (.fl (.slice none 0 0))), (1, (.fl (.slice none 0 0)))]))), (n8, (.mem (.st [(4, (.st [(1, (eI64 x41)), (1, (.fz 7 (x42.map e152))), (1, (eI64 x43)), (1, (eI64 x44))])), (1, (.fz 1 (x45.map eI64))), (1, (.fz 1 (x46.map eU8))), (1, (.mp n47)), (1, (.own n49 0 x50.length)), (258, (.st [(256, (.ar 1 (x51.toList.map eU8))), (1, (.own n52 0 x53.length)), (1, (.own n54 0 x55.length))]))]))), (n47, (.map (encM Value.string eI64 x48))), (n49, (.mem (.ar 1 (x50.map e98)))), (n52, (.mem (.ar 1 (x53.map e35)))), (n54, (.mem (.ar 1 (x55.map eI64)))), (n130, (.mem (.ar 1 (([] : List Int).map eI64))))]) (Sub.cons 1 rfl (Sub.cons 1 rfl (Sub.cons 1 rfl (Sub.cons 1 rfl (Sub.cons 1 rfl (Sub.cons 1 rfl (Sub.cons 1 rfl (Sub.cons 0 rfl (Sub.nil _))))))))) ?_
         refine AW.loop (fun kq ρ H => ∃ (n102 : Nat) (n104 : Nat) (n107 : Nat) (n109 : Nat) (n111 : Nat) (x96 : Int) (x97 : (List S152)) (x98 : Int) (x99 : Int) (x100 : (List Int)) (x101 : (List Int)) (x103 : (List (ByteArray × Int))) (x105 : (List (List Bool))) (x106 : (Vector Int 256)) (x108 : (List (List Int))) (x110 : (List Int)) (x112 : (List Int)) (x113 : Int), ρ = [(2, (.ptr n3 0)), (4, (.ptr n4 0)), (6, (.ptr n8 0)), (9, (eI64 x56)), (10, (.own n111 0 x112.length)), (89, (.fz 1 (x46.map eU8))), (90, (eI64 (x46.length : Int))), (91, (eI64 x113))] ∧ H = [(n3, (.mem (e121 p0))), (n4, (.mem (.st [(256, (.ar 1 ((Vector.replicate 256 (0 : Int)).toList.map eU8))), (1, (.fl (.slice none 0 0))), (1, (.fl (.slice none 0 0)))]))), (n8, (.mem (.st [(4, (.st [(1, (eI64 x96)), (1, (.fz 7 (x97.map e152))), (1, (eI64 x98)), (1, (eI64 x99))])), (1, (.fz 1 (x100.map eI64))), (1, (.fz 1 (x101.map eU8))), (1, (.mp n102)), (1, (.own n104 0 x105.length)), (258, (.st [(256, (.ar 1 (x106.toList.map eU8))), (1, (.own n107 0 x108.length)), (1, (.own n109 0 x110.length))]))]))), (n102, (.map (encM Value.string eI64 x103))), (n104, (.mem (.ar 1 (x105.map e98)))), (n107, (.mem (.ar 1 (x108.map e35)))), (n109, (.mem (.ar 1 (x110.map eI64)))), (n111, (.mem (.ar 1 (x112.map eI64))))] ∧ F76_l3 k rec57 p0 x46 x56 kq x96 x97 x98 x99 x100 x101 x103 x105 x106 x108 x110 x112 x113 = some r) k ⟨n47, n49, n52, n54, n130, x41, x42, x43, x44, x45, x46, x48, x50, x51, x53, x55, ([] : List Int), (0 : Int), rfl, rfl, h⟩ ?_
         rintro kq115 _ _ ⟨n102, n104, n107, n109, n111, x96, x97, x98, x99, x100, x101, x103, x105, x106, x108, x110, x112, x113, rfl, rfl, h⟩
         cases kq115 with
         | zero => rw [F76_l3.eq_1] at h; cases h
         | succ kq115 =>
         rw [F76_l3.eq_2] at h
         generalize hrec114 : F76_l3 k rec57 p0 x46 x56 kq115 = rec114 at h
         refine AW.sr ?_
         refine AO.c (x := eBool (decide (x113 < (x46.length : Int)))) (Calm.int rfl rfl rfl rfl) ?_
         refine AO.nK [2, 4, 6, 9, 10, 89, 90, 91, 92] ?_
         refine AW.seq ?_
         rcases of_ite h with ⟨hc116, h⟩ | ⟨hc116, h⟩
         ·refine AW.condP _ rfl hc116 ?_
          refine AW.sK [2, 4, 6, 9, 10, 89, 90, 91] ?_
          refine AW.seq ?_
          refine AW.block ?_
          refine AW.sr ?_
          obtain ⟨hg117, h⟩ := of_guard h
          refine AO.c (Calm.idxL (f := eU8) rfl rfl rfl hg117 Try.underlying102 sz5) ?_
          refine AO.c (Calm.loadRp rfl rfl ag5 sz5) ?_
          refine AO.ag rfl rfl ?_
          refine AO.nK [2, 4, 6, 9, 10, 12, 89, 90, 91] ?_
          obtain ⟨hg118, h⟩ := of_guard h
          obtain ⟨t119, et119, h⟩ := of_bind h
          obtain ⟨t120, et120, h⟩ := of_bind h
          obtain ⟨t121, et121, h⟩ := of_bind h
          obtain ⟨hg129, h⟩ := of_guard h
          refine AW.regEff (by rfl) (by decide +kernel) (fun (σ : Nat → Nat) => ([(.own n111 0 x112.length), (.ptr n8 0), (e121 p0), (e121 p0), (.ptr n8 0), (.ptr n8 0), (.ptr n8 7), (.own n104 0 x105.length), (eI64 x56), (.ptr n104 (x56.toNat * 1 + 0)), (.fz 1 ((lget x105 x56).map eBool)), (eU8 (lget x46 x113)), (.fz 1 (t119.map eBool)), (.fz 1 (t120.map eBool)), (eI64 t121.1), (.fz 1 (([t121.1] : List Int).map eI64)), (.own (σ 16) 0 (x112 ++ ([t121.1] : List Int)).length), (.own (σ 16) 0 (x112 ++ ([t121.1] : List Int)).length)] : List AV)) (fun (L : Nat → Bool) (σ : Nat → Nat) => ((n3, (.mem (e121 p0))) :: (n4, (.mem (.st [(256, (.ar 1 ((Vector.replicate 256 (0 : Int)).toList.map eU8))), (1, (.fl (.slice none 0 0))), (1, (.fl (.slice none 0 0)))]))) :: (bif L 14 then (bif L 16 then ((n8, (.mem (.st [(4, (e121 t121.2.f0)), (1, (.fz 1 (t121.2.f1.map eI64))), (1, (.fz 1 (t121.2.f2.map eU8))), (1, (.mp (σ 14))), (1, (.own (σ 1014) 0 t121.2.f4.length)), (258, (.st [(256, (.ar 1 (t121.2.f5.f0.toList.map eU8))), (1, (.own (σ 2014) 0 t121.2.f5.f1.length)), (1, (.own (σ 3014) 0 t121.2.f5.f2.length))]))]))) :: ((σ 14), (.map (encM Value.string eI64 t121.2.f3))) :: ((σ 1014), (.mem (.ar 1 (t121.2.f4.map e98)))) :: ((σ 2014), (.mem (.ar 1 (t121.2.f5.f1.map e35)))) :: ((σ 3014), (.mem (.ar 1 (t121.2.f5.f2.map eI64)))) :: ((σ 16), (.mem (.ar 1 ((x112 ++ ([t121.1] : List Int)).map eI64)))) :: []) else ((n8, (.mem (.st [(4, (e121 t121.2.f0)), (1, (.fz 1 (t121.2.f1.map eI64))), (1, (.fz 1 (t121.2.f2.map eU8))), (1, (.mp (σ 14))), (1, (.own (σ 1014) 0 t121.2.f4.length)), (258, (.st [(256, (.ar 1 (t121.2.f5.f0.toList.map eU8))), (1, (.own (σ 2014) 0 t121.2.f5.f1.length)), (1, (.own (σ 3014) 0 t121.2.f5.f2.length))]))]))) :: ((σ 14), (.map (encM Value.string eI64 t121.2.f3))) :: ((σ 1014), (.mem (.ar 1 (t121.2.f4.map e98)))) :: ((σ 2014), (.mem (.ar 1 (t121.2.f5.f1.map e35)))) :: ((σ 3014), (.mem (.ar 1 (t121.2.f5.f2.map eI64)))) :: (n111, (.mem (.ar 1 (x112.map eI64)))) :: [])) else ((n8, (.mem (.st [(4, (.st [(1, (eI64 x96)), (1, (.fz 7 (x97.map e152))), (1, (eI64 x98)), (1, (eI64 x99))])), (1, (.fz 1 (x100.map eI64))), (1, (.fz 1 (x101.map eU8))), (1, (.mp n102)), (1, (.own n104 0 x105.length)), (258, (.st [(256, (.ar 1 (x106.toList.map eU8))), (1, (.own n107 0 x108.length)), (1, (.own n109 0 x110.length))]))]))) :: (n102, (.map (encM Value.string eI64 x103))) :: (n104, (.mem (.ar 1 (x105.map e98)))) :: (n107, (.mem (.ar 1 (x108.map e35)))) :: (n109, (.mem (.ar 1 (x110.map eI64)))) :: (n111, (.mem (.ar 1 (x112.map eI64)))) :: [])) : Heap)) [(2, (.ptr n3 0)), (4, (.ptr n4 0)), (6, (.ptr n8 0)), (9, (eI64 x56)), (10, (.own n111 0 x112.length)), (12, (eU8 (lget x46 x113))), (89, (.fz 1 (x46.map eU8))), (90, (eI64 (x46.length : Int))), (91, (eI64 x113))] ⟨rfl, rfl, rfl, rfl, rfl, rfl, rfl, rfl, rfl, trivial⟩ (fun _ => rfl) (fun σ => (Sub.refl _)) ⟨?_, ?_, ?_, ?_, ?_, ?_, ?_, ?_, ?_, ?_, ?_, ?_, ?_, ?_, ?_, ?_, ?_, ?_, trivial⟩ (fun σ => [(2, (.ptr n3 0)), (4, (.ptr n4 0)), (6, (.ptr n8 0)), (9, (eI64 x56)), (10, (.own (σ 16) 0 (x112 ++ ([t121.1] : List Int)).length)), (89, (.fz 1 (x46.map eU8))), (90, (eI64 (x46.length : Int))), (91, (eI64 x113))]) (fun σ => ((n3, (.mem (e121 p0))) :: (n4, (.mem (.st [(256, (.ar 1 ((Vector.replicate 256 (0 : Int)).toList.map eU8))), (1, (.fl (.slice none 0 0))), (1, (.fl (.slice none 0 0)))]))) :: (n8, (.mem (.st [(4, (e121 t121.2.f0)), (1, (.fz 1 (t121.2.f1.map eI64))), (1, (.fz 1 (t121.2.f2.map eU8))), (1, (.mp (σ 14))), (1, (.own (σ 1014) 0 t121.2.f4.length)), (258, (.st [(256, (.ar 1 (t121.2.f5.f0.toList.map eU8))), (1, (.own (σ 2014) 0 t121.2.f5.f1.length)), (1, (.own (σ 3014) 0 t121.2.f5.f2.length))]))]))) :: ((σ 14), (.map (encM Value.string eI64 t121.2.f3))) :: ((σ 1014), (.mem (.ar 1 (t121.2.f4.map e98)))) :: ((σ 2014), (.mem (.ar 1 (t121.2.f5.f1.map e35)))) :: ((σ 3014), (.mem (.ar 1 (t121.2.f5.f2.map eI64)))) :: ((σ 16), (.mem (.ar 1 ((x112 ++ ([t121.1] : List Int)).map eI64)))) :: [])) (fun σ => ⟨rfl, rfl, rfl, rfl, rfl, rfl, rfl, rfl, trivial⟩) (fun σ => Sub.refl _) (fun σ => ?_)
          ·refine StepE.calm (fun _ _ => rfl) fun L σ hc hi hd => ?_
           have m16 : L 16 = false := hc.neg (i := 0) (j := 16) rfl (by rfl) hi
           cases b14 : L 14 with
           | true =>
             refine AO.heq (H' := ((n3, (.mem (e121 p0))) :: (n4, (.mem (.st [(256, (.ar 1 ((Vector.replicate 256 (0 : Int)).toList.map eU8))), (1, (.fl (.slice none 0 0))), (1, (.fl (.slice none 0 0)))]))) :: (n8, (.mem (.st [(4, (e121 t121.2.f0)), (1, (.fz 1 (t121.2.f1.map eI64))), (1, (.fz 1 (t121.2.f2.map eU8))), (1, (.mp (σ 14))), (1, (.own (σ 1014) 0 t121.2.f4.length)), (258, (.st [(256, (.ar 1 (t121.2.f5.f0.toList.map eU8))), (1, (.own (σ 2014) 0 t121.2.f5.f1.length)), (1, (.own (σ 3014) 0 t121.2.f5.f2.length))]))]))) :: ((σ 14), (.map (encM Value.string eI64 t121.2.f3))) :: ((σ 1014), (.mem (.ar 1 (t121.2.f4.map e98)))) :: ((σ 2014), (.mem (.ar 1 (t121.2.f5.f1.map e35)))) :: ((σ 3014), (.mem (.ar 1 (t121.2.f5.f2.map eI64)))) :: (n111, (.mem (.ar 1 (x112.map eI64)))) :: [])) (by first | rfl | simp only [b14, m16, cond_true, cond_false]) ?_
             refine AO.wK [10] ?_
             refine AO.mv rfl rfl ?_
             exact AO.nE (d := 95) rfl ⟨⟨95, _, rfl, rfl, rfl⟩, Sub.of_eq (by first | rfl | simp only [b14, m16, cond_true, cond_false]) (Sub.refl _)⟩
           | false =>
             refine AO.heq (H' := ((n3, (.mem (e121 p0))) :: (n4, (.mem (.st [(256, (.ar 1 ((Vector.replicate 256 (0 : Int)).toList.map eU8))), (1, (.fl (.slice none 0 0))), (1, (.fl (.slice none 0 0)))]))) :: (n8, (.mem (.st [(4, (.st [(1, (eI64 x96)), (1, (.fz 7 (x97.map e152))), (1, (eI64 x98)), (1, (eI64 x99))])), (1, (.fz 1 (x100.map eI64))), (1, (.fz 1 (x101.map eU8))), (1, (.mp n102)), (1, (.own n104 0 x105.length)), (258, (.st [(256, (.ar 1 (x106.toList.map eU8))), (1, (.own n107 0 x108.length)), (1, (.own n109 0 x110.length))]))]))) :: (n102, (.map (encM Value.string eI64 x103))) :: (n104, (.mem (.ar 1 (x105.map e98)))) :: (n107, (.mem (.ar 1 (x108.map e35)))) :: (n109, (.mem (.ar 1 (x110.map eI64)))) :: (n111, (.mem (.ar 1 (x112.map eI64)))) :: [])) (by first | rfl | simp only [b14, m16, cond_true, cond_false]) ?_
             refine AO.wK [10] ?_
             refine AO.mv rfl rfl ?_
             exact AO.nE (d := 95) rfl ⟨⟨95, _, rfl, rfl, rfl⟩, Sub.of_eq (by first | rfl | simp only [b14, m16, cond_true, cond_false]) (Sub.refl _)⟩
          ·refine StepE.calm (fun _ _ => rfl) fun L σ hc hi hd => ?_
           have m14 : L 14 = false := hc.neg (i := 1) (j := 14) rfl (by rfl) hi
           have m14 : L 14 = false := hc.neg (i := 1) (j := 14) rfl (by rfl) hi
           have m16 : L 16 = false := hc.neg (i := 14) (j := 16) rfl (by rfl) m14
           refine AO.heq (H' := ((n3, (.mem (e121 p0))) :: (n4, (.mem (.st [(256, (.ar 1 ((Vector.replicate 256 (0 : Int)).toList.map eU8))), (1, (.fl (.slice none 0 0))), (1, (.fl (.slice none 0 0)))]))) :: (n8, (.mem (.st [(4, (.st [(1, (eI64 x96)), (1, (.fz 7 (x97.map e152))), (1, (eI64 x98)), (1, (eI64 x99))])), (1, (.fz 1 (x100.map eI64))), (1, (.fz 1 (x101.map eU8))), (1, (.mp n102)), (1, (.own n104 0 x105.length)), (258, (.st [(256, (.ar 1 (x106.toList.map eU8))), (1, (.own n107 0 x108.length)), (1, (.own n109 0 x110.length))]))]))) :: (n102, (.map (encM Value.string eI64 x103))) :: (n104, (.mem (.ar 1 (x105.map e98)))) :: (n107, (.mem (.ar 1 (x108.map e35)))) :: (n109, (.mem (.ar 1 (x110.map eI64)))) :: (n111, (.mem (.ar 1 (x112.map eI64)))) :: [])) (by first | rfl | simp only [m14, m16, cond_true, cond_false]) ?_
           refine AO.wK [6] ?_
           refine AO.mv rfl rfl ?_
           exact AO.nE (d := 96) rfl ⟨⟨96, _, rfl, rfl, rfl⟩, Sub.of_eq (by first | rfl | simp only [m14, m16, cond_true, cond_false]) (Sub.refl _)⟩
          ·refine StepE.calm (fun _ _ => rfl) fun L σ hc hi hd => ?_
           refine AO.wK [2] ?_
           refine AO.c (Calm.load 0 rfl rfl rfl (At.cast At.here rfl) ag121 sz121) ?_
           exact AO.nE (d := 97) rfl ⟨⟨97, _, rfl, rfl, rfl⟩, Sub.refl _⟩
          ·refine StepE.calm (fun _ _ => rfl) fun L σ hc hi hd => ?_
           refine AO.wK [2] ?_
           refine AO.c (Calm.load 0 rfl rfl rfl (At.cast At.here rfl) ag121 sz121) ?_
           exact AO.nE (d := 98) rfl ⟨⟨98, _, rfl, rfl, rfl⟩, Sub.refl _⟩
          ·refine StepE.calm (fun _ _ => rfl) fun L σ hc hi hd => ?_
           have m5 : L 5 = false := hc.neg (i := 4) (j := 5) rfl (by rfl) hi
           have m6 : L 6 = false := hc.neg (i := 5) (j := 6) rfl (by rfl) m5
           have m7 : L 7 = false := hc.neg (i := 6) (j := 7) rfl (by rfl) m6
           have m9 : L 9 = false := hc.neg (i := 7) (j := 9) rfl (by rfl) m7
           have m10 : L 10 = false := hc.neg (i := 9) (j := 10) rfl (by rfl) m9
           have m12 : L 12 = false := hc.neg (i := 10) (j := 12) rfl (by rfl) m10
           have m13 : L 13 = false := hc.neg (i := 12) (j := 13) rfl (by rfl) m12
           have m14 : L 14 = false := hc.neg (i := 13) (j := 14) rfl (by rfl) m13
           have m5 : L 5 = false := hc.neg (i := 4) (j := 5) rfl (by rfl) hi
           have m6 : L 6 = false := hc.neg (i := 5) (j := 6) rfl (by rfl) m5
           have m7 : L 7 = false := hc.neg (i := 6) (j := 7) rfl (by rfl) m6
           have m9 : L 9 = false := hc.neg (i := 7) (j := 9) rfl (by rfl) m7
           have m10 : L 10 = false := hc.neg (i := 9) (j := 10) rfl (by rfl) m9
           have m12 : L 12 = false := hc.neg (i := 10) (j := 12) rfl (by rfl) m10
           have m13 : L 13 = false := hc.neg (i := 12) (j := 13) rfl (by rfl) m12
           have m14 : L 14 = false := hc.neg (i := 13) (j := 14) rfl (by rfl) m13
           have m16 : L 16 = false := hc.neg (i := 14) (j := 16) rfl (by rfl) m14
           refine AO.heq (H' := ((n3, (.mem (e121 p0))) :: (n4, (.mem (.st [(256, (.ar 1 ((Vector.replicate 256 (0 : Int)).toList.map eU8))), (1, (.fl (.slice none 0 0))), (1, (.fl (.slice none 0 0)))]))) :: (n8, (.mem (.st [(4, (.st [(1, (eI64 x96)), (1, (.fz 7 (x97.map e152))), (1, (eI64 x98)), (1, (eI64 x99))])), (1, (.fz 1 (x100.map eI64))), (1, (.fz 1 (x101.map eU8))), (1, (.mp n102)), (1, (.own n104 0 x105.length)), (258, (.st [(256, (.ar 1 (x106.toList.map eU8))), (1, (.own n107 0 x108.length)), (1, (.own n109 0 x110.length))]))]))) :: (n102, (.map (encM Value.string eI64 x103))) :: (n104, (.mem (.ar 1 (x105.map e98)))) :: (n107, (.mem (.ar 1 (x108.map e35)))) :: (n109, (.mem (.ar 1 (x110.map eI64)))) :: (n111, (.mem (.ar 1 (x112.map eI64)))) :: [])) (by first | rfl | simp only [m14, m16, cond_true, cond_false]) ?_
           refine AO.wK [6] ?_
           refine AO.mv rfl rfl ?_
           exact AO.nE (d := 99) rfl ⟨⟨99, _, rfl, rfl, rfl⟩, Sub.of_eq (by first | rfl | simp only [m14, m16, cond_true, cond_false]) (Sub.refl _)⟩
          ·refine StepE.calm (fun _ _ => rfl) fun L σ hc hi hd => ?_
           have m6 : L 6 = false := hc.neg (i := 5) (j := 6) rfl (by rfl) hi
           have m7 : L 7 = false := hc.neg (i := 6) (j := 7) rfl (by rfl) m6
           have m9 : L 9 = false := hc.neg (i := 7) (j := 9) rfl (by rfl) m7
           have m10 : L 10 = false := hc.neg (i := 9) (j := 10) rfl (by rfl) m9
           have m12 : L 12 = false := hc.neg (i := 10) (j := 12) rfl (by rfl) m10
           have m13 : L 13 = false := hc.neg (i := 12) (j := 13) rfl (by rfl) m12
           have m14 : L 14 = false := hc.neg (i := 13) (j := 14) rfl (by rfl) m13
           have m6 : L 6 = false := hc.neg (i := 5) (j := 6) rfl (by rfl) hi
           have m7 : L 7 = false := hc.neg (i := 6) (j := 7) rfl (by rfl) m6
           have m9 : L 9 = false := hc.neg (i := 7) (j := 9) rfl (by rfl) m7
           have m10 : L 10 = false := hc.neg (i := 9) (j := 10) rfl (by rfl) m9
           have m12 : L 12 = false := hc.neg (i := 10) (j := 12) rfl (by rfl) m10
           have m13 : L 13 = false := hc.neg (i := 12) (j := 13) rfl (by rfl) m12
           have m14 : L 14 = false := hc.neg (i := 13) (j := 14) rfl (by rfl) m13
           have m16 : L 16 = false := hc.neg (i := 14) (j := 16) rfl (by rfl) m14
           refine AO.heq (H' := ((n3, (.mem (e121 p0))) :: (n4, (.mem (.st [(256, (.ar 1 ((Vector.replicate 256 (0 : Int)).toList.map eU8))), (1, (.fl (.slice none 0 0))), (1, (.fl (.slice none 0 0)))]))) :: (n8, (.mem (.st [(4, (.st [(1, (eI64 x96)), (1, (.fz 7 (x97.map e152))), (1, (eI64 x98)), (1, (eI64 x99))])), (1, (.fz 1 (x100.map eI64))), (1, (.fz 1 (x101.map eU8))), (1, (.mp n102)), (1, (.own n104 0 x105.length)), (258, (.st [(256, (.ar 1 (x106.toList.map eU8))), (1, (.own n107 0 x108.length)), (1, (.own n109 0 x110.length))]))]))) :: (n102, (.map (encM Value.string eI64 x103))) :: (n104, (.mem (.ar 1 (x105.map e98)))) :: (n107, (.mem (.ar 1 (x108.map e35)))) :: (n109, (.mem (.ar 1 (x110.map eI64)))) :: (n111, (.mem (.ar 1 (x112.map eI64)))) :: [])) (by first | rfl | simp only [m14, m16, cond_true, cond_false]) ?_
           refine AO.wK [99] ?_
           refine AO.c (Calm.nilCheck rfl rfl) ?_
           exact AO.nE (d := 100) rfl ⟨⟨100, _, rfl, rfl, rfl⟩, Sub.of_eq (by first | rfl | simp only [m14, m16, cond_true, cond_false]) (Sub.refl _)⟩
          ·refine StepE.calm (fun _ _ => rfl) fun L σ hc hi hd => ?_
           have m7 : L 7 = false := hc.neg (i := 6) (j := 7) rfl (by rfl) hi
           have m9 : L 9 = false := hc.neg (i := 7) (j := 9) rfl (by rfl) m7
           have m10 : L 10 = false := hc.neg (i := 9) (j := 10) rfl (by rfl) m9
           have m12 : L 12 = false := hc.neg (i := 10) (j := 12) rfl (by rfl) m10
           have m13 : L 13 = false := hc.neg (i := 12) (j := 13) rfl (by rfl) m12
           have m14 : L 14 = false := hc.neg (i := 13) (j := 14) rfl (by rfl) m13
           have m7 : L 7 = false := hc.neg (i := 6) (j := 7) rfl (by rfl) hi
           have m9 : L 9 = false := hc.neg (i := 7) (j := 9) rfl (by rfl) m7
           have m10 : L 10 = false := hc.neg (i := 9) (j := 10) rfl (by rfl) m9
           have m12 : L 12 = false := hc.neg (i := 10) (j := 12) rfl (by rfl) m10
           have m13 : L 13 = false := hc.neg (i := 12) (j := 13) rfl (by rfl) m12
           have m14 : L 14 = false := hc.neg (i := 13) (j := 14) rfl (by rfl) m13
           have m16 : L 16 = false := hc.neg (i := 14) (j := 16) rfl (by rfl) m14
           refine AO.heq (H' := ((n3, (.mem (e121 p0))) :: (n4, (.mem (.st [(256, (.ar 1 ((Vector.replicate 256 (0 : Int)).toList.map eU8))), (1, (.fl (.slice none 0 0))), (1, (.fl (.slice none 0 0)))]))) :: (n8, (.mem (.st [(4, (.st [(1, (eI64 x96)), (1, (.fz 7 (x97.map e152))), (1, (eI64 x98)), (1, (eI64 x99))])), (1, (.fz 1 (x100.map eI64))), (1, (.fz 1 (x101.map eU8))), (1, (.mp n102)), (1, (.own n104 0 x105.length)), (258, (.st [(256, (.ar 1 (x106.toList.map eU8))), (1, (.own n107 0 x108.length)), (1, (.own n109 0 x110.length))]))]))) :: (n102, (.map (encM Value.string eI64 x103))) :: (n104, (.mem (.ar 1 (x105.map e98)))) :: (n107, (.mem (.ar 1 (x108.map e35)))) :: (n109, (.mem (.ar 1 (x110.map eI64)))) :: (n111, (.mem (.ar 1 (x112.map eI64)))) :: [])) (by first | rfl | simp only [m14, m16, cond_true, cond_false]) ?_
           refine AO.wK [100] ?_
           refine AO.c (x := .ptr n8 7) (Calm.fldPtr rfl rfl Try.underlying156 rfl sz107 _ rfl) ?_
           exact AO.nE (d := 101) rfl ⟨⟨101, _, rfl, rfl, rfl⟩, Sub.of_eq (by first | rfl | simp only [m14, m16, cond_true, cond_false]) (Sub.refl _)⟩
          ·refine StepE.calm (fun _ _ => rfl) fun L σ hc hi hd => ?_
           have m9 : L 9 = false := hc.neg (i := 7) (j := 9) rfl (by rfl) hi
           have m10 : L 10 = false := hc.neg (i := 9) (j := 10) rfl (by rfl) m9
           have m12 : L 12 = false := hc.neg (i := 10) (j := 12) rfl (by rfl) m10
           have m13 : L 13 = false := hc.neg (i := 12) (j := 13) rfl (by rfl) m12
           have m14 : L 14 = false := hc.neg (i := 13) (j := 14) rfl (by rfl) m13
           have m9 : L 9 = false := hc.neg (i := 7) (j := 9) rfl (by rfl) hi
           have m10 : L 10 = false := hc.neg (i := 9) (j := 10) rfl (by rfl) m9
           have m12 : L 12 = false := hc.neg (i := 10) (j := 12) rfl (by rfl) m10
           have m13 : L 13 = false := hc.neg (i := 12) (j := 13) rfl (by rfl) m12
           have m14 : L 14 = false := hc.neg (i := 13) (j := 14) rfl (by rfl) m13
           have m16 : L 16 = false := hc.neg (i := 14) (j := 16) rfl (by rfl) m14
           refine AO.heq (H' := ((n3, (.mem (e121 p0))) :: (n4, (.mem (.st [(256, (.ar 1 ((Vector.replicate 256 (0 : Int)).toList.map eU8))), (1, (.fl (.slice none 0 0))), (1, (.fl (.slice none 0 0)))]))) :: (n8, (.mem (.st [(4, (.st [(1, (eI64 x96)), (1, (.fz 7 (x97.map e152))), (1, (eI64 x98)), (1, (eI64 x99))])), (1, (.fz 1 (x100.map eI64))), (1, (.fz 1 (x101.map eU8))), (1, (.mp n102)), (1, (.own n104 0 x105.length)), (258, (.st [(256, (.ar 1 (x106.toList.map eU8))), (1, (.own n107 0 x108.length)), (1, (.own n109 0 x110.length))]))]))) :: (n102, (.map (encM Value.string eI64 x103))) :: (n104, (.mem (.ar 1 (x105.map e98)))) :: (n107, (.mem (.ar 1 (x108.map e35)))) :: (n109, (.mem (.ar 1 (x110.map eI64)))) :: (n111, (.mem (.ar 1 (x112.map eI64)))) :: [])) (by first | rfl | simp only [m14, m16, cond_true, cond_false]) ?_
           refine AO.wK [101] ?_
           refine AO.c (Calm.load 2 rfl rfl rfl (At.cast (At.fldS (At.fldS (At.fldS (At.fldS (At.fld0 At.here))))) rfl) ag107 sz107) ?_
           exact AO.nE (d := 102) rfl ⟨⟨102, _, rfl, rfl, rfl⟩, Sub.of_eq (by first | rfl | simp only [m14, m16, cond_true, cond_false]) (Sub.refl _)⟩
          ·refine StepE.calm (fun _ _ => rfl) fun L σ hc hi hd => ?_
           refine AO.wK [9] ?_
           refine AO.mv rfl rfl ?_
           exact AO.nE (d := 103) rfl ⟨⟨103, _, rfl, rfl, rfl⟩, Sub.refl _⟩
          ·refine StepE.calm (fun _ _ => rfl) fun L σ hc hi hd => ?_
           have m10 : L 10 = false := hc.neg (i := 9) (j := 10) rfl (by rfl) hi
           have m12 : L 12 = false := hc.neg (i := 10) (j := 12) rfl (by rfl) m10
           have m13 : L 13 = false := hc.neg (i := 12) (j := 13) rfl (by rfl) m12
           have m14 : L 14 = false := hc.neg (i := 13) (j := 14) rfl (by rfl) m13
           have m10 : L 10 = false := hc.neg (i := 9) (j := 10) rfl (by rfl) hi
           have m12 : L 12 = false := hc.neg (i := 10) (j := 12) rfl (by rfl) m10
           have m13 : L 13 = false := hc.neg (i := 12) (j := 13) rfl (by rfl) m12
           have m14 : L 14 = false := hc.neg (i := 13) (j := 14) rfl (by rfl) m13
           have m16 : L 16 = false := hc.neg (i := 14) (j := 16) rfl (by rfl) m14
           refine AO.heq (H' := ((n3, (.mem (e121 p0))) :: (n4, (.mem (.st [(256, (.ar 1 ((Vector.replicate 256 (0 : Int)).toList.map eU8))), (1, (.fl (.slice none 0 0))), (1, (.fl (.slice none 0 0)))]))) :: (n8, (.mem (.st [(4, (.st [(1, (eI64 x96)), (1, (.fz 7 (x97.map e152))), (1, (eI64 x98)), (1, (eI64 x99))])), (1, (.fz 1 (x100.map eI64))), (1, (.fz 1 (x101.map eU8))), (1, (.mp n102)), (1, (.own n104 0 x105.length)), (258, (.st [(256, (.ar 1 (x106.toList.map eU8))), (1, (.own n107 0 x108.length)), (1, (.own n109 0 x110.length))]))]))) :: (n102, (.map (encM Value.string eI64 x103))) :: (n104, (.mem (.ar 1 (x105.map e98)))) :: (n107, (.mem (.ar 1 (x108.map e35)))) :: (n109, (.mem (.ar 1 (x110.map eI64)))) :: (n111, (.mem (.ar 1 (x112.map eI64)))) :: [])) (by first | rfl | simp only [m14, m16, cond_true, cond_false]) ?_
           refine AO.wK [102, 103] ?_
           refine AO.c (Calm.idxO 4 rfl rfl rfl rfl hg118 Try.underlying107 sz98) ?_
           exact AO.nE (d := 104) rfl ⟨⟨104, _, rfl, rfl, rfl⟩, Sub.of_eq (by first | rfl | simp only [m14, m16, cond_true, cond_false]) (Sub.refl _)⟩
          ·refine StepE.calm (fun _ _ => rfl) fun L σ hc hi hd => ?_
           have m12 : L 12 = false := hc.neg (i := 10) (j := 12) rfl (by rfl) hi
           have m13 : L 13 = false := hc.neg (i := 12) (j := 13) rfl (by rfl) m12
           have m14 : L 14 = false := hc.neg (i := 13) (j := 14) rfl (by rfl) m13
           have m12 : L 12 = false := hc.neg (i := 10) (j := 12) rfl (by rfl) hi
           have m13 : L 13 = false := hc.neg (i := 12) (j := 13) rfl (by rfl) m12
           have m14 : L 14 = false := hc.neg (i := 13) (j := 14) rfl (by rfl) m13
           have m16 : L 16 = false := hc.neg (i := 14) (j := 16) rfl (by rfl) m14
           refine AO.heq (H' := ((n3, (.mem (e121 p0))) :: (n4, (.mem (.st [(256, (.ar 1 ((Vector.replicate 256 (0 : Int)).toList.map eU8))), (1, (.fl (.slice none 0 0))), (1, (.fl (.slice none 0 0)))]))) :: (n8, (.mem (.st [(4, (.st [(1, (eI64 x96)), (1, (.fz 7 (x97.map e152))), (1, (eI64 x98)), (1, (eI64 x99))])), (1, (.fz 1 (x100.map eI64))), (1, (.fz 1 (x101.map eU8))), (1, (.mp n102)), (1, (.own n104 0 x105.length)), (258, (.st [(256, (.ar 1 (x106.toList.map eU8))), (1, (.own n107 0 x108.length)), (1, (.own n109 0 x110.length))]))]))) :: (n102, (.map (encM Value.string eI64 x103))) :: (n104, (.mem (.ar 1 (x105.map e98)))) :: (n107, (.mem (.ar 1 (x108.map e35)))) :: (n109, (.mem (.ar 1 (x110.map eI64)))) :: (n111, (.mem (.ar 1 (x112.map eI64)))) :: [])) (by first | rfl | simp only [m14, m16, cond_true, cond_false]) ?_
           refine AO.wK [104] ?_
           refine AO.c (Calm.load 4 rfl rfl rfl (At.cast (At.lidx x56 hg118.1 hg118.2 At.here) (by omega)) ag98 sz98) ?_
           exact AO.nE (d := 105) rfl ⟨⟨105, _, rfl, rfl, rfl⟩, Sub.of_eq (by first | rfl | simp only [m14, m16, cond_true, cond_false]) (Sub.refl _)⟩
          ·refine StepE.calm (fun _ _ => rfl) fun L σ hc hi hd => ?_
           refine AO.wK [12] ?_
           refine AO.mv rfl rfl ?_
           exact AO.nE (d := 106) rfl ⟨⟨106, _, rfl, rfl, rfl⟩, Sub.refl _⟩
          ·refine StepE.calm (fun _ _ => rfl) fun L σ hc hi hd => ?_
           refine AO.wK [98, 105, 106] ?_
           refine AO.callS [(e121 p0), (.fz 1 ((lget x105 x56).map eBool)), (eU8 (lget x46 x113))] (.fz 1 (t119.map eBool)) 107 rfl (by decide) ok100 rfl rfl rfl ⟨rfl, rfl, rfl, rfl, rfl, rfl, trivial⟩ (F100_spec et119) ?_
           exact AO.nE (d := 107) rfl ⟨⟨107, _, rfl, rfl, rfl⟩, Sub.refl _⟩
          ·refine StepE.calm (fun _ _ => rfl) fun L σ hc hi hd => ?_
           refine AO.wK [97, 107] ?_
           refine AO.callS [(e121 p0), (.fz 1 (t119.map eBool))] (.fz 1 (t120.map eBool)) 108 rfl (by decide) ok99 rfl rfl rfl ⟨rfl, rfl, rfl, rfl, trivial⟩ (F99_spec et120) ?_
           exact AO.nE (d := 108) rfl ⟨⟨108, _, rfl, rfl, rfl⟩, Sub.refl _⟩
          ·intro L σ hc hi hd
           have m16 : L 16 = false := hc.neg (i := 14) (j := 16) rfl (by rfl) hi
           refine AO.heq (H' := ((n3, (.mem (e121 p0))) :: (n4, (.mem (.st [(256, (.ar 1 ((Vector.replicate 256 (0 : Int)).toList.map eU8))), (1, (.fl (.slice none 0 0))), (1, (.fl (.slice none 0 0)))]))) :: (n8, (.mem (.st [(4, (.st [(1, (eI64 x96)), (1, (.fz 7 (x97.map e152))), (1, (eI64 x98)), (1, (eI64 x99))])), (1, (.fz 1 (x100.map eI64))), (1, (.fz 1 (x101.map eU8))), (1, (.mp n102)), (1, (.own n104 0 x105.length)), (258, (.st [(256, (.ar 1 (x106.toList.map eU8))), (1, (.own n107 0 x108.length)), (1, (.own n109 0 x110.length))]))]))) :: (n102, (.map (encM Value.string eI64 x103))) :: (n104, (.mem (.ar 1 (x105.map e98)))) :: (n107, (.mem (.ar 1 (x108.map e35)))) :: (n109, (.mem (.ar 1 (x110.map eI64)))) :: (n111, (.mem (.ar 1 (x112.map eI64)))) :: [])) (by first | rfl | simp only [hi, m16, cond_true, cond_false]) ?_
           refine AO.wK [96, 108] ?_
           refine AO.callH [(.ptr n8 0), (.fz 1 (t120.map eBool))] [(n8, (.mem (.st [(4, (.st [(1, (eI64 x96)), (1, (.fz 7 (x97.map e152))), (1, (eI64 x98)), (1, (eI64 x99))])), (1, (.fz 1 (x100.map eI64))), (1, (.fz 1 (x101.map eU8))), (1, (.mp n102)), (1, (.own n104 0 x105.length)), (258, (.st [(256, (.ar 1 (x106.toList.map eU8))), (1, (.own n107 0 x108.length)), (1, (.own n109 0 x110.length))]))]))), (n102, (.map (encM Value.string eI64 x103))), (n104, (.mem (.ar 1 (x105.map e98)))), (n107, (.mem (.ar 1 (x108.map e35)))), (n109, (.mem (.ar 1 (x110.map eI64)))), (n3, (.mem (e121 p0))), (n4, (.mem (.st [(256, (.ar 1 ((Vector.replicate 256 (0 : Int)).toList.map eU8))), (1, (.fl (.slice none 0 0))), (1, (.fl (.slice none 0 0)))]))), (n111, (.mem (.ar 1 (x112.map eI64))))] _ rfl rfl rfl 109 rfl (by decide) ok98 ⟨rfl, rfl, rfl, rfl, trivial⟩ (Sub.cons 2 rfl (Sub.cons 2 rfl (Sub.cons 2 rfl (Sub.cons 2 rfl (Sub.cons 2 rfl (Sub.refl _)))))) (F98_spec et121) ?_
           rintro _ _ ⟨n123, n124, n125, n126, rfl, hs122⟩
           refine AO.wH [96, 108, 109] hs122 ?_
           have a14 : addL L 14 14 = true := rfl
           have a16 : addL L 14 16 = false := m16
           have u14 : upd (upd (upd (upd σ 14 n123) 1014 n124) 2014 n125) 3014 n126 14 = n123 := rfl
           have u1014 : upd (upd (upd (upd σ 14 n123) 1014 n124) 2014 n125) 3014 n126 1014 = n124 := rfl
           have u2014 : upd (upd (upd (upd σ 14 n123) 1014 n124) 2014 n125) 3014 n126 2014 = n125 := rfl
           have u3014 : upd (upd (upd (upd σ 14 n123) 1014 n124) 2014 n125) 3014 n126 3014 = n126 := rfl
           have u16 : upd (upd (upd (upd σ 14 n123) 1014 n124) 2014 n125) 3014 n126 16 = σ 16 := rfl
           exact AO.nE (d := 109) rfl ⟨(upd (upd (upd (upd σ 14 n123) 1014 n124) 2014 n125) 3014 n126), (fun j hj => match j, hj with | 0, _ => rfl | 1, _ => rfl | 2, _ => rfl | 3, _ => rfl | 4, _ => rfl | 5, _ => rfl | 6, _ => rfl | 7, _ => rfl | 8, _ => rfl | 9, _ => rfl | 10, _ => rfl | 11, _ => rfl | 12, _ => rfl | 13, _ => rfl | 14, hj => Bool.noConfusion (hj.symm.trans hi) | 15, _ => rfl | 16, _ => rfl | 17, _ => rfl | _ + 18, _ => rfl), (fun d' hd' => ⟨_, rfl, by cases hd'; rfl⟩), Sub.of_eq (B := ((n3, (.mem (e121 p0))) :: (n4, (.mem (.st [(256, (.ar 1 ((Vector.replicate 256 (0 : Int)).toList.map eU8))), (1, (.fl (.slice none 0 0))), (1, (.fl (.slice none 0 0)))]))) :: (n8, (.mem (.st [(4, (e121 t121.2.f0)), (1, (.fz 1 (t121.2.f1.map eI64))), (1, (.fz 1 (t121.2.f2.map eU8))), (1, (.mp n123)), (1, (.own n124 0 t121.2.f4.length)), (258, (.st [(256, (.ar 1 (t121.2.f5.f0.toList.map eU8))), (1, (.own n125 0 t121.2.f5.f1.length)), (1, (.own n126 0 t121.2.f5.f2.length))]))]))) :: (n123, (.map (encM Value.string eI64 t121.2.f3))) :: (n124, (.mem (.ar 1 (t121.2.f4.map e98)))) :: (n125, (.mem (.ar 1 (t121.2.f5.f1.map e35)))) :: (n126, (.mem (.ar 1 (t121.2.f5.f2.map eI64)))) :: (n111, (.mem (.ar 1 (x112.map eI64)))) :: [])) (by simp only [a14, a16, u14, u1014, u2014, u3014, u16, cond_true, cond_false]) (Sub.cons 5 rfl (Sub.cons 5 rfl (Sub.cons 0 rfl (Sub.cons 0 rfl (Sub.cons 0 rfl (Sub.cons 0 rfl (Sub.cons 0 rfl (Sub.cons 0 rfl (Sub.refl _)))))))))⟩
          ·refine StepE.calm (fun _ _ => rfl) fun L σ hc hi hd => ?_
           refine AO.wK [109] ?_
           refine AO.lit (Z := (eI64 (0 : Int))) (xs := (([t121.1] : List Int).map eI64)) (qs := [(0, (eI64 t121.1))]) rfl 110 rfl (by decide) rfl ⟨rfl, rfl, rfl, trivial⟩ Try.underlying35 sz3 zr3 lay3 rfl (by decide) (litOK (z := 1) [(eI64 t121.1)] rfl ⟨⟨rfl, rfl⟩, trivial⟩) rfl fun n127 => ?_
           refine AO.freezeS 0 [(110, (.fz 1 (([t121.1] : List Int).map eI64)))] rfl ⟨fz_all rfl, trivial⟩ ?_
           exact AO.nE (d := 110) rfl ⟨⟨110, _, rfl, rfl, rfl⟩, Sub.refl _⟩
          ·intro L σ hc hi hd
           have y14 : L 14 = true := on_get hd (i := 14) (by rfl)
           refine AO.heq (H' := ((n3, (.mem (e121 p0))) :: (n4, (.mem (.st [(256, (.ar 1 ((Vector.replicate 256 (0 : Int)).toList.map eU8))), (1, (.fl (.slice none 0 0))), (1, (.fl (.slice none 0 0)))]))) :: (n8, (.mem (.st [(4, (e121 t121.2.f0)), (1, (.fz 1 (t121.2.f1.map eI64))), (1, (.fz 1 (t121.2.f2.map eU8))), (1, (.mp (σ 14))), (1, (.own (σ 1014) 0 t121.2.f4.length)), (258, (.st [(256, (.ar 1 (t121.2.f5.f0.toList.map eU8))), (1, (.own (σ 2014) 0 t121.2.f5.f1.length)), (1, (.own (σ 3014) 0 t121.2.f5.f2.length))]))]))) :: ((σ 14), (.map (encM Value.string eI64 t121.2.f3))) :: ((σ 1014), (.mem (.ar 1 (t121.2.f4.map e98)))) :: ((σ 2014), (.mem (.ar 1 (t121.2.f5.f1.map e35)))) :: ((σ 3014), (.mem (.ar 1 (t121.2.f5.f2.map eI64)))) :: (n111, (.mem (.ar 1 (x112.map eI64)))) :: [])) (by first | rfl | simp only [hi, y14, cond_true, cond_false]) ?_
           refine AO.wK [95, 110] ?_
           refine AO.appendL (l := x112) (m := ([t121.1] : List Int)) 7 111 rfl (by decide) rfl rfl rfl rfl rfl Src.fz Try.underlying35 Try.underlying35 sz3 by3 zr3 rfl hg129 (by decide) fun n128 => ?_
           have a14 : addL L 16 14 = true := y14
           have a16 : addL L 16 16 = true := rfl
           have u14 : upd σ 16 n128 14 = σ 14 := rfl
           have u1014 : upd σ 16 n128 1014 = σ 1014 := rfl
           have u2014 : upd σ 16 n128 2014 = σ 2014 := rfl
           have u3014 : upd σ 16 n128 3014 = σ 3014 := rfl
           have u16 : upd σ 16 n128 16 = n128 := rfl
           have m17 : L 17 = false := hc.neg (i := 16) (j := 17) rfl (by rfl) hi
           exact AO.nE (d := 111) rfl ⟨(upd σ 16 n128), (fun j hj => match j, hj with | 0, _ => rfl | 1, _ => rfl | 2, _ => rfl | 3, _ => rfl | 4, _ => rfl | 5, _ => rfl | 6, _ => rfl | 7, _ => rfl | 8, _ => rfl | 9, _ => rfl | 10, _ => rfl | 11, _ => rfl | 12, _ => rfl | 13, _ => rfl | 14, _ => rfl | 15, _ => rfl | 16, hj => Bool.noConfusion (hj.symm.trans hi) | 17, hj => Bool.noConfusion (hj.symm.trans m17) | _ + 18, _ => rfl), (fun d' hd' => ⟨_, rfl, by cases hd'; rfl⟩), Sub.of_eq (B := ((n3, (.mem (e121 p0))) :: (n4, (.mem (.st [(256, (.ar 1 ((Vector.replicate 256 (0 : Int)).toList.map eU8))), (1, (.fl (.slice none 0 0))), (1, (.fl (.slice none 0 0)))]))) :: (n8, (.mem (.st [(4, (e121 t121.2.f0)), (1, (.fz 1 (t121.2.f1.map eI64))), (1, (.fz 1 (t121.2.f2.map eU8))), (1, (.mp (σ 14))), (1, (.own (σ 1014) 0 t121.2.f4.length)), (258, (.st [(256, (.ar 1 (t121.2.f5.f0.toList.map eU8))), (1, (.own (σ 2014) 0 t121.2.f5.f1.length)), (1, (.own (σ 3014) 0 t121.2.f5.f2.length))]))]))) :: ((σ 14), (.map (encM Value.string eI64 t121.2.f3))) :: ((σ 1014), (.mem (.ar 1 (t121.2.f4.map e98)))) :: ((σ 2014), (.mem (.ar 1 (t121.2.f5.f1.map e35)))) :: ((σ 3014), (.mem (.ar 1 (t121.2.f5.f2.map eI64)))) :: (n128, (.mem (.ar 1 ((x112 ++ ([t121.1] : List Int)).map eI64)))) :: [])) (by simp only [a14, a16, u14, u1014, u2014, u3014, u16, cond_true, cond_false]) (Sub.refl _)⟩
          ·refine StepE.calm (fun _ _ => rfl) fun L σ hc hi hd => ?_
           have y14 : L 14 = true := on_get hd (i := 14) (by rfl)
           have y16 : L 16 = true := on_get hd (i := 16) (by rfl)
           refine AO.heq (H' := ((n3, (.mem (e121 p0))) :: (n4, (.mem (.st [(256, (.ar 1 ((Vector.replicate 256 (0 : Int)).toList.map eU8))), (1, (.fl (.slice none 0 0))), (1, (.fl (.slice none 0 0)))]))) :: (n8, (.mem (.st [(4, (e121 t121.2.f0)), (1, (.fz 1 (t121.2.f1.map eI64))), (1, (.fz 1 (t121.2.f2.map eU8))), (1, (.mp (σ 14))), (1, (.own (σ 1014) 0 t121.2.f4.length)), (258, (.st [(256, (.ar 1 (t121.2.f5.f0.toList.map eU8))), (1, (.own (σ 2014) 0 t121.2.f5.f1.length)), (1, (.own (σ 3014) 0 t121.2.f5.f2.length))]))]))) :: ((σ 14), (.map (encM Value.string eI64 t121.2.f3))) :: ((σ 1014), (.mem (.ar 1 (t121.2.f4.map e98)))) :: ((σ 2014), (.mem (.ar 1 (t121.2.f5.f1.map e35)))) :: ((σ 3014), (.mem (.ar 1 (t121.2.f5.f2.map eI64)))) :: ((σ 16), (.mem (.ar 1 ((x112 ++ ([t121.1] : List Int)).map eI64)))) :: [])) (by first | rfl | simp only [y14, y16, cond_true, cond_false]) ?_
           refine AO.wK [111] ?_
           refine AO.ag rfl rfl ?_
           exact AO.nE (d := 10) rfl ⟨⟨10, _, rfl, rfl, rfl⟩, Sub.of_eq (by first | rfl | simp only [y14, y16, cond_true, cond_false]) (Sub.refl _)⟩
          ·generalize σ 14 = n123
           generalize σ 1014 = n124
           generalize σ 2014 = n125
           generalize σ 3014 = n126
           generalize σ 16 = n128
           refine AO.nK [2, 4, 6, 9, 10, 89, 90, 91] ?_
           refine AW.reg ?_
           refine AO.c (x := eI64 (w64 (x113 + (1 : Int)))) (Calm.int rfl rfl rfl rfl) ?_
           refine AO.mv rfl rfl ?_
           refine AO.nK [2, 4, 6, 9, 10, 89, 90, 91] ?_
           exact ⟨kq115, Nat.lt_succ_self _, n123, n124, n125, n126, n128, t121.2.f0.f0, t121.2.f0.f1, t121.2.f0.f2, t121.2.f0.f3, t121.2.f1, t121.2.f2, t121.2.f3, t121.2.f4, t121.2.f5.f0, t121.2.f5.f1, t121.2.f5.f2, (x112 ++ ([t121.1] : List Int)), (w64 (x113 + (1 : Int))), rfl, rfl, by rw [hrec114]; exact h⟩
         ·refine AW.condN _ rfl hc116 ?_
          refine AW.eK [2, 4, 6, 9, 10] ?_
          exact ⟨n102, n104, n107, n109, n111, x96, x97, x98, x99, x100, x101, x103, x105, x106, x108, x110, x112, rfl, rfl, h⟩
        ·rintro _ _ ⟨n82, n84, n87, n89, n91, x76, x77, x78, x79, x80, x81, x83, x85, x86, x88, x90, x92, rfl, rfl, h⟩
         rw [F76_c2.eq_1] at h
         refine AW.reg ?_
         refine AO.mv rfl rfl ?_
         refine AO.mv rfl rfl ?_
         refine AO.c (Calm.nilCheck rfl rfl) ?_
         refine AO.c (x := .ptr n8 8) (Calm.fldPtr rfl rfl Try.underlying156 rfl sz55 _ rfl) ?_
         refine AO.c (x := .ptr n8 264) (Calm.fldPtr rfl rfl Try.underlying55 rfl sz53 _ rfl) ?_
         refine AO.c (Calm.load 2 rfl rfl rfl (At.cast (At.fldS (At.fldS (At.fldS (At.fldS (At.fldS (At.fld0 (At.fldS (At.fld0 At.here)))))))) rfl) ag53 sz53) ?_
         refine AO.mv rfl rfl ?_
         refine AO.freezeS 7 [(10, (.fz 1 (x92.map eI64))), (119, (.fz 1 (x92.map eI64)))] rfl ⟨fz_all rfl, fz_all rfl, trivial⟩ ?_
         refine AO.lit (Z := (.fl (.slice none 0 0))) (xs := (([x92] : List (List Int)).map e35)) (qs := [(0, (.fz 1 (x92.map eI64)))]) rfl 120 rfl (by decide) rfl ⟨rfl, rfl, rfl, trivial⟩ Try.underlying53 sz35 zr35 lay35 rfl (by decide) (litOK (z := 1) [(.fz 1 (x92.map eI64))] rfl ⟨⟨rfl, rfl⟩, trivial⟩) rfl fun n93 => ?_
         obtain ⟨hg95, h⟩ := of_guard h
         refine AO.appendL (l := x88) (m := ([x92] : List (List Int))) 6 121 rfl (by decide) rfl rfl rfl rfl rfl (Src.ownL (f := e35) (l := ([x92] : List (List Int))) 0 rfl) Try.underlying53 Try.underlying53 sz35 by35 zr35 rfl hg95 (by decide) fun n94 => ?_
         refine AO.c (Calm.nilCheck rfl rfl) ?_
         refine AO.c (x := .ptr n8 8) (Calm.fldPtr rfl rfl Try.underlying156 rfl sz55 _ rfl) ?_
         refine AO.c (x := .ptr n8 264) (Calm.fldPtr rfl rfl Try.underlying55 rfl sz53 _ rfl) ?_
         refine AO.store (X' := (.st [(4, (.st [(1, (eI64 x76)), (1, (.fz 7 (x77.map e152))), (1, (eI64 x78)), (1, (eI64 x79))])), (1, (.fz 1 (x80.map eI64))), (1, (.fz 1 (x81.map eU8))), (1, (.mp n82)), (1, (.own n84 0 x85.length)), (258, (.st [(256, (.ar 1 (x86.toList.map eU8))), (1, (.own n94 0 (x88 ++ ([x92] : List (List Int))).length)), (1, (.own n89 0 x90.length))]))])) 3 rfl rfl rfl rfl rfl rfl (Put.cast (Put.fldS (Put.fldS (Put.fldS (Put.fldS (Put.fldS (Put.fld0 (Put.fldS (Put.fld0 Put.here)))))))) rfl) rfl rfl sz53 rfl ?_
         refine AO.nH [2, 4, 6, 9] (H' := [(n3, (.mem (e121 p0))), (n4, (.mem (.st [(256, (.ar 1 ((Vector.replicate 256 (0 : Int)).toList.map eU8))), (1, (.fl (.slice none 0 0))), (1, (.fl (.slice none 0 0)))]))), (n8, (.mem (.st [(4, (.st [(1, (eI64 x76)), (1, (.fz 7 (x77.map e152))), (1, (eI64 x78)), (1, (eI64 x79))])), (1, (.fz 1 (x80.map eI64))), (1, (.fz 1 (x81.map eU8))), (1, (.mp n82)), (1, (.own n84 0 x85.length)), (258, (.st [(256, (.ar 1 (x86.toList.map eU8))), (1, (.own n94 0 (x88 ++ ([x92] : List (List Int))).length)), (1, (.own n89 0 x90.length))]))]))), (n82, (.map (encM Value.string eI64 x83))), (n84, (.mem (.ar 1 (x85.map e98)))), (n94, (.mem (.ar 1 ((x88 ++ ([x92] : List (List Int))).map e35)))), (n89, (.mem (.ar 1 (x90.map eI64))))]) (Sub.cons 1 rfl (Sub.cons 1 rfl (Sub.cons 1 rfl (Sub.cons 1 rfl (Sub.cons 1 rfl (Sub.cons 1 rfl (Sub.cons 1 rfl (Sub.nil _)))))))) ?_
         exact ⟨n82, n84, n94, n89, x76, x77, x78, x79, x80, x81, x83, x85, x86, (x88 ++ ([x92] : List (List Int))), x90, rfl, rfl, h⟩
      ·rintro _ _ ⟨n66, n68, n71, n73, x60, x61, x62, x63, x64, x65, x67, x69, x70, x72, x74, rfl, rfl, h⟩
       rw [F76_c1.eq_1] at h
       refine AW.reg ?_
       refine AO.mv rfl rfl ?_
       refine AO.c (x := eI64 (w64 (x56 + (1 : Int)))) (Calm.int rfl rfl rfl rfl) ?_
       refine AO.ag rfl rfl ?_
       refine AO.nK [2, 4, 6, 9] ?_
       exact ⟨kq58, Nat.lt_succ_self _, n66, n68, n71, n73, x60, x61, x62, x63, x64, x65, x67, x69, x70, x72, x74, (w64 (x56 + (1 : Int))), rfl, rfl, by rw [hrec57]; exact h⟩
     ·refine AW.condN _ rfl hc59 ?_
      refine AW.eH [4, 6] (H' := [(n4, (.mem (.st [(256, (.ar 1 ((Vector.replicate 256 (0 : Int)).toList.map eU8))), (1, (.fl (.slice none 0 0))), (1, (.fl (.slice none 0 0)))]))), (n8, (.mem (.st [(4, (.st [(1, (eI64 x41)), (1, (.fz 7 (x42.map e152))), (1, (eI64 x43)), (1, (eI64 x44))])), (1, (.fz 1 (x45.map eI64))), (1, (.fz 1 (x46.map eU8))), (1, (.mp n47)), (1, (.own n49 0 x50.length)), (258, (.st [(256, (.ar 1 (x51.toList.map eU8))), (1, (.own n52 0 x53.length)), (1, (.own n54 0 x55.length))]))]))), (n47, (.map (encM Value.string eI64 x48))), (n49, (.mem (.ar 1 (x50.map e98)))), (n52, (.mem (.ar 1 (x53.map e35)))), (n54, (.mem (.ar 1 (x55.map eI64))))]) (Sub.cons 1 rfl (Sub.cons 1 rfl (Sub.cons 1 rfl (Sub.cons 1 rfl (Sub.cons 1 rfl (Sub.cons 1 rfl (Sub.nil _))))))) ?_
      exact ⟨n47, n49, n52, n54, x41, x42, x43, x44, x45, x46, x48, x50, x51, x53, x55, rfl, rfl, h⟩
    ·rintro _ _ ⟨n32, n34, n37, n39, x26, x27, x28, x29, x30, x31, x33, x35, x36, x38, x40, rfl, rfl, h⟩
     rw [F76_c0.eq_1] at h
     refine AW.sr ?_
     refine AO.mv rfl rfl ?_
     refine AO.c (Calm.nilCheck rfl rfl) ?_
     refine AO.c (x := .ptr n8 8) (Calm.fldPtr rfl rfl Try.underlying156 rfl sz55 _ rfl) ?_
     refine AO.freezeFld (X' := (.st [(4, (.st [(1, (eI64 x26)), (1, (.fz 7 (x27.map e152))), (1, (eI64 x28)), (1, (eI64 x29))])), (1, (.fz 1 (x30.map eI64))), (1, (.fz 1 (x31.map eU8))), (1, (.mp n32)), (1, (.own n34 0 x35.length)), (258, (.st [(256, (.ar 1 (x36.toList.map eU8))), (1, (.fz 1 (x38.map e35))), (1, (.own n39 0 x40.length))]))])) (els' := (x38.map e35)) 4 1 rfl rfl (Put.cast (Put.fldS (Put.fldS (Put.fldS (Put.fldS (Put.fldS (Put.fld0 (Put.fldS (Put.fld0 Put.here)))))))) rfl) (by simp) (by rw [own_all]) rfl rfl (by decide) ?_
     refine AO.freezeFld (X' := (.st [(4, (.st [(1, (eI64 x26)), (1, (.fz 7 (x27.map e152))), (1, (eI64 x28)), (1, (eI64 x29))])), (1, (.fz 1 (x30.map eI64))), (1, (.fz 1 (x31.map eU8))), (1, (.mp n32)), (1, (.own n34 0 x35.length)), (258, (.st [(256, (.ar 1 (x36.toList.map eU8))), (1, (.fz 1 (x38.map e35))), (1, (.fz 1 (x40.map eI64)))]))])) (els' := (x40.map eI64)) 4 1 rfl rfl (Put.cast (Put.fldS (Put.fldS (Put.fldS (Put.fldS (Put.fldS (Put.fld0 (Put.fldS (Put.fldS (Put.fld0 Put.here))))))))) rfl) (by simp) (by rw [own_all]) rfl rfl (by decide) ?_
     refine AO.c (x := e55 (S55.mk x36 x38 x40)) (Calm.load 1 rfl rfl rfl (At.cast (At.fldS (At.fldS (At.fldS (At.fldS (At.fldS (At.fld0 At.here)))))) rfl) ag55 sz55) ?_
     refine AO.store (X' := (e55 (S55.mk x36 x38 x40))) 0 rfl rfl rfl rfl rfl rfl (Put.cast Put.here rfl) rfl rfl sz55 rfl ?_
     refine AO.ag rfl rfl ?_
     refine AO.nH [4, 5] (H' := [(n4, (.mem (e55 (S55.mk x36 x38 x40))))]) (Sub.cons 0 rfl (Sub.nil _)) ?_
     refine AW.rK [4, 5] ?_
     have hr := Option.some.inj h
     subst hr
     exact ⟨[(e55 (S55.mk x36 x38 x40)), (eI64 (0 : Int))], ⟨⟨_, 0, rfl, rfl, ag55, sz55⟩, rfl, rfl, trivial⟩, rfl⟩
end Go.Avl.T7
/- bosket/subset.One; printed by avmain.py. -/
namespace Go.Avl.T7
open Go Go.RowKit Go.Proofs Go.Avl
set_option linter.unusedVariables false
set_option maxRecDepth 100000
set_option maxHeartbeats 4000000
attribute [local irreducible] AW AO AQ Spec SpecH Calm

def F77_c0 (k : Nat) (p0 : S121) (x8 : (List Int)) : Option (S55 × Int) :=
  if 0 ≤ p0.f3 ∧ p0.f3 < (x8.length : Int) then (F76 k p0 (lset x8 p0.f3 (0 : Int))).bind fun t10 =>
  some (t10.1, t10.2)
  else none
def F77_l1 (k : Nat) (p0 : S121) : Nat → (List Int) → Int → Option (S55 × Int)
  | 0, _, _ => none
  | j + 1, x11, x12 =>
    if x12 < ((List.replicate p0.f0.toNat (0 : Int)).length : Int) then if 0 ≤ x12 ∧ x12 < (x11.length : Int) then (F77_l1 k p0 j) (lset x11 x12 (-1 : Int)) (w64 (x12 + (1 : Int)))
    else none
    else F77_c0 k p0 x11
def F77 (k : Nat) (p0 : S121) : Option (S55 × Int) :=
  (F95 k p0).bind fun t4 =>
  if (!t4) = true then some ((S55.mk (Vector.replicate 256 (0 : Int)) ([] : List (List Int)) ([] : List Int)), (1 : Int))
  else if 0 ≤ p0.f0 ∧ p0.f0 * (8 : Int) ≤ 140737488355328 ∧ p0.f0 ≤ 9223372036854775807 then F77_l1 k p0 k (List.replicate p0.f0.toNat (0 : Int)) (0 : Int)
  else none
theorem F77_spec {k : Nat} {p0 : S121} {r : (S55 × Int)} (h : F77 k p0 = some r) : Spec Try.prog 77 [(e121 p0)] (.tup [(e55 r.1), (eI64 r.2)]) := by
  rw [F77.eq_1] at h
  refine Spec.intro (res := [.cell 2 55, .tmp 3]) Try.func77 rfl rfl rfl (Nat.le_of_ble_eq_true rfl) ?_
  refine AW.sr ?_
  refine AO.box rfl 1 rfl (by decide) rfl rfl rfl fun n2 => ?_
  refine AO.alloc rfl 2 rfl (by decide) rfl zr55 lay55 fun n3 => ?_
  refine AO.ag rfl rfl ?_
  refine AO.nH [1, 2] (H' := [(n2, (.mem (e121 p0))), (n3, (.mem (.st [(256, (.ar 1 ((Vector.replicate 256 (0 : Int)).toList.map eU8))), (1, (.fl (.slice none 0 0))), (1, (.fl (.slice none 0 0)))])))]) (Sub.cons 1 rfl (Sub.cons 0 rfl (Sub.nil _))) ?_
  refine AW.seq ?_
  refine AW.sr ?_
  refine AO.c (Calm.load 0 rfl rfl rfl (At.cast At.here rfl) ag121 sz121) ?_
  obtain ⟨t4, et4, h⟩ := of_bind h
  refine AO.callS [(e121 p0)] (eBool t4) 7 rfl (by decide) ok95 rfl rfl rfl ⟨rfl, rfl, trivial⟩ (F95_spec et4) ?_
  refine AO.c (Calm.not rfl rfl) ?_
  refine AO.nK [1, 2, 8] ?_
  rcases of_ite h with ⟨hc5, h⟩ | ⟨hc5, h⟩
  ·refine AW.condT' _ rfl hc5 ?_
   refine AW.sr ?_
   refine AO.c (x := .st [(256, (.ar 1 ((Vector.replicate 256 (0 : Int)).toList.map eU8))), (1, (.fl (.slice none 0 0))), (1, (.fl (.slice none 0 0)))]) (Calm.build (qs := []) rfl trivial Try.underlying55 rfl zr55 lay55 .nil rfl) ?_
   refine AO.store (X' := (.st [(256, (.ar 1 ((Vector.replicate 256 (0 : Int)).toList.map eU8))), (1, (.fl (.slice none 0 0))), (1, (.fl (.slice none 0 0)))])) 1 rfl rfl rfl rfl rfl rfl (Put.cast Put.here rfl) rfl rfl sz55 rfl ?_
   refine AO.ag rfl rfl ?_
   refine AO.nH [2, 3] (H' := [(n3, (.mem (.st [(256, (.ar 1 ((Vector.replicate 256 (0 : Int)).toList.map eU8))), (1, (.fl (.slice none 0 0))), (1, (.fl (.slice none 0 0)))])))]) (Sub.cons 1 rfl (Sub.nil _)) ?_
   refine AW.coeFld (X' := (.st [(256, (.ar 1 ((Vector.replicate 256 (0 : Int)).toList.map eU8))), (1, (.fz 1 (([] : List (List Int)).map e35))), (1, (.fl (.slice none 0 0)))])) 0 rfl (Put.cast (Put.fldS (Put.fld0 Put.here)) rfl) rfl (nil_fz 1) rfl rfl ?_
   refine AW.coeFld (X' := (.st [(256, (.ar 1 ((Vector.replicate 256 (0 : Int)).toList.map eU8))), (1, (.fz 1 (([] : List (List Int)).map e35))), (1, (.fz 1 (([] : List Int).map eI64)))])) 0 rfl (Put.cast (Put.fldS (Put.fldS (Put.fld0 Put.here))) rfl) rfl (nil_fz 1) rfl rfl ?_
   refine AW.rK [2, 3] ?_
   have hr := Option.some.inj h
   subst hr
   exact ⟨[(e55 (S55.mk (Vector.replicate 256 (0 : Int)) ([] : List (List Int)) ([] : List Int))), (eI64 (1 : Int))], ⟨⟨_, 0, rfl, rfl, ag55, sz55⟩, rfl, rfl, trivial⟩, rfl⟩
  ·refine AW.condF' _ rfl hc5 ?_
   refine AW.sK [1, 2] ?_
   refine AW.sr ?_
   refine AO.c (x := .ptr n2 0) (Calm.fldPtr rfl rfl Try.underlying121 rfl sz3 _ rfl) ?_
   refine AO.c (Calm.load 0 rfl rfl rfl (At.cast (At.fld0 At.here) rfl) ag3 sz3) ?_
   obtain ⟨hg7, h⟩ := of_guard h
   refine AO.makeL (f := eI64) (0 : Int) rfl 12 rfl (by decide) rfl rfl rfl Try.underlying35 sz3 by3 zr3 lay3 rfl hg7 fun n6 => ?_
   refine AO.ag rfl rfl ?_
   refine AO.nH [1, 2, 4] (H' := [(n2, (.mem (e121 p0))), (n3, (.mem (.st [(256, (.ar 1 ((Vector.replicate 256 (0 : Int)).toList.map eU8))), (1, (.fl (.slice none 0 0))), (1, (.fl (.slice none 0 0)))]))), (n6, (.mem (.ar 1 ((List.replicate p0.f0.toNat (0 : Int)).map eI64))))]) (Sub.cons 1 rfl (Sub.cons 1 rfl (Sub.cons 0 rfl (Sub.nil _)))) ?_
   refine AW.seq_mid (fun ρ H => ∃ (x8 : (List Int)), ρ = [(1, (.ptr n2 0)), (2, (.ptr n3 0)), (4, (.own n6 0 x8.length))] ∧ H = [(n2, (.mem (e121 p0))), (n3, (.mem (.st [(256, (.ar 1 ((Vector.replicate 256 (0 : Int)).toList.map eU8))), (1, (.fl (.slice none 0 0))), (1, (.fl (.slice none 0 0)))]))), (n6, (.mem (.ar 1 (x8.map eI64))))] ∧ F77_c0 k p0 x8 = some r) ?_ ?_
   ·refine AW.sr ?_
    refine AO.mv rfl rfl ?_
    refine AO.c (Calm.lenOwn rfl rfl Try.underlying35) ?_
    refine AO.mv rfl rfl ?_
    refine AO.nK [1, 2, 4, 14, 15] ?_
    refine AW.block ?_
    refine AW.wK [1, 2, 4, 14, 15] ?_
    refine AW.loop (fun kq ρ H => ∃ (x11 : (List Int)) (x12 : Int), ρ = [(1, (.ptr n2 0)), (2, (.ptr n3 0)), (4, (.own n6 0 x11.length)), (14, (eI64 ((List.replicate p0.f0.toNat (0 : Int)).length : Int))), (15, (eI64 x12))] ∧ H = [(n2, (.mem (e121 p0))), (n3, (.mem (.st [(256, (.ar 1 ((Vector.replicate 256 (0 : Int)).toList.map eU8))), (1, (.fl (.slice none 0 0))), (1, (.fl (.slice none 0 0)))]))), (n6, (.mem (.ar 1 (x11.map eI64))))] ∧ F77_l1 k p0 kq x11 x12 = some r) k ⟨(List.replicate p0.f0.toNat (0 : Int)), (0 : Int), rfl, rfl, h⟩ ?_
    rintro kq14 _ _ ⟨x11, x12, rfl, rfl, h⟩
    cases kq14 with
    | zero => rw [F77_l1.eq_1] at h; cases h
    | succ kq14 =>
    rw [F77_l1.eq_2] at h
    generalize hrec13 : F77_l1 k p0 kq14 = rec13 at h
    refine AW.sr ?_
    refine AO.c (x := eBool (decide (x12 < ((List.replicate p0.f0.toNat (0 : Int)).length : Int)))) (Calm.int rfl rfl rfl rfl) ?_
    refine AO.nK [1, 2, 4, 14, 15, 16] ?_
    refine AW.seq ?_
    rcases of_ite h with ⟨hc15, h⟩ | ⟨hc15, h⟩
    ·refine AW.condP _ rfl hc15 ?_
     refine AW.sK [1, 2, 4, 14, 15] ?_
     refine AW.seq ?_
     refine AW.block ?_
     refine AW.sr ?_
     refine AO.mv rfl rfl ?_
     refine AO.ag rfl rfl ?_
     refine AO.nK [1, 2, 4, 5, 14, 15] ?_
     refine AW.reg ?_
     refine AO.mv rfl rfl ?_
     refine AO.mv rfl rfl ?_
     obtain ⟨hg16, h⟩ := of_guard h
     refine AO.c (Calm.idxO 2 rfl rfl rfl rfl hg16 Try.underlying35 sz3) ?_
     refine AO.store (X' := (.ar 1 ((lset x11 x12 (-1 : Int)).map eI64))) 2 rfl rfl rfl rfl rfl rfl (Put.cast (Put.lidx x12 (-1 : Int) hg16.1 hg16.2 Put.here) (by omega)) rfl rfl sz3 rfl ?_
     refine AO.coe 4 (y' := (.own n6 0 (lset x11 x12 (-1 : Int)).length)) rfl (fun _ _ h => lset_own h) ?_
     refine AO.coe 18 (y' := (.own n6 0 (lset x11 x12 (-1 : Int)).length)) rfl (fun _ _ h => lset_own h) ?_
     refine AO.nK [1, 2, 4, 14, 15] ?_
     refine AW.reg ?_
     refine AO.c (x := eI64 (w64 (x12 + (1 : Int)))) (Calm.int rfl rfl rfl rfl) ?_
     refine AO.mv rfl rfl ?_
     refine AO.nK [1, 2, 4, 14, 15] ?_
     exact ⟨kq14, Nat.lt_succ_self _, (lset x11 x12 (-1 : Int)), (w64 (x12 + (1 : Int))), rfl, rfl, by rw [hrec13]; exact h⟩
    ·refine AW.condN _ rfl hc15 ?_
     refine AW.eK [1, 2, 4] ?_
     exact ⟨x11, rfl, rfl, h⟩
   ·rintro _ _ ⟨x8, rfl, rfl, h⟩
    rw [F77_c0.eq_1] at h
    refine AW.sr ?_
    refine AO.mv rfl rfl ?_
    refine AO.c (x := .ptr n2 3) (Calm.fldPtr rfl rfl Try.underlying121 rfl sz3 _ rfl) ?_
    refine AO.c (Calm.load 0 rfl rfl rfl (At.cast (At.fldS (At.fldS (At.fldS (At.fld0 At.here)))) rfl) ag3 sz3) ?_
    obtain ⟨hg9, h⟩ := of_guard h
    refine AO.c (Calm.idxO 2 rfl rfl rfl rfl hg9 Try.underlying35 sz3) ?_
    refine AO.store (X' := (.ar 1 ((lset x8 p0.f3 (0 : Int)).map eI64))) 2 rfl rfl rfl rfl rfl rfl (Put.cast (Put.lidx p0.f3 (0 : Int) hg9.1 hg9.2 Put.here) (by omega)) rfl rfl sz3 rfl ?_
    refine AO.coe 4 (y' := (.own n6 0 (lset x8 p0.f3 (0 : Int)).length)) rfl (fun _ _ h => lset_own h) ?_
    refine AO.coe 22 (y' := (.own n6 0 (lset x8 p0.f3 (0 : Int)).length)) rfl (fun _ _ h => lset_own h) ?_
    refine AO.nK [1, 2, 4] ?_
    refine AW.sr ?_
    refine AO.c (Calm.load 0 rfl rfl rfl (At.cast At.here rfl) ag121 sz121) ?_
    refine AO.mv rfl rfl ?_
    obtain ⟨t10, et10, h⟩ := of_bind h
    refine AO.freezeS 2 [(4, (.fz 1 ((lset x8 p0.f3 (0 : Int)).map eI64))), (27, (.fz 1 ((lset x8 p0.f3 (0 : Int)).map eI64)))] rfl ⟨fz_all rfl, fz_all rfl, trivial⟩ ?_
    refine AO.callS [(e121 p0), (.fz 1 ((lset x8 p0.f3 (0 : Int)).map eI64))] (.tup [(e55 t10.1), (eI64 t10.2)]) 28 rfl (by decide) ok76 rfl rfl rfl ⟨rfl, rfl, rfl, rfl, trivial⟩ (F76_spec et10) ?_
    refine AO.c (Calm.extract rfl rfl rfl) ?_
    refine AO.c (Calm.extract rfl rfl rfl) ?_
    refine AO.store (X' := (e55 t10.1)) 1 rfl rfl rfl rfl rfl rfl (Put.cast Put.here rfl) rfl rfl sz55 rfl ?_
    refine AO.ag rfl rfl ?_
    refine AO.nH [2, 3] (H' := [(n3, (.mem (e55 t10.1)))]) (Sub.cons 1 rfl (Sub.nil _)) ?_
    refine AW.rK [2, 3] ?_
    have hr := Option.some.inj h
    subst hr
    exact ⟨[(e55 t10.1), (eI64 t10.2)], ⟨⟨_, 0, rfl, rfl, ag55, sz55⟩, rfl, rfl, trivial⟩, rfl⟩
end Go.Avl.T7
/- bosket/rules.raw; printed by avmain.py. -/
namespace Go.Avl.T7
open Go Go.RowKit Go.Proofs Go.Avl
set_option linter.unusedVariables false
set_option maxRecDepth 100000
set_option maxHeartbeats 4000000
attribute [local irreducible] AW AO AQ Spec SpecH Calm

def F62 (k : Nat) (p0 : ByteArray) : Option (S55 × Int) :=
  (F73 k p0).bind fun t3 =>
  if t3.2 ≠ (0 : Int) then some ((S55.mk (Vector.replicate 256 (0 : Int)) ([] : List (List Int)) ([] : List Int)), t3.2)
  else (F74 k t3.1).bind fun t5 =>
  if t5.2 ≠ (0 : Int) then some ((S55.mk (Vector.replicate 256 (0 : Int)) ([] : List (List Int)) ([] : List Int)), t5.2)
  else (F77 k t5.1).bind fun t8 =>
  some (t8.1, t8.2)
theorem F62_spec {k : Nat} {p0 : ByteArray} {r : (S55 × Int)} (h : F62 k p0 = some r) : Spec Try.prog 62 [(eStr p0)] (.tup [(e55 r.1), (eI64 r.2)]) := by
  rw [F62.eq_1] at h
  refine Spec.intro (res := [.cell 2 55, .tmp 3]) Try.func62 rfl rfl rfl (Nat.le_of_ble_eq_true rfl) ?_
  refine AW.sr ?_
  refine AO.alloc rfl 2 rfl (by decide) rfl zr55 lay55 fun n2 => ?_
  refine AO.ag rfl rfl ?_
  refine AO.nK [0, 2] ?_
  refine AW.sr ?_
  refine AO.mv rfl rfl ?_
  obtain ⟨t3, et3, h⟩ := of_bind h
  refine AO.callS [(eStr p0)] (.tup [(.fz 5 (t3.1.map e131)), (eI64 t3.2)]) 9 rfl (by decide) ok73 rfl rfl rfl ⟨rfl, rfl, trivial⟩ (F73_spec et3) ?_
  refine AO.mv rfl rfl ?_
  refine AO.c (Calm.extract rfl rfl rfl) ?_
  refine AO.c (Calm.extract rfl rfl rfl) ?_
  refine AO.ag rfl rfl ?_
  refine AO.ag rfl rfl ?_
  refine AO.nK [2, 4, 5] ?_
  refine AW.seq ?_
  refine AW.sr ?_
  refine AO.mv rfl rfl ?_
  refine AO.c (x := eBool (decide (t3.2 ≠ (0 : Int)))) (Calm.int rfl rfl rfl rfl) ?_
  refine AO.nK [2, 4, 5, 13] ?_
  rcases of_ite h with ⟨hc4, h⟩ | ⟨hc4, h⟩
  ·refine AW.condP _ rfl hc4 ?_
   refine AW.sr ?_
   refine AO.c (x := .st [(256, (.ar 1 ((Vector.replicate 256 (0 : Int)).toList.map eU8))), (1, (.fl (.slice none 0 0))), (1, (.fl (.slice none 0 0)))]) (Calm.build (qs := []) rfl trivial Try.underlying55 rfl zr55 lay55 .nil rfl) ?_
   refine AO.mv rfl rfl ?_
   refine AO.store (X' := (.st [(256, (.ar 1 ((Vector.replicate 256 (0 : Int)).toList.map eU8))), (1, (.fl (.slice none 0 0))), (1, (.fl (.slice none 0 0)))])) 0 rfl rfl rfl rfl rfl rfl (Put.cast Put.here rfl) rfl rfl sz55 rfl ?_
   refine AO.ag rfl rfl ?_
   refine AO.nK [2, 3] ?_
   refine AW.coeFld (X' := (.st [(256, (.ar 1 ((Vector.replicate 256 (0 : Int)).toList.map eU8))), (1, (.fz 1 (([] : List (List Int)).map e35))), (1, (.fl (.slice none 0 0)))])) 0 rfl (Put.cast (Put.fldS (Put.fld0 Put.here)) rfl) rfl (nil_fz 1) rfl rfl ?_
   refine AW.coeFld (X' := (.st [(256, (.ar 1 ((Vector.replicate 256 (0 : Int)).toList.map eU8))), (1, (.fz 1 (([] : List (List Int)).map e35))), (1, (.fz 1 (([] : List Int).map eI64)))])) 0 rfl (Put.cast (Put.fldS (Put.fldS (Put.fld0 Put.here))) rfl) rfl (nil_fz 1) rfl rfl ?_
   refine AW.rK [2, 3] ?_
   have hr := Option.some.inj h
   subst hr
   exact ⟨[(e55 (S55.mk (Vector.replicate 256 (0 : Int)) ([] : List (List Int)) ([] : List Int))), (eI64 t3.2)], ⟨⟨_, 0, rfl, rfl, ag55, sz55⟩, rfl, rfl, trivial⟩, rfl⟩
  ·refine AW.condN _ rfl hc4 ?_
   refine AW.sK [2, 4] ?_
   refine AW.sr ?_
   refine AO.mv rfl rfl ?_
   obtain ⟨t5, et5, h⟩ := of_bind h
   refine AO.callS [(.fz 5 (t3.1.map e131))] (.tup [(e121 t5.1), (eI64 t5.2)]) 18 rfl (by decide) ok74 rfl rfl rfl ⟨rfl, rfl, trivial⟩ (F74_spec et5) ?_
   refine AO.mv rfl rfl ?_
   refine AO.c (Calm.extract rfl rfl rfl) ?_
   refine AO.c (Calm.extract rfl rfl rfl) ?_
   refine AO.alloc rfl 6 rfl (by decide) rfl zr121 lay121 fun n6 => ?_
   refine AO.store (X' := (e121 t5.1)) 0 rfl rfl rfl rfl rfl rfl (Put.cast Put.here rfl) rfl rfl sz121 rfl ?_
   refine AO.ag rfl rfl ?_
   refine AO.nH [2, 5, 6] (H' := [(n2, (.mem (.st [(256, (.ar 1 ((Vector.replicate 256 (0 : Int)).toList.map eU8))), (1, (.fl (.slice none 0 0))), (1, (.fl (.slice none 0 0)))]))), (n6, (.mem (e121 t5.1)))]) (Sub.cons 1 rfl (Sub.cons 0 rfl (Sub.nil _))) ?_
   refine AW.seq ?_
   refine AW.sr ?_
   refine AO.mv rfl rfl ?_
   refine AO.c (x := eBool (decide (t5.2 ≠ (0 : Int)))) (Calm.int rfl rfl rfl rfl) ?_
   refine AO.nK [2, 5, 6, 22] ?_
   rcases of_ite h with ⟨hc7, h⟩ | ⟨hc7, h⟩
   ·refine AW.condP _ rfl hc7 ?_
    refine AW.sr ?_
    refine AO.c (x := .st [(256, (.ar 1 ((Vector.replicate 256 (0 : Int)).toList.map eU8))), (1, (.fl (.slice none 0 0))), (1, (.fl (.slice none 0 0)))]) (Calm.build (qs := []) rfl trivial Try.underlying55 rfl zr55 lay55 .nil rfl) ?_
    refine AO.mv rfl rfl ?_
    refine AO.store (X' := (.st [(256, (.ar 1 ((Vector.replicate 256 (0 : Int)).toList.map eU8))), (1, (.fl (.slice none 0 0))), (1, (.fl (.slice none 0 0)))])) 0 rfl rfl rfl rfl rfl rfl (Put.cast Put.here rfl) rfl rfl sz55 rfl ?_
    refine AO.ag rfl rfl ?_
    refine AO.nH [2, 3] (H' := [(n2, (.mem (.st [(256, (.ar 1 ((Vector.replicate 256 (0 : Int)).toList.map eU8))), (1, (.fl (.slice none 0 0))), (1, (.fl (.slice none 0 0)))])))]) (Sub.cons 0 rfl (Sub.nil _)) ?_
    refine AW.coeFld (X' := (.st [(256, (.ar 1 ((Vector.replicate 256 (0 : Int)).toList.map eU8))), (1, (.fz 1 (([] : List (List Int)).map e35))), (1, (.fl (.slice none 0 0)))])) 0 rfl (Put.cast (Put.fldS (Put.fld0 Put.here)) rfl) rfl (nil_fz 1) rfl rfl ?_
    refine AW.coeFld (X' := (.st [(256, (.ar 1 ((Vector.replicate 256 (0 : Int)).toList.map eU8))), (1, (.fz 1 (([] : List (List Int)).map e35))), (1, (.fz 1 (([] : List Int).map eI64)))])) 0 rfl (Put.cast (Put.fldS (Put.fldS (Put.fld0 Put.here))) rfl) rfl (nil_fz 1) rfl rfl ?_
    refine AW.rK [2, 3] ?_
    have hr := Option.some.inj h
    subst hr
    exact ⟨[(e55 (S55.mk (Vector.replicate 256 (0 : Int)) ([] : List (List Int)) ([] : List Int))), (eI64 t5.2)], ⟨⟨_, 0, rfl, rfl, ag55, sz55⟩, rfl, rfl, trivial⟩, rfl⟩
   ·refine AW.condN _ rfl hc7 ?_
    refine AW.sK [2, 6] ?_
    refine AW.sr ?_
    refine AO.c (Calm.load 1 rfl rfl rfl (At.cast At.here rfl) ag121 sz121) ?_
    obtain ⟨t8, et8, h⟩ := of_bind h
    refine AO.callS [(e121 t5.1)] (.tup [(e55 t8.1), (eI64 t8.2)]) 26 rfl (by decide) ok77 rfl rfl rfl ⟨rfl, rfl, trivial⟩ (F77_spec et8) ?_
    refine AO.c (Calm.extract rfl rfl rfl) ?_
    refine AO.c (Calm.extract rfl rfl rfl) ?_
    refine AO.store (X' := (e55 t8.1)) 0 rfl rfl rfl rfl rfl rfl (Put.cast Put.here rfl) rfl rfl sz55 rfl ?_
    refine AO.ag rfl rfl ?_
    refine AO.nH [2, 3] (H' := [(n2, (.mem (e55 t8.1)))]) (Sub.cons 0 rfl (Sub.nil _)) ?_
    refine AW.rK [2, 3] ?_
    have hr := Option.some.inj h
    subst hr
    exact ⟨[(e55 t8.1), (eI64 t8.2)], ⟨⟨_, 0, rfl, rfl, ag55, sz55⟩, rfl, rfl, trivial⟩, rfl⟩
end Go.Avl.T7
/- bosket/dfa.Step; printed by avmain.py. -/
namespace Go.Avl.T7
open Go Go.RowKit Go.Proofs Go.Avl
set_option linter.unusedVariables false
set_option maxRecDepth 100000
set_option maxHeartbeats 4000000
attribute [local irreducible] AW AO AQ Spec SpecH Calm

def F129 (k : Nat) (p0 : S55) (p1 : Int) (p2 : Int) : Option Int :=
  Option.bind (α := Bool) (if p1 < (0 : Int) then some (true)
  else if (p0.f1.length : Int) ≤ p1 then some (true)
  else if 0 ≤ p2 ∧ p2 < (256 : Int) then if 0 ≤ p1 ∧ p1 < (p0.f1.length : Int) then some (decide (((lget p0.f1 p1).length : Int) ≤ (w64 (vget p0.f0 p2))))
  else none
  else none) fun b5 =>
  if b5 = true then some ((-1 : Int))
  else if 0 ≤ p1 ∧ p1 < (p0.f1.length : Int) then if 0 ≤ p2 ∧ p2 < (256 : Int) then if 0 ≤ (vget p0.f0 p2) ∧ (vget p0.f0 p2) < ((lget p0.f1 p1).length : Int) then some ((lget (lget p0.f1 p1) (vget p0.f0 p2)))
  else none
  else none
  else none
theorem F129_spec {k : Nat} {p0 : S55} {p1 : Int} {p2 : Int} {r : Int} (h : F129 k p0 p1 p2 = some r) : Spec Try.prog 129 [(e55 p0), (eI64 p1), (eU8 p2)] (eI64 r) := by
  rw [F129.eq_1] at h
  refine Spec.intro (res := [.tmp 6]) Try.func129 rfl rfl rfl (Nat.le_of_ble_eq_true rfl) ?_
  refine AW.sr ?_
  refine AO.box rfl 3 rfl (by decide) rfl rfl rfl fun n4 => ?_
  refine AO.ag rfl rfl ?_
  refine AO.nK [1, 2, 3] ?_
  refine AW.seq ?_
  refine AW.seq ?_
  obtain ⟨b5, hq6, h⟩ := of_bind h
  refine AW.regQM (by rfl) (by decide +kernel) [(1, (eI64 p1)), (2, (eU8 p2)), (3, (.ptr n4 0)), (29, (eBool b5))] ?_ ?_
  ·refine AQ.c (Calm.move rfl rfl) ?_
   refine AQ.c (x := eBool (decide (p1 < (0 : Int)))) (Calm.int rfl rfl rfl rfl) ?_
   refine AQ.c (Calm.move rfl rfl) ?_
   rcases of_ite hq6 with ⟨hc7, hq6⟩ | ⟨hc7, hq6⟩
   ·refine AQ.sF rfl rfl (bD (decide_eq_true hc7)) ?_
    refine AQ.sF rfl rfl (bD (decide_eq_true hc7)) ?_
    refine AQ.sF rfl rfl (bD (decide_eq_true hc7)) ?_
    refine AQ.sF rfl rfl (bD (decide_eq_true hc7)) ?_
    refine AQ.sF rfl rfl (bD (decide_eq_true hc7)) ?_
    refine AQ.c (Calm.pickT rfl (bD (decide_eq_true hc7)) rfl) ?_
    refine AQ.c (Calm.move rfl rfl) ?_
    refine AQ.sF rfl rfl rfl ?_
    refine AQ.sF rfl rfl rfl ?_
    refine AQ.sF rfl rfl rfl ?_
    refine AQ.sF rfl rfl rfl ?_
    refine AQ.sF rfl rfl rfl ?_
    refine AQ.sF rfl rfl rfl ?_
    refine AQ.sF rfl rfl rfl ?_
    refine AQ.sF rfl rfl rfl ?_
    refine AQ.sF rfl rfl rfl ?_
    refine AQ.sF rfl rfl rfl ?_
    refine AQ.sF rfl rfl rfl ?_
    refine AQ.sF rfl rfl rfl ?_
    refine AQ.c (Calm.pickT rfl rfl rfl) ?_
    cases hq6
    refine AQ.nilE rfl ?_
    exact ⟨rfl, rfl, rfl, rfl, trivial⟩
   ·refine AQ.cG rfl rfl (bD (decide_eq_false hc7)) (Calm.move rfl rfl) ?_
    refine AQ.cG (x := .ptr n4 256) rfl rfl (bD (decide_eq_false hc7)) (Calm.fldPtr rfl rfl Try.underlying55 rfl sz53 _ rfl) ?_
    refine AQ.cG rfl rfl (bD (decide_eq_false hc7)) (Calm.load 0 rfl rfl rfl (At.cast (At.fldS (At.fld0 At.here)) rfl) ag53 sz53) ?_
    refine AQ.cG rfl rfl (bD (decide_eq_false hc7)) (Calm.lenL rfl rfl Try.underlying53) ?_
    refine AQ.cG (x := eBool (decide ((p0.f1.length : Int) ≤ p1))) rfl rfl (bD (decide_eq_false hc7)) (Calm.int rfl rfl rfl rfl) ?_
    refine AQ.c (Calm.pickF rfl (bD (decide_eq_false hc7)) rfl) ?_
    refine AQ.c (Calm.move rfl rfl) ?_
    rcases of_ite hq6 with ⟨hc8, hq6⟩ | ⟨hc8, hq6⟩
    ·refine AQ.sF rfl rfl (bD (decide_eq_true hc8)) ?_
     refine AQ.sF rfl rfl (bD (decide_eq_true hc8)) ?_
     refine AQ.sF rfl rfl (bD (decide_eq_true hc8)) ?_
     refine AQ.sF rfl rfl (bD (decide_eq_true hc8)) ?_
     refine AQ.sF rfl rfl (bD (decide_eq_true hc8)) ?_
     refine AQ.sF rfl rfl (bD (decide_eq_true hc8)) ?_
     refine AQ.sF rfl rfl (bD (decide_eq_true hc8)) ?_
     refine AQ.sF rfl rfl (bD (decide_eq_true hc8)) ?_
     refine AQ.sF rfl rfl (bD (decide_eq_true hc8)) ?_
     refine AQ.sF rfl rfl (bD (decide_eq_true hc8)) ?_
     refine AQ.sF rfl rfl (bD (decide_eq_true hc8)) ?_
     refine AQ.sF rfl rfl (bD (decide_eq_true hc8)) ?_
     refine AQ.c (Calm.pickT rfl (bD (decide_eq_true hc8)) rfl) ?_
     cases hq6
     refine AQ.nilE rfl ?_
     exact ⟨rfl, rfl, rfl, rfl, trivial⟩
    ·refine AQ.cG rfl rfl (bD (decide_eq_false hc8)) (Calm.move rfl rfl) ?_
     refine AQ.cG (x := .ptr n4 0) rfl rfl (bD (decide_eq_false hc8)) (Calm.fldPtr rfl rfl Try.underlying55 rfl sz52 _ rfl) ?_
     obtain ⟨hg9, hq6⟩ := of_guard hq6
     refine AQ.cG rfl rfl (bD (decide_eq_false hc8)) (Calm.idxP rfl rfl rfl hg9 Try.underlying52 sz5) ?_
     refine AQ.cG rfl rfl (bD (decide_eq_false hc8)) (Calm.load 0 rfl rfl rfl (At.cast (At.fld0 (At.vidx p2 hg9.1 hg9.2 At.here)) (by omega)) ag5 sz5) ?_
     refine AQ.cG (x := eI64 (w64 (vget p0.f0 p2))) rfl rfl (bD (decide_eq_false hc8)) (Calm.conv rfl rfl Try.underlying5 Try.underlying3) ?_
     refine AQ.cG (x := .ptr n4 256) rfl rfl (bD (decide_eq_false hc8)) (Calm.fldPtr rfl rfl Try.underlying55 rfl sz53 _ rfl) ?_
     refine AQ.cG rfl rfl (bD (decide_eq_false hc8)) (Calm.load 0 rfl rfl rfl (At.cast (At.fldS (At.fld0 At.here)) rfl) ag53 sz53) ?_
     refine AQ.cG rfl rfl (bD (decide_eq_false hc8)) (Calm.move rfl rfl) ?_
     obtain ⟨hg10, hq6⟩ := of_guard hq6
     refine AQ.cG rfl rfl (bD (decide_eq_false hc8)) (Calm.idxL (f := e35) rfl rfl rfl hg10 Try.underlying53 sz35) ?_
     refine AQ.cG rfl rfl (bD (decide_eq_false hc8)) (Calm.loadRp rfl rfl ag35 sz35) ?_
     refine AQ.cG rfl rfl (bD (decide_eq_false hc8)) (Calm.lenL rfl rfl Try.underlying35) ?_
     refine AQ.cG (x := eBool (decide (((lget p0.f1 p1).length : Int) ≤ (w64 (vget p0.f0 p2))))) rfl rfl (bD (decide_eq_false hc8)) (Calm.int rfl rfl rfl rfl) ?_
     refine AQ.c (Calm.pickF rfl (bD (decide_eq_false hc8)) rfl) ?_
     cases hq6
     refine AQ.nilE rfl ?_
     exact ⟨rfl, rfl, rfl, rfl, trivial⟩
  ·rcases of_ite h with ⟨hc11, h⟩ | ⟨hc11, h⟩
   ·refine AW.condT' _ rfl hc11 ?_
    refine AW.sr ?_
    refine AO.ag rfl rfl ?_
    refine AO.nH [6] (H' := []) (Sub.nil _) ?_
    refine AW.rK [6] ?_
    have hr := Option.some.inj h
    subst hr
    exact ⟨[(eI64 (-1 : Int))], ⟨rfl, rfl, trivial⟩, rfl⟩
   ·refine AW.condF' _ rfl hc11 ?_
    refine AW.sK [1, 2, 3] ?_
    refine AW.seq ?_
    refine AW.regQ (by rfl) (by decide +kernel) ?_
    refine AQ.c (x := .ptr n4 256) (Calm.fldPtr rfl rfl Try.underlying55 rfl sz53 _ rfl) ?_
    refine AQ.c (Calm.load 0 rfl rfl rfl (At.cast (At.fldS (At.fld0 At.here)) rfl) ag53 sz53) ?_
    refine AQ.c (Calm.move rfl rfl) ?_
    obtain ⟨hg12, h⟩ := of_guard h
    refine AQ.c (Calm.idxL (f := e35) rfl rfl rfl hg12 Try.underlying53 sz35) ?_
    refine AQ.c (Calm.loadRp rfl rfl ag35 sz35) ?_
    refine AQ.c (Calm.move rfl rfl) ?_
    refine AQ.c (x := .ptr n4 0) (Calm.fldPtr rfl rfl Try.underlying55 rfl sz52 _ rfl) ?_
    obtain ⟨hg13, h⟩ := of_guard h
    refine AQ.c (Calm.idxP rfl rfl rfl hg13 Try.underlying52 sz5) ?_
    refine AQ.c (Calm.load 0 rfl rfl rfl (At.cast (At.fld0 (At.vidx p2 hg13.1 hg13.2 At.here)) (by omega)) ag5 sz5) ?_
    obtain ⟨hg14, h⟩ := of_guard h
    refine AQ.c (Calm.idxL (f := eI64) rfl rfl rfl hg14 Try.underlying35 sz3) ?_
    refine AQ.c (Calm.loadRp rfl rfl ag3 sz3) ?_
    refine AQ.c (Calm.assign rfl rfl) ?_
    refine AQ.nK [6] ?_
    refine AW.rH [6] (H' := []) (Sub.nil _) ?_
    have hr := Option.some.inj h
    subst hr
    exact ⟨[(eI64 (lget (lget p0.f1 p1) (vget p0.f0 p2)))], ⟨rfl, rfl, trivial⟩, rfl⟩
end Go.Avl.T7
/- bosket/dfa.Run; printed by avmain.py. -/
namespace Go.Avl.T7
open Go Go.RowKit Go.Proofs Go.Avl
set_option linter.unusedVariables false
set_option maxRecDepth 100000
set_option maxHeartbeats 4000000
attribute [local irreducible] AW AO AQ Spec SpecH Calm

def F113_c0 (k : Nat) (x5 : Int) : Option Int :=
  some (x5)
def F113_l1 (k : Nat) (p0 : S55) (p2 : ByteArray) : Nat → Int → Int → Option Int
  | 0, _, _ => none
  | j + 1, x6, x7 =>
    Option.bind (α := Bool) (if x7 < (p2.size : Int) then some (decide (x6 ≠ (-1 : Int)))
    else some (false)) fun b10 =>
    if b10 = true then if 0 ≤ x7 ∧ x7 < (p2.size : Int) then (F129 k p0 x6 (byteAt p2 x7)).bind fun t15 =>
    (F113_l1 k p0 p2 j) t15 (w64 (x7 + (1 : Int)))
    else none
    else F113_c0 k x6
def F113 (k : Nat) (p0 : S55) (p1 : Int) (p2 : ByteArray) : Option Int :=
  F113_l1 k p0 p2 k p1 (0 : Int)
theorem F113_spec {k : Nat} {p0 : S55} {p1 : Int} {p2 : ByteArray} {r : Int} (h : F113 k p0 p1 p2 = some r) : Spec Try.prog 113 [(e55 p0), (eI64 p1), (eStr p2)] (eI64 r) := by
  rw [F113.eq_1] at h
  refine Spec.intro (res := [.tmp 6]) Try.func113 rfl rfl rfl (Nat.le_of_ble_eq_true rfl) ?_
  refine AW.sr ?_
  refine AO.box rfl 3 rfl (by decide) rfl rfl rfl fun n4 => ?_
  refine AO.ag rfl rfl ?_
  refine AO.nK [1, 2, 3] ?_
  refine AW.seq_mid (fun ρ H => ∃ (x5 : Int), ρ = [(1, (eI64 x5))] ∧ H = [] ∧ F113_c0 k x5 = some r) ?_ ?_
  ·refine AW.sr ?_
   refine AO.ag rfl rfl ?_
   refine AO.nK [1, 2, 3, 7] ?_
   refine AW.block ?_
   refine AW.wK [1, 2, 3, 7] ?_
   refine AW.loop (fun kq ρ H => ∃ (x6 : Int) (x7 : Int), ρ = [(1, (eI64 x6)), (2, (eStr p2)), (3, (.ptr n4 0)), (7, (eI64 x7))] ∧ H = [(n4, (.mem (e55 p0)))] ∧ F113_l1 k p0 p2 kq x6 x7 = some r) k ⟨p1, (0 : Int), rfl, rfl, h⟩ ?_
   rintro kq9 _ _ ⟨x6, x7, rfl, rfl, h⟩
   cases kq9 with
   | zero => rw [F113_l1.eq_1] at h; cases h
   | succ kq9 =>
   rw [F113_l1.eq_2] at h
   generalize hrec8 : F113_l1 k p0 p2 kq9 = rec8 at h
   refine AW.seq ?_
   refine AW.seq ?_
   obtain ⟨b10, hq11, h⟩ := of_bind h
   refine AW.regM [(1, (eI64 x6)), (2, (eStr p2)), (3, (.ptr n4 0)), (7, (eI64 x7)), (15, (eBool b10))] [(n4, (.mem (e55 p0)))] ?_ ?_
   ·refine AO.mv rfl rfl ?_
    refine AO.mv rfl rfl ?_
    refine AO.c (Calm.lenStr rfl rfl Try.underlying9) ?_
    refine AO.c (x := eBool (decide (x7 < (p2.size : Int)))) (Calm.int rfl rfl rfl rfl) ?_
    refine AO.mv rfl rfl ?_
    rcases of_ite hq11 with ⟨hc12, hq11⟩ | ⟨hc12, hq11⟩
    ·refine AO.cG rfl rfl (bD (decide_eq_true hc12)) (Calm.move rfl rfl) ?_
     refine AO.cG (x := eBool (decide (x6 ≠ (-1 : Int)))) rfl rfl (bD (decide_eq_true hc12)) (Calm.int rfl rfl rfl rfl) ?_
     refine AO.c (Calm.pickT rfl (bD (decide_eq_true hc12)) rfl) ?_
     cases hq11
     refine AO.nilE ⟨rfl, rfl⟩ ?_ ?_
     · exact ⟨rfl, rfl, rfl, rfl, rfl, trivial⟩
     · exact (Sub.refl _)
    ·refine AO.sT rfl rfl (bD (decide_eq_false hc12)) ?_
     refine AO.sT rfl rfl (bD (decide_eq_false hc12)) ?_
     refine AO.c (Calm.pickF rfl (bD (decide_eq_false hc12)) rfl) ?_
     cases hq11
     refine AO.nilE ⟨rfl, rfl⟩ ?_ ?_
     · exact ⟨rfl, rfl, rfl, rfl, rfl, trivial⟩
     · exact (Sub.refl _)
   ·rcases of_ite h with ⟨hc13, h⟩ | ⟨hc13, h⟩
    ·refine AW.condT' _ rfl hc13 ?_
     refine AW.sK [1, 2, 3, 7] ?_
     refine AW.seq ?_
     refine AW.block ?_
     refine AW.regQ (by rfl) (by decide +kernel) ?_
     refine AQ.c (Calm.load 0 rfl rfl rfl (At.cast At.here rfl) ag55 sz55) ?_
     refine AQ.c (Calm.move rfl rfl) ?_
     refine AQ.c (Calm.move rfl rfl) ?_
     refine AQ.c (Calm.move rfl rfl) ?_
     obtain ⟨hg14, h⟩ := of_guard h
     refine AQ.c (x := eU8 (byteAt p2 x7)) (Calm.idxS rfl rfl rfl hg14 Try.underlying9) ?_
     obtain ⟨t15, et15, h⟩ := of_bind h
     refine AQ.c (Calm.call (args := [(e55 p0), (eI64 x6), (eU8 (byteAt p2 x7))]) rfl rfl ok129 ⟨rfl, rfl, rfl, rfl, rfl, rfl, trivial⟩ rfl (F129_spec et15)) ?_
     refine AQ.c (Calm.assign rfl rfl) ?_
     refine AQ.nK [1, 2, 3, 7] ?_
     refine AW.reg ?_
     refine AO.mv rfl rfl ?_
     refine AO.c (x := eI64 (w64 (x7 + (1 : Int)))) (Calm.int rfl rfl rfl rfl) ?_
     refine AO.ag rfl rfl ?_
     refine AO.nK [1, 2, 3, 7] ?_
     exact ⟨kq9, Nat.lt_succ_self _, t15, (w64 (x7 + (1 : Int))), rfl, rfl, by rw [hrec8]; exact h⟩
    ·refine AW.condF' _ rfl hc13 ?_
     refine AW.eH [1] (H' := []) (Sub.nil _) ?_
     exact ⟨x6, rfl, rfl, h⟩
  ·rintro _ _ ⟨x5, rfl, rfl, h⟩
   rw [F113_c0.eq_1] at h
   refine AW.sr ?_
   refine AO.mv rfl rfl ?_
   refine AO.ag rfl rfl ?_
   refine AO.nK [6] ?_
   refine AW.rK [6] ?_
   have hr := Option.some.inj h
   subst hr
   exact ⟨[(eI64 x5)], ⟨rfl, rfl, trivial⟩, rfl⟩
end Go.Avl.T7
/- bosket/dfa.Mark; printed by avmain.py. -/
namespace Go.Avl.T7
open Go Go.RowKit Go.Proofs Go.Avl
set_option linter.unusedVariables false
set_option maxRecDepth 100000
set_option maxHeartbeats 4000000
attribute [local irreducible] AW AO AQ Spec SpecH Calm

def F112 (k : Nat) (p0 : S55) (p1 : Int) : Option Int :=
  Option.bind (α := Bool) (if p1 < (0 : Int) then some (true)
  else some (decide ((p0.f2.length : Int) ≤ p1))) fun b4 =>
  if b4 = true then some ((-1 : Int))
  else if 0 ≤ p1 ∧ p1 < (p0.f2.length : Int) then some ((lget p0.f2 p1))
  else none
theorem F112_spec {k : Nat} {p0 : S55} {p1 : Int} {r : Int} (h : F112 k p0 p1 = some r) : Spec Try.prog 112 [(e55 p0), (eI64 p1)] (eI64 r) := by
  rw [F112.eq_1] at h
  refine Spec.intro (res := [.tmp 4]) Try.func112 rfl rfl rfl (Nat.le_of_ble_eq_true rfl) ?_
  refine AW.sr ?_
  refine AO.box rfl 2 rfl (by decide) rfl rfl rfl fun n3 => ?_
  refine AO.ag rfl rfl ?_
  refine AO.nK [1, 2] ?_
  refine AW.seq ?_
  refine AW.seq ?_
  obtain ⟨b4, hq5, h⟩ := of_bind h
  refine AW.regM [(1, (eI64 p1)), (2, (.ptr n3 0)), (13, (eBool b4))] [(n3, (.mem (e55 p0)))] ?_ ?_
  ·refine AO.mv rfl rfl ?_
   refine AO.c (x := eBool (decide (p1 < (0 : Int)))) (Calm.int rfl rfl rfl rfl) ?_
   refine AO.mv rfl rfl ?_
   rcases of_ite hq5 with ⟨hc6, hq5⟩ | ⟨hc6, hq5⟩
   ·refine AO.sF rfl rfl (bD (decide_eq_true hc6)) ?_
    refine AO.sF rfl rfl (bD (decide_eq_true hc6)) ?_
    refine AO.sF rfl rfl (bD (decide_eq_true hc6)) ?_
    refine AO.sF rfl rfl (bD (decide_eq_true hc6)) ?_
    refine AO.sF rfl rfl (bD (decide_eq_true hc6)) ?_
    refine AO.c (Calm.pickT rfl (bD (decide_eq_true hc6)) rfl) ?_
    cases hq5
    refine AO.nilE ⟨rfl, rfl⟩ ?_ ?_
    · exact ⟨rfl, rfl, rfl, trivial⟩
    · exact (Sub.refl _)
   ·refine AO.cG rfl rfl (bD (decide_eq_false hc6)) (Calm.move rfl rfl) ?_
    refine AO.cG (x := .ptr n3 257) rfl rfl (bD (decide_eq_false hc6)) (Calm.fldPtr rfl rfl Try.underlying55 rfl sz35 _ rfl) ?_
    refine AO.cG rfl rfl (bD (decide_eq_false hc6)) (Calm.load 0 rfl rfl rfl (At.cast (At.fldS (At.fldS (At.fld0 At.here))) rfl) ag35 sz35) ?_
    refine AO.cG rfl rfl (bD (decide_eq_false hc6)) (Calm.lenL rfl rfl Try.underlying35) ?_
    refine AO.cG (x := eBool (decide ((p0.f2.length : Int) ≤ p1))) rfl rfl (bD (decide_eq_false hc6)) (Calm.int rfl rfl rfl rfl) ?_
    refine AO.c (Calm.pickF rfl (bD (decide_eq_false hc6)) rfl) ?_
    cases hq5
    refine AO.nilE ⟨rfl, rfl⟩ ?_ ?_
    · exact ⟨rfl, rfl, rfl, trivial⟩
    · exact (Sub.refl _)
  ·rcases of_ite h with ⟨hc7, h⟩ | ⟨hc7, h⟩
   ·refine AW.condT' _ rfl hc7 ?_
    refine AW.sr ?_
    refine AO.ag rfl rfl ?_
    refine AO.nH [4] (H' := []) (Sub.nil _) ?_
    refine AW.rK [4] ?_
    have hr := Option.some.inj h
    subst hr
    exact ⟨[(eI64 (-1 : Int))], ⟨rfl, rfl, trivial⟩, rfl⟩
   ·refine AW.condF' _ rfl hc7 ?_
    refine AW.sK [1, 2] ?_
    refine AW.sr ?_
    refine AO.c (x := .ptr n3 257) (Calm.fldPtr rfl rfl Try.underlying55 rfl sz35 _ rfl) ?_
    refine AO.c (Calm.load 0 rfl rfl rfl (At.cast (At.fldS (At.fldS (At.fld0 At.here))) rfl) ag35 sz35) ?_
    refine AO.mv rfl rfl ?_
    obtain ⟨hg8, h⟩ := of_guard h
    refine AO.c (Calm.idxL (f := eI64) rfl rfl rfl hg8 Try.underlying35 sz3) ?_
    refine AO.c (Calm.loadRp rfl rfl ag3 sz3) ?_
    refine AO.ag rfl rfl ?_
    refine AO.nH [4] (H' := []) (Sub.nil _) ?_
    refine AW.rK [4] ?_
    have hr := Option.some.inj h
    subst hr
    exact ⟨[(eI64 (lget p0.f2 p1))], ⟨rfl, rfl, trivial⟩, rfl⟩
end Go.Avl.T7
/- bosket/dfa.Has; printed by avmain.py. -/
namespace Go.Avl.T7
open Go Go.RowKit Go.Proofs Go.Avl
set_option linter.unusedVariables false
set_option maxRecDepth 100000
set_option maxHeartbeats 4000000
attribute [local irreducible] AW AO AQ Spec SpecH Calm

def F89 (k : Nat) (p0 : S55) (p1 : ByteArray) : Option Int :=
  (F113 k p0 (0 : Int) p1).bind fun t4 =>
  (F112 k p0 t4).bind fun t5 =>
  some (t5)
theorem F89_spec {k : Nat} {p0 : S55} {p1 : ByteArray} {r : Int} (h : F89 k p0 p1 = some r) : Spec Try.prog 89 [(e55 p0), (eStr p1)] (eI64 r) := by
  rw [F89.eq_1] at h
  refine Spec.intro (res := [.tmp 4]) Try.func89 rfl rfl rfl (Nat.le_of_ble_eq_true rfl) ?_
  refine AW.sr ?_
  refine AO.box rfl 2 rfl (by decide) rfl rfl rfl fun n3 => ?_
  refine AO.ag rfl rfl ?_
  refine AO.nK [1, 2] ?_
  refine AW.seq ?_
  refine AW.regQ (by rfl) (by decide +kernel) ?_
  refine AQ.c (Calm.load 0 rfl rfl rfl (At.cast At.here rfl) ag55 sz55) ?_
  refine AQ.c (Calm.load 0 rfl rfl rfl (At.cast At.here rfl) ag55 sz55) ?_
  refine AQ.c (Calm.move rfl rfl) ?_
  obtain ⟨t4, et4, h⟩ := of_bind h
  refine AQ.c (Calm.call (args := [(e55 p0), (eI64 (0 : Int)), (eStr p1)]) rfl rfl ok113 ⟨rfl, rfl, rfl, rfl, rfl, rfl, trivial⟩ rfl (F113_spec et4)) ?_
  obtain ⟨t5, et5, h⟩ := of_bind h
  refine AQ.c (Calm.call (args := [(e55 p0), (eI64 t4)]) rfl rfl ok112 ⟨rfl, rfl, rfl, rfl, trivial⟩ rfl (F112_spec et5)) ?_
  refine AQ.c (Calm.assign rfl rfl) ?_
  refine AQ.nK [4] ?_
  refine AW.rH [4] (H' := []) (Sub.nil _) ?_
  have hr := Option.some.inj h
  subst hr
  exact ⟨[(eI64 t5)], ⟨rfl, rfl, trivial⟩, rfl⟩
end Go.Avl.T7
