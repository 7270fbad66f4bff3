/- The row of FnExactMayReflect, out of the plain statement and the walk: for every input the law answers true, and each argument reads as before. -/
import Derived.Test.YtndfnaehpdkaiaaRows
import Derived.Test.YtndfnaehpdkaiaaOpn
import Derived.Test.YtndfnaehpdkaiaaPAx24
import Derived.Test.YtndfnaehpdkaiaaPureFnExactMayReflect
import Derived.WalkKit
import Derived.ProofKit
import Derived.OpenShut
import Derived.ShutString
import Derived.ChangeOld
import Derived.Below
import Derived.SizedLaws
import Derived.Test.YtndfnaehpdkaiaaWSized
namespace Go.Proofs.Ytndfnaehpdkaiaa.fnExactMayReflect
open Go.ChangeShapes Go.WideShapes Go.ChangeAt Go.RowKit
open Go.ChangeMaps (open_string shut_string)
open Go.Proofs.Ytndfnaehpdkaiaa.PA Go.Proofs.YtndfnaehpdkaiaaW.PrintWords
set_option linter.unusedVariables false
set_option linter.unusedSimpArgs false
theorem own : ownKnob Try.prog.godebug = none := by kernel_rfl
theorem laidOut : laidOutB Try.prog = true := by kernel_rfl
theorem leafs23 : Opn.leafTypes Try.prog 5 23 = some [2, 2, 2] := by kernel_rfl
theorem cells23 : Try.prog.cellsOf 23 = 3 := by kernel_rfl
theorem leafs29 : Opn.leafTypes Try.prog 5 29 = some [2, 2, 2, 2, 2, 2] := by kernel_rfl
theorem cells29 : Try.prog.cellsOf 29 = 6 := by kernel_rfl
set_option maxRecDepth 100000 in
theorem lifted (os : Os) (started : os.Started) (H : Type) (enc : TypeId × Value → H) :
    ReturnsInHanded {} Try.checked os 8 .any (Rows.fnExactMayReflectSpec.pre6 enc Try.prog Try.f8 Rows.fnExactMayReflectRow.domain false) (Rows.fnExactMayReflectSpec.post enc Try.prog Try.f8 false true false false) := by
  refine returnsInHanded_of_change_sized (C := Try.checked) own started (by kernel_rfl) Try.func8
    (ChangeSpec.witness6 (enc := enc) (C := Try.checked) false ⟨#[], #[.int .i64 0, .agg #[.int .i64 0, .int .i64 0, .int .i64 0], .agg #[.int .i64 0, .int .i64 0, .int .i64 0, .int .i64 0, .int .i64 0, .int .i64 0]], []⟩ 8 (by kernel_rfl) (by kernel_rfl) (by kernel_rfl) (by kernel_rfl)) ?_
  intro W base args ds gs before hval0 hW hcnd hsz0 _
  have hsz : (DataW.weightsEach Try.prog (Try.f8.params.toList ++ Rows.fnExactMayReflectSpec.plain.varTypes Try.prog) (ds ++ gs)).all (· ≤ reachBytes) = true := hsz0
  have hval : ∀ (j : Nat) t v, Try.f8.params[j]? = some t → args[j]? = some v → Value.okWide Try.prog W .any base t v := hval0
  have hW' := hW
  obtain ⟨p, q, hA0, hV, rfl, hfz, hnd⟩ := hW
  have hA : DataW.TrodAll enc Try.prog W 0 (fun _ => true) true Try.f8.params.toList args.toList ds p := hA0
  rw [Try.params8] at hA hval hsz
  obtain ⟨v0, vs0, d0, ds0, p0, q0, hargs, rfl, rfl, h0, r0⟩ := trodAll_cons hA
  obtain ⟨v1, vs1, d1, ds1, p1, q1, rfl, rfl, rfl, h1, r1⟩ := trodAll_cons r0
  obtain ⟨v2, vs2, d2, ds2, p2, q2, rfl, rfl, rfl, h2, r2⟩ := trodAll_cons r1
  obtain ⟨rfl, rfl, rfl⟩ := trodAll_nil r2
  obtain rfl : args = #[v0, v1, v2] := by cases args; simp_all
  obtain ⟨rfl, rfl⟩ := trodVars_none hV
  obtain ⟨a0, rfl, rfl, rfl, w0⟩ := open_int Try.underlying2 (hval 0 2 v0 rfl rfl) h0
  have k1 := h1
  have lt1 : ∀ x ∈ p1, x.block < W.heap.size := by obtain ⟨m, hm⟩ := k1; exact DataW.trod_lt m _ _ _ hm
  obtain ⟨cs1, rfl, hs1, he1⟩ := Opn.open_struct (n := 5) (ls := [2, 2, 2]) Try.underlying23 leafs23 cells23 (hval 1 23 v1 rfl rfl) h1
  obtain ⟨e1_0, e1_1, e1_2, rfl⟩ := Opn.array3 hs1
  obtain ⟨e1_0', m1_0, y1_0, z1_0, g1_0⟩ := he1 0 2 rfl
  obtain rfl : e1_0 = e1_0' := Option.some.inj z1_0
  obtain ⟨a1_0, rfl, w1_0⟩ := Opn.leaf_int Try.underlying2 g1_0
  obtain ⟨e1_1', m1_1, y1_1, z1_1, g1_1⟩ := he1 1 2 rfl
  obtain rfl : e1_1 = e1_1' := Option.some.inj z1_1
  obtain ⟨a1_1, rfl, w1_1⟩ := Opn.leaf_int Try.underlying2 g1_1
  obtain ⟨e1_2', m1_2, y1_2, z1_2, g1_2⟩ := he1 2 2 rfl
  obtain rfl : e1_2 = e1_2' := Option.some.inj z1_2
  obtain ⟨a1_2, rfl, w1_2⟩ := Opn.leaf_int Try.underlying2 g1_2
  have k2 := h2
  have lt2 : ∀ x ∈ p2, x.block < W.heap.size := by obtain ⟨m, hm⟩ := k2; exact DataW.trod_lt m _ _ _ hm
  obtain ⟨cs2, rfl, hs2, he2⟩ := Opn.open_struct (n := 5) (ls := [2, 2, 2, 2, 2, 2]) Try.underlying29 leafs29 cells29 (hval 2 29 v2 rfl rfl) h2
  obtain ⟨e2_0, e2_1, e2_2, e2_3, e2_4, e2_5, rfl⟩ := Opn.array6 hs2
  obtain ⟨e2_0', m2_0, y2_0, z2_0, g2_0⟩ := he2 0 2 rfl
  obtain rfl : e2_0 = e2_0' := Option.some.inj z2_0
  obtain ⟨a2_0, rfl, w2_0⟩ := Opn.leaf_int Try.underlying2 g2_0
  obtain ⟨e2_1', m2_1, y2_1, z2_1, g2_1⟩ := he2 1 2 rfl
  obtain rfl : e2_1 = e2_1' := Option.some.inj z2_1
  obtain ⟨a2_1, rfl, w2_1⟩ := Opn.leaf_int Try.underlying2 g2_1
  obtain ⟨e2_2', m2_2, y2_2, z2_2, g2_2⟩ := he2 2 2 rfl
  obtain rfl : e2_2 = e2_2' := Option.some.inj z2_2
  obtain ⟨a2_2, rfl, w2_2⟩ := Opn.leaf_int Try.underlying2 g2_2
  obtain ⟨e2_3', m2_3, y2_3, z2_3, g2_3⟩ := he2 3 2 rfl
  obtain rfl : e2_3 = e2_3' := Option.some.inj z2_3
  obtain ⟨a2_3, rfl, w2_3⟩ := Opn.leaf_int Try.underlying2 g2_3
  obtain ⟨e2_4', m2_4, y2_4, z2_4, g2_4⟩ := he2 4 2 rfl
  obtain rfl : e2_4 = e2_4' := Option.some.inj z2_4
  obtain ⟨a2_4, rfl, w2_4⟩ := Opn.leaf_int Try.underlying2 g2_4
  obtain ⟨e2_5', m2_5, y2_5, z2_5, g2_5⟩ := he2 5 2 rfl
  obtain rfl : e2_5 = e2_5' := Option.some.inj z2_5
  obtain ⟨a2_5, rfl, w2_5⟩ := Opn.leaf_int Try.underlying2 g2_5
  clear hA0 hval0 hsz0 hsz
  obtain ⟨k, h⟩ := Pure.FnExactMayReflect a0 a1_0 a1_1 a1_2 a2_0 a2_1 a2_2 a2_3 a2_4 a2_5 w0 w1_0 w1_1 w1_2 w2_0 w2_1 w2_2 w2_3 w2_4 w2_5
  refine (laws_FnExactMayReflect.calls k a0 a1_0 a1_1 a1_2 a2_0 a2_1 a2_2 a2_3 a2_4 a2_5 W  h).mono fun e W' he => ?_
  obtain ⟨he, bel0⟩ := he
  have bel : Below W.heap.size W W' := bel0
  subst he
  exact ⟨_, rfl, _, _, _, [], _, [], hW', trodAll_mk1 (shut_bool Try.underlying4 _), (trodAll_cons_mk (shut_int Try.underlying2 w0) (trodAll_cons_mk (Below.trod laidOut (by kernel_rfl) (of_decide_eq_true (by kernel_rfl)) k1 bel lt1) (trodAll_cons_mk (Below.trod laidOut (by kernel_rfl) (of_decide_eq_true (by kernel_rfl)) k2 bel lt2) trodAll_mk0))), rfl, bel.frame _, fun h => by cases h⟩
theorem over : Rows.fnExactMayReflectRow.holds Try.pinned (OpenSpec.ofChange Rows.fnExactMayReflectSpec) :=
  OpenClaim.holds_of_wide 8 Try.f8 rfl rfl rfl rfl rfl rfl rfl ⟨rfl, rfl, rfl, rfl, rfl⟩ rfl rfl rfl rfl rfl (by kernel_rfl) Try.func8 (by kernel_rfl)
    (of_decide_eq_true (by kernel_rfl)) (by unfold Func.isWrapper; first | (rw [if_pos (by decide +kernel)]; kernel_rfl) | (rw [if_neg (by decide +kernel)]; exact ⟨rfl, rfl⟩))
    (fun os started H enc _ => lifted os started H enc)
theorem proved : Rows.FnExactMayReflectSaid := over
end Go.Proofs.Ytndfnaehpdkaiaa.fnExactMayReflect
namespace Go.Proofs.Ytndfnaehpdkaiaa
/-- The row, under a short name, for the claim. -/
theorem fnExactMayReflect_holds : Rows.FnExactMayReflectSaid := fnExactMayReflect.proved
end Go.Proofs.Ytndfnaehpdkaiaa
