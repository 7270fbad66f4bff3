/- The row of FnExactCountCentres, out of the plain statement and the walk: for every input the law answers true, and each argument reads as before. -/
import Derived.Test.YtfmjboloeabjmaaRows
import Derived.Test.YtfmjboloeabjmaaOpn
import Derived.Test.YtfmjboloeabjmaaPAx18
import Derived.Test.YtfmjboloeabjmaaPureFnExactCountCentres
import Derived.WalkKit
import Derived.ProofKit
import Derived.OpenShut
import Derived.ShutString
import Derived.ChangeOld
import Derived.Below
import Derived.SizedLaws
import Derived.Test.YtfmjboloeabjmaaWSized
namespace Go.Proofs.Ytfmjboloeabjmaa.fnExactCountCentres
open Go.ChangeShapes Go.WideShapes Go.ChangeAt Go.RowKit
open Go.ChangeMaps (open_string shut_string)
open Go.Proofs.Ytfmjboloeabjmaa.PA Go.Proofs.YtfmjboloeabjmaaW.PrintWords
set_option linter.unusedVariables false
set_option linter.unusedSimpArgs false
theorem own : ownKnob Try.prog.godebug = none := by kernel_rfl
theorem laidOut : laidOutB Try.prog = true := by kernel_rfl
theorem leafs23 : Opn.leafTypes Try.prog 5 23 = some [2, 2, 2] := by kernel_rfl
theorem cells23 : Try.prog.cellsOf 23 = 3 := by kernel_rfl
theorem leafs49 : Opn.leafTypes Try.prog 5 49 = some [2, 2, 2, 2, 2, 2] := by kernel_rfl
theorem cells49 : Try.prog.cellsOf 49 = 6 := by kernel_rfl
set_option maxRecDepth 100000 in
theorem lifted (os : Os) (started : os.Started) (H : Type) (enc : TypeId × Value → H) :
    ReturnsInHanded {} Try.checked os 3 .any (Rows.fnExactCountCentresSpec.pre6 enc Try.prog Try.f3 Rows.fnExactCountCentresRow.domain false) (Rows.fnExactCountCentresSpec.post enc Try.prog Try.f3 false true false false) := by
  refine returnsInHanded_of_change_sized (C := Try.checked) own started (by kernel_rfl) Try.func3
    (ChangeSpec.witness6 (enc := enc) (C := Try.checked) false ⟨#[], #[.int .i64 0, .agg #[.int .i64 0, .int .i64 0, .int .i64 0], .slice none 0 0, .int .i64 0], []⟩ 8 (by kernel_rfl) (by kernel_rfl) (by kernel_rfl) (by kernel_rfl)) ?_
  intro W base args ds gs before hval0 hW hcnd hsz0 _
  have hsz : (DataW.weightsEach Try.prog (Try.f3.params.toList ++ Rows.fnExactCountCentresSpec.plain.varTypes Try.prog) (ds ++ gs)).all (· ≤ reachBytes) = true := hsz0
  have hval : ∀ (j : Nat) t v, Try.f3.params[j]? = some t → args[j]? = some v → Value.okWide Try.prog W .any base t v := hval0
  have hW' := hW
  obtain ⟨p, q, hA0, hV, rfl, hfz, hnd⟩ := hW
  have hA : DataW.TrodAll enc Try.prog W 0 (fun _ => true) true Try.f3.params.toList args.toList ds p := hA0
  rw [Try.params3] at hA hval hsz
  obtain ⟨v0, vs0, d0, ds0, p0, q0, hargs, rfl, rfl, h0, r0⟩ := trodAll_cons hA
  obtain ⟨v1, vs1, d1, ds1, p1, q1, rfl, rfl, rfl, h1, r1⟩ := trodAll_cons r0
  obtain ⟨v2, vs2, d2, ds2, p2, q2, rfl, rfl, rfl, h2, r2⟩ := trodAll_cons r1
  obtain ⟨v3, vs3, d3, ds3, p3, q3, rfl, rfl, rfl, h3, r3⟩ := trodAll_cons r2
  obtain ⟨rfl, rfl, rfl⟩ := trodAll_nil r3
  obtain rfl : args = #[v0, v1, v2, v3] := by cases args; simp_all
  obtain ⟨rfl, rfl⟩ := trodVars_none hV
  obtain ⟨a0, rfl, rfl, rfl, w0⟩ := open_int Try.underlying2 (hval 0 2 v0 rfl rfl) h0
  have k1 := h1
  have lt1 : ∀ x ∈ p1, x.block < W.heap.size := by obtain ⟨m, hm⟩ := k1; exact DataW.trod_lt m _ _ _ hm
  obtain ⟨cs1, rfl, hs1, he1⟩ := Opn.open_struct (n := 5) (ls := [2, 2, 2]) Try.underlying23 leafs23 cells23 (hval 1 23 v1 rfl rfl) h1
  obtain ⟨e1_0, e1_1, e1_2, rfl⟩ := Opn.array3 hs1
  obtain ⟨e1_0', m1_0, y1_0, z1_0, g1_0⟩ := he1 0 2 rfl
  obtain rfl : e1_0 = e1_0' := Option.some.inj z1_0
  obtain ⟨a1_0, rfl, w1_0⟩ := Opn.leaf_int Try.underlying2 g1_0
  obtain ⟨e1_1', m1_1, y1_1, z1_1, g1_1⟩ := he1 1 2 rfl
  obtain rfl : e1_1 = e1_1' := Option.some.inj z1_1
  obtain ⟨a1_1, rfl, w1_1⟩ := Opn.leaf_int Try.underlying2 g1_1
  obtain ⟨e1_2', m1_2, y1_2, z1_2, g1_2⟩ := he1 2 2 rfl
  obtain rfl : e1_2 = e1_2' := Option.some.inj z1_2
  obtain ⟨a1_2, rfl, w1_2⟩ := Opn.leaf_int Try.underlying2 g1_2
  obtain ⟨b2, len2, cap2, rfl⟩ := okWide_slice Try.underlying24 (hval 2 24 v2 rfl rfl)
  have k2 := h2
  have lt2 : ∀ x ∈ p2, x.block < W.heap.size := by obtain ⟨m, hm⟩ := k2; exact DataW.trod_lt m _ _ _ hm
  obtain ⟨fuel2, hf2⟩ := h2
  have hg2 : DataW.trod enc Try.prog W 0 (fun _ => true) true fuel2 24 [.slice b2 len2 cap2] = some (d2, p2) := by simpa [Value.cells] using hf2
  clear hf2
  generalize hx2 : (Value.slice b2 len2 cap2) = x2 at *
  obtain ⟨A2, c2, l2, rfl, hc2, hm2, hr2, hw2⟩ := Opn.open_rows (ik := .i64) (n := 5) (ls := [2, 2, 2, 2, 2, 2]) Try.underlying24 leafs49 cells49 (by intro lt hlt; simp only [List.mem_cons, List.not_mem_nil, or_false, or_self] at hlt; subst hlt; exact Try.underlying2) k49 rfl (fun ns => ⟨⟨(ns.getD 0 0), (ns.getD 1 0), (ns.getD 2 0), (ns.getD 3 0)⟩, ⟨(ns.getD 4 0), (ns.getD 5 0)⟩⟩) (fun ns h => by match ns, h with | [z0, z1, z2, z3, z4, z5], _ => exact k49_mk W _) hg2
  have hw2' : ∀ x ∈ l2, (Lit.int .i64 x.f0.f0).wf = true ∧ (Lit.int .i64 x.f0.f1).wf = true ∧ (Lit.int .i64 x.f0.f2).wf = true ∧ (Lit.int .i64 x.f0.f3).wf = true ∧ (Lit.int .i64 x.f1.f0).wf = true ∧ (Lit.int .i64 x.f1.f1).wf = true := by
    intro x hx
    obtain ⟨ns, rfl, hn, hz⟩ := hw2 x hx
    match ns, hn with
    | [z0, z1, z2, z3, z4, z5], _ => exact ⟨hz z0 (by simp), hz z1 (by simp), hz z2 (by simp), hz z3 (by simp), hz z4 (by simp), hz z5 (by simp)⟩
  obtain ⟨a3, rfl, rfl, rfl, w3⟩ := open_int Try.underlying2 (hval 3 2 v3 rfl rfl) h3
  clear hA0 hval0 hsz0 hsz
  have hm_2 : l2.length ≤ maxLen := Nat.le_trans hc2 hm2
  obtain ⟨k, h⟩ := Pure.FnExactCountCentres a0 a1_0 a1_1 a1_2 l2 a3 w0 w1_0 w1_1 w1_2 hm_2 hw2' w3
  refine (laws_FnExactCountCentres.calls k a0 a1_0 a1_1 a1_2 _ _ l2 a3 W hr2 hc2 h).mono fun e W' he => ?_
  obtain ⟨he, bel0⟩ := he
  have bel : Below W.heap.size W W' := bel0
  subst he
  exact ⟨_, rfl, _, _, _, [], _, [], hW', trodAll_mk1 (shut_bool Try.underlying4 _), (trodAll_cons_mk (shut_int Try.underlying2 w0) (trodAll_cons_mk (Below.trod laidOut (by kernel_rfl) (of_decide_eq_true (by kernel_rfl)) k1 bel lt1) (trodAll_cons_mk (Below.trod laidOut (by kernel_rfl) (of_decide_eq_true (by kernel_rfl)) k2 bel lt2) (trodAll_cons_mk (shut_int Try.underlying2 w3) trodAll_mk0)))), rfl, bel.frame _, fun h => by cases h⟩
theorem over : Rows.fnExactCountCentresRow.holds Try.pinned (OpenSpec.ofChange Rows.fnExactCountCentresSpec) :=
  OpenClaim.holds_of_wide 3 Try.f3 rfl rfl rfl rfl rfl rfl rfl ⟨rfl, rfl, rfl, rfl, rfl⟩ rfl rfl rfl rfl rfl (by kernel_rfl) Try.func3 (by kernel_rfl)
    (of_decide_eq_true (by kernel_rfl)) (by unfold Func.isWrapper; first | (rw [if_pos (by decide +kernel)]; kernel_rfl) | (rw [if_neg (by decide +kernel)]; exact ⟨rfl, rfl⟩))
    (fun os started H enc _ => lifted os started H enc)
theorem proved : Rows.FnExactCountCentresSaid := over
end Go.Proofs.Ytfmjboloeabjmaa.fnExactCountCentres
namespace Go.Proofs.Ytfmjboloeabjmaa
/-- The row, under a short name, for the claim. -/
theorem fnExactCountCentres_holds : Rows.FnExactCountCentresSaid := fnExactCountCentres.proved
end Go.Proofs.Ytfmjboloeabjmaa
