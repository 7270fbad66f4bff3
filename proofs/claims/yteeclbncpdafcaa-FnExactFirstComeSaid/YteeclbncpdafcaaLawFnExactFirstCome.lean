/- The row of FnExactFirstCome, out of the plain statement and the walk: for every input the law answers true, and each argument reads as before. -/
import Derived.Test.YteeclbncpdafcaaRows
import Derived.Test.YteeclbncpdafcaaOpn
import Derived.Test.YteeclbncpdafcaaPAx28
import Derived.Test.YteeclbncpdafcaaPureFnExactFirstCome
import Derived.WalkKit
import Derived.ProofKit
import Derived.OpenShut
import Derived.ShutString
import Derived.ChangeOld
import Derived.Below
import Derived.SizedLaws
import Derived.Test.YteeclbncpdafcaaWSized
namespace Go.Proofs.Yteeclbncpdafcaa.fnExactFirstCome
open Go.ChangeShapes Go.WideShapes Go.ChangeAt Go.RowKit
open Go.ChangeMaps (open_string shut_string)
open Go.Proofs.Yteeclbncpdafcaa.PA Go.Proofs.YteeclbncpdafcaaW.PrintWords
set_option linter.unusedVariables false
set_option linter.unusedSimpArgs false
theorem own : ownKnob Try.prog.godebug = none := by kernel_rfl
theorem laidOut : laidOutB Try.prog = true := by kernel_rfl
theorem leafs26 : Opn.leafTypes Try.prog 5 26 = some [2, 2, 2, 2, 24] := by kernel_rfl
theorem cells26 : Try.prog.cellsOf 26 = 5 := by kernel_rfl
theorem leafs2 : Opn.leafTypes Try.prog 5 2 = some [2] := by kernel_rfl
theorem cells2 : Try.prog.cellsOf 2 = 1 := by kernel_rfl
set_option maxRecDepth 100000 in
theorem lifted (os : Os) (started : os.Started) (H : Type) (enc : TypeId × Value → H) :
    ReturnsInHanded {} Try.checked os 8 .any (Rows.fnExactFirstComeSpec.pre6 enc Try.prog Try.f8 Rows.fnExactFirstComeRow.domain false) (Rows.fnExactFirstComeSpec.post enc Try.prog Try.f8 false true false false) := by
  refine returnsInHanded_of_change_sized (C := Try.checked) own started (by kernel_rfl) Try.func8
    (ChangeSpec.witness6 (enc := enc) (C := Try.checked) false ⟨#[], #[.agg #[.int .i64 0, .int .i64 0, .int .i64 0, .int .i64 0, .slice none 0 0]], []⟩ 8 (by kernel_rfl) (by kernel_rfl) (by kernel_rfl) (by kernel_rfl)) ?_
  intro W base args ds gs before hval0 hW hcnd hsz0 _
  have hsz : (DataW.weightsEach Try.prog (Try.f8.params.toList ++ Rows.fnExactFirstComeSpec.plain.varTypes Try.prog) (ds ++ gs)).all (· ≤ reachBytes) = true := hsz0
  have hval : ∀ (j : Nat) t v, Try.f8.params[j]? = some t → args[j]? = some v → Value.okWide Try.prog W .any base t v := hval0
  have hW' := hW
  obtain ⟨p, q, hA0, hV, rfl, hfz, hnd⟩ := hW
  have hA : DataW.TrodAll enc Try.prog W 0 (fun _ => true) true Try.f8.params.toList args.toList ds p := hA0
  rw [Try.params8] at hA hval hsz
  obtain ⟨v0, vs0, d0, ds0, p0, q0, hargs, rfl, rfl, h0, r0⟩ := trodAll_cons hA
  obtain ⟨rfl, rfl, rfl⟩ := trodAll_nil r0
  obtain rfl : args = #[v0] := by cases args; simp_all
  obtain ⟨rfl, rfl⟩ := trodVars_none hV
  have k0 := h0
  have lt0 : ∀ x ∈ p0, x.block < W.heap.size := by obtain ⟨m, hm⟩ := k0; exact DataW.trod_lt m _ _ _ hm
  obtain ⟨cs0, rfl, hs0, he0⟩ := Opn.open_struct (n := 5) (ls := [2, 2, 2, 2, 24]) Try.underlying26 leafs26 cells26 (hval 0 26 v0 rfl rfl) h0
  obtain ⟨e0_0, e0_1, e0_2, e0_3, e0_4, rfl⟩ := Opn.array5 hs0
  obtain ⟨e0_0', m0_0, y0_0, z0_0, g0_0⟩ := he0 0 2 rfl
  obtain rfl : e0_0 = e0_0' := Option.some.inj z0_0
  obtain ⟨a0_0, rfl, w0_0⟩ := Opn.leaf_int Try.underlying2 g0_0
  obtain ⟨e0_1', m0_1, y0_1, z0_1, g0_1⟩ := he0 1 2 rfl
  obtain rfl : e0_1 = e0_1' := Option.some.inj z0_1
  obtain ⟨a0_1, rfl, w0_1⟩ := Opn.leaf_int Try.underlying2 g0_1
  obtain ⟨e0_2', m0_2, y0_2, z0_2, g0_2⟩ := he0 2 2 rfl
  obtain rfl : e0_2 = e0_2' := Option.some.inj z0_2
  obtain ⟨a0_2, rfl, w0_2⟩ := Opn.leaf_int Try.underlying2 g0_2
  obtain ⟨e0_3', m0_3, y0_3, z0_3, g0_3⟩ := he0 3 2 rfl
  obtain rfl : e0_3 = e0_3' := Option.some.inj z0_3
  obtain ⟨a0_3, rfl, w0_3⟩ := Opn.leaf_int Try.underlying2 g0_3
  obtain ⟨e0_4', m0_4, y0_4, z0_4, g0_4⟩ := he0 4 24 rfl
  obtain rfl : e0_4 = e0_4' := Option.some.inj z0_4
  obtain ⟨A0_4, c0_4, l0_4, rfl, hc0_4, hm0_4, hr0_4, hw0_4⟩ := Opn.open_rows (ik := .i64) (n := 5) (ls := [2]) Try.underlying24 leafs2 cells2 (by intro lt hlt; simp only [List.mem_cons, List.not_mem_nil, or_false, or_self] at hlt; subst hlt; exact Try.underlying2) (Kd.int .i64) rfl (fun ns => ns.getD 0 0) (fun ns h => by match ns, h with | [z0], _ => exact rfl) g0_4
  have hw0_4' : ∀ x ∈ l0_4, (Lit.int .i64 x).wf = true := by
    intro x hx
    obtain ⟨ns, rfl, hn, hz⟩ := hw0_4 x hx
    match ns, hn with
    | [z0], _ => exact hz z0 (by simp)
  clear hA0 hval0 hsz0 hsz
  have hm_0_4 : l0_4.length ≤ maxLen := Nat.le_trans hc0_4 hm0_4
  obtain ⟨k, h⟩ := Pure.FnExactFirstCome a0_0 a0_1 a0_2 a0_3 l0_4 w0_0 w0_1 w0_2 w0_3 hm_0_4 hw0_4'
  refine (laws_FnExactFirstCome.calls k a0_0 a0_1 a0_2 a0_3 _ _ l0_4 W hr0_4 hc0_4 h).mono fun e W' he => ?_
  obtain ⟨he, bel0⟩ := he
  have bel : Below W.heap.size W W' := bel0
  subst he
  exact ⟨_, rfl, _, _, _, [], _, [], hW', trodAll_mk1 (shut_bool Try.underlying4 _), (trodAll_cons_mk (Below.trod laidOut (by kernel_rfl) (of_decide_eq_true (by kernel_rfl)) k0 bel lt0) trodAll_mk0), rfl, bel.frame _, fun h => by cases h⟩
theorem over : Rows.fnExactFirstComeRow.holds Try.pinned (OpenSpec.ofChange Rows.fnExactFirstComeSpec) :=
  OpenClaim.holds_of_wide 8 Try.f8 rfl rfl rfl rfl rfl rfl rfl ⟨rfl, rfl, rfl, rfl, rfl⟩ rfl rfl rfl rfl rfl (by kernel_rfl) Try.func8 (by kernel_rfl)
    (of_decide_eq_true (by kernel_rfl)) (by unfold Func.isWrapper; first | (rw [if_pos (by decide +kernel)]; kernel_rfl) | (rw [if_neg (by decide +kernel)]; exact ⟨rfl, rfl⟩))
    (fun os started H enc _ => lifted os started H enc)
theorem proved : Rows.FnExactFirstComeSaid := over
end Go.Proofs.Yteeclbncpdafcaa.fnExactFirstCome
namespace Go.Proofs.Yteeclbncpdafcaa
/-- The row, under a short name, for the claim. -/
theorem fnExactFirstCome_holds : Rows.FnExactFirstComeSaid := fnExactFirstCome.proved
end Go.Proofs.Yteeclbncpdafcaa
