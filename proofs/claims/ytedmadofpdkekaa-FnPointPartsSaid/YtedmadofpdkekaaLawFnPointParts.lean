/- The row of FnPointParts, out of the plain statement and the walk: for every input the law answers true, and each argument reads as before. -/
import Derived.Test.YtedmadofpdkekaaRows
import Derived.Test.YtedmadofpdkekaaOpn
import Derived.Test.YtedmadofpdkekaaPAx19
import Derived.Test.YtedmadofpdkekaaPureFnPointParts
import Derived.WalkKit
import Derived.ProofKit
import Derived.OpenShut
import Derived.ShutString
import Derived.ChangeOld
import Derived.Below
import Derived.SizedLaws
import Derived.Test.YtedmadofpdkekaaWSized
namespace Go.Proofs.Ytedmadofpdkekaa.fnPointParts
open Go.ChangeShapes Go.WideShapes Go.ChangeAt Go.RowKit
open Go.ChangeMaps (open_string shut_string)
open Go.Proofs.Ytedmadofpdkekaa.PA Go.Proofs.YtedmadofpdkekaaW.PrintWords
set_option linter.unusedVariables false
set_option linter.unusedSimpArgs false
theorem own : ownKnob Try.prog.godebug = none := by kernel_rfl
theorem laidOut : laidOutB Try.prog = true := by kernel_rfl
theorem leafs5 : Opn.leafTypes Try.prog 5 5 = some [5] := by kernel_rfl
theorem cells5 : Try.prog.cellsOf 5 = 1 := by kernel_rfl
set_option maxRecDepth 100000 in
theorem lifted (os : Os) (started : os.Started) (H : Type) (enc : TypeId × Value → H) :
    ReturnsInHanded {} Try.checked os 3 .any (Rows.fnPointPartsSpec.pre6 enc Try.prog Try.f3 Rows.fnPointPartsRow.domain false) (Rows.fnPointPartsSpec.post enc Try.prog Try.f3 false true false false) := by
  refine returnsInHanded_of_change_sized (C := Try.checked) own started (by kernel_rfl) Try.func3
    (ChangeSpec.witness6 (enc := enc) (C := Try.checked) false ⟨#[], #[.slice none 0 0], []⟩ 8 (by kernel_rfl) (by kernel_rfl) (by kernel_rfl) (by kernel_rfl)) ?_
  intro W base args ds gs before hval0 hW hcnd hsz0 _
  have hsz : (DataW.weightsEach Try.prog (Try.f3.params.toList ++ Rows.fnPointPartsSpec.plain.varTypes Try.prog) (ds ++ gs)).all (· ≤ reachBytes) = true := hsz0
  have hval : ∀ (j : Nat) t v, Try.f3.params[j]? = some t → args[j]? = some v → Value.okWide Try.prog W .any base t v := hval0
  have hW' := hW
  obtain ⟨p, q, hA0, hV, rfl, hfz, hnd⟩ := hW
  have hA : DataW.TrodAll enc Try.prog W 0 (fun _ => true) true Try.f3.params.toList args.toList ds p := hA0
  rw [Try.params3] at hA hval hsz
  obtain ⟨v0, vs0, d0, ds0, p0, q0, hargs, rfl, rfl, h0, r0⟩ := trodAll_cons hA
  obtain ⟨rfl, rfl, rfl⟩ := trodAll_nil r0
  obtain rfl : args = #[v0] := by cases args; simp_all
  obtain ⟨rfl, rfl⟩ := trodVars_none hV
  obtain ⟨b0, len0, cap0, rfl⟩ := okWide_slice Try.underlying22 (hval 0 22 v0 rfl rfl)
  have k0 := h0
  have lt0 : ∀ x ∈ p0, x.block < W.heap.size := by obtain ⟨m, hm⟩ := k0; exact DataW.trod_lt m _ _ _ hm
  obtain ⟨fuel0, hf0⟩ := h0
  have hg0 : DataW.trod enc Try.prog W 0 (fun _ => true) true fuel0 22 [.slice b0 len0 cap0] = some (d0, p0) := by simpa [Value.cells] using hf0
  clear hf0
  generalize hx0 : (Value.slice b0 len0 cap0) = x0 at *
  obtain ⟨A0, c0, l0, rfl, hc0, hm0, hr0, hw0⟩ := Opn.open_rows (ik := .u8) (n := 5) (ls := [5]) Try.underlying22 leafs5 cells5 (by intro lt hlt; simp only [List.mem_cons, List.not_mem_nil, or_false, or_self] at hlt; subst hlt; exact Try.underlying5) (Kd.int .u8) rfl (fun ns => ns.getD 0 0) (fun ns h => by match ns, h with | [z0], _ => exact rfl) hg0
  have hw0' : ∀ x ∈ l0, (Lit.int .u8 x).wf = true := by
    intro x hx
    obtain ⟨ns, rfl, hn, hz⟩ := hw0 x hx
    match ns, hn with
    | [z0], _ => exact hz z0 (by simp)
  clear hA0 hval0 hsz0 hsz
  have hm_0 : l0.length ≤ maxLen := Nat.le_trans hc0 hm0
  obtain ⟨k, h⟩ := Pure.FnPointParts l0 hm_0 hw0'
  refine (laws_FnPointParts.calls k _ _ l0 W hr0 hc0 h).mono fun e W' he => ?_
  obtain ⟨he, bel0⟩ := he
  have bel : Below W.heap.size W W' := bel0
  subst he
  exact ⟨_, rfl, _, _, _, [], _, [], hW', trodAll_mk1 (shut_bool Try.underlying4 _), (trodAll_cons_mk (Below.trod laidOut (by kernel_rfl) (of_decide_eq_true (by kernel_rfl)) k0 bel lt0) trodAll_mk0), rfl, bel.frame _, fun h => by cases h⟩
theorem over : Rows.fnPointPartsRow.holds Try.pinned (OpenSpec.ofChange Rows.fnPointPartsSpec) :=
  OpenClaim.holds_of_wide 3 Try.f3 rfl rfl rfl rfl rfl rfl rfl ⟨rfl, rfl, rfl, rfl, rfl⟩ rfl rfl rfl rfl rfl (by kernel_rfl) Try.func3 (by kernel_rfl)
    (of_decide_eq_true (by kernel_rfl)) (by unfold Func.isWrapper; first | (rw [if_pos (by decide +kernel)]; kernel_rfl) | (rw [if_neg (by decide +kernel)]; exact ⟨rfl, rfl⟩))
    (fun os started H enc _ => lifted os started H enc)
theorem proved : Rows.FnPointPartsSaid := over
end Go.Proofs.Ytedmadofpdkekaa.fnPointParts
namespace Go.Proofs.Ytedmadofpdkekaa
/-- The row, under a short name, for the claim. -/
theorem fnPointParts_holds : Rows.FnPointPartsSaid := fnPointParts.proved
end Go.Proofs.Ytedmadofpdkekaa
