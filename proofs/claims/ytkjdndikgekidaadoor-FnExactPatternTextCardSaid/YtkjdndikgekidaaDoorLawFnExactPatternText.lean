/- The row of FnExactPatternText, out of the plain statement and the walk: for every input the law answers true, and each argument reads as before. -/
import Derived.Test.YtkjdndikgekidaaDoorRows
import Derived.Test.YtkjdndikgekidaaDoorTie
import Derived.Test.YtkjdndikgekidaaDoorCards
import Derived.Test.YtkjdndikgekidaaDoorOpn
import Derived.Test.YtkjdndikgekidaaDoorPAx3
import Derived.Test.YtkjdndikgekidaaDoorPureFnExactPatternText
import Derived.WalkKit
import Derived.Handed
import Derived.Lib.LaidTab
import Derived.LaidLaws
import Derived.LaidMore
import Derived.LaidHandle
import Derived.SevenTiedAt
import Derived.ProofKit
import Derived.OpenShut
import Derived.ShutString
import Derived.ChangeOld
import Derived.Below
import Derived.SizedLaws
import Derived.Test.YtkjdndikgekidaaDoorWSized
namespace Go.Proofs.YtkjdndikgekidaaDoor.fnExactPatternText
open Go.ChangeShapes Go.WideShapes Go.ChangeAt Go.RowKit
open Go.ChangeMaps (open_string shut_string)
open Go.Proofs.YtkjdndikgekidaaDoor.PA Go.Proofs.YtkjdndikgekidaaDoorW.PrintWords
set_option linter.unusedVariables false
set_option linter.unusedSimpArgs false
theorem own : ownKnob Tryd.prog.godebug = none := by kernel_rfl
theorem laidOut : laidOutB Tryd.prog = true := by kernel_rfl
theorem leafs54 : Opn.leafTypes Tryd.prog 5 54 = some [2, 2, 2, 2, 29] := by kernel_rfl
theorem cells54 : Tryd.prog.cellsOf 54 = 5 := by kernel_rfl
theorem leafs2 : Opn.leafTypes Tryd.prog 5 2 = some [2] := by kernel_rfl
theorem cells2 : Tryd.prog.cellsOf 2 = 1 := by kernel_rfl
theorem laid_met (os : Os) (args : Array Value) : laidMetH Tryd.prog Rows.fnExactPatternTextRow.laid ((World.doorLaid Tryd.prog 400 os).forCall (fun _ _ => 0) ⟨#[], args, []⟩).memory :=
  laidMetH_of_parts3 (fuel := 8) (laidMet_of_run' 8 (by kernel_rfl) (by kernel_rfl)) (by kernel_rfl) (by kernel_rfl)
set_option maxRecDepth 100000 in
theorem lifted (os : Os) (started : os.Started) (H : Type) (enc : TypeId × Value → H) :
    ReturnsInHanded {} Tryd.checked os 6 .any (fun w args => (Rows.fnExactPatternTextSpec.pre enc Tryd.prog Tryd.f6 Rows.fnExactPatternTextRow.domain false w args ∧ laidMetH Tryd.prog Rows.fnExactPatternTextRow.laid w) ∧ sizedMet enc Tryd.prog Tryd.f6 (OpenSpec.ofChange Rows.fnExactPatternTextSpec) false w args) (Rows.fnExactPatternTextSpec.post enc Tryd.prog Tryd.f6 false true false false) := by
  refine returnsInHanded_of_change_and (C := Tryd.checked) (X := fun w _ => laidMetH Tryd.prog Rows.fnExactPatternTextRow.laid w) (fun _ _ _ hh h => h.of_heap hh) own started (by kernel_rfl) Tryd.func6
    (ChangeSpec.witness_at (enc := enc) (C := Tryd.checked) (os := os) (X := fun w _ => laidMetH Tryd.prog Rows.fnExactPatternTextRow.laid w) false (World.doorLaid Tryd.prog 400 os) #[.agg #[.int .i64 0, .int .i64 0, .int .i64 0, .int .i64 0, .slice none 0 0]] 8 rfl (by kernel_rfl) (by kernel_rfl) (by kernel_rfl) (by kernel_rfl) (by kernel_rfl) (laid_met os _)) ?_
  intro W base args ds gs before hval0 hW hcnd hsz0 hLaid _
  have hsz : (DataW.weightsEach Tryd.prog (Tryd.f6.params.toList ++ Rows.fnExactPatternTextSpec.plain.varTypes Tryd.prog) (ds ++ gs)).all (· ≤ reachBytes) = true := hsz0
  have hval : ∀ (j : Nat) t v, Tryd.f6.params[j]? = some t → args[j]? = some v → Value.okWide Tryd.prog W .any base t v := hval0
  have hW' := hW
  obtain ⟨p, q, hA0, hV, rfl, hfz, hnd⟩ := hW
  have hA : DataW.TrodAll enc Tryd.prog W 0 (fun _ => true) true Tryd.f6.params.toList args.toList ds p := hA0
  rw [Tryd.params6] at hA hval hsz
  obtain ⟨v0, vs0, d0, ds0, p0, q0, hargs, rfl, rfl, h0, r0⟩ := trodAll_cons hA
  obtain ⟨rfl, rfl, rfl⟩ := trodAll_nil r0
  obtain rfl : args = #[v0] := by cases args; simp_all
  obtain ⟨rfl, rfl⟩ := trodVars_none hV
  have k0 := h0
  have lt0 : ∀ x ∈ p0, x.block < W.heap.size := by obtain ⟨m, hm⟩ := k0; exact DataW.trod_lt m _ _ _ hm
  obtain ⟨cs0, rfl, hs0, he0⟩ := Opn.open_struct (n := 5) (ls := [2, 2, 2, 2, 29]) Tryd.underlying54 leafs54 cells54 (hval 0 54 v0 rfl rfl) h0
  obtain ⟨e0_0, e0_1, e0_2, e0_3, e0_4, rfl⟩ := Opn.array5 hs0
  obtain ⟨e0_0', m0_0, y0_0, z0_0, g0_0⟩ := he0 0 2 rfl
  obtain rfl : e0_0 = e0_0' := Option.some.inj z0_0
  obtain ⟨a0_0, rfl, w0_0⟩ := Opn.leaf_int Tryd.underlying2 g0_0
  obtain ⟨e0_1', m0_1, y0_1, z0_1, g0_1⟩ := he0 1 2 rfl
  obtain rfl : e0_1 = e0_1' := Option.some.inj z0_1
  obtain ⟨a0_1, rfl, w0_1⟩ := Opn.leaf_int Tryd.underlying2 g0_1
  obtain ⟨e0_2', m0_2, y0_2, z0_2, g0_2⟩ := he0 2 2 rfl
  obtain rfl : e0_2 = e0_2' := Option.some.inj z0_2
  obtain ⟨a0_2, rfl, w0_2⟩ := Opn.leaf_int Tryd.underlying2 g0_2
  obtain ⟨e0_3', m0_3, y0_3, z0_3, g0_3⟩ := he0 3 2 rfl
  obtain rfl : e0_3 = e0_3' := Option.some.inj z0_3
  obtain ⟨a0_3, rfl, w0_3⟩ := Opn.leaf_int Tryd.underlying2 g0_3
  obtain ⟨e0_4', m0_4, y0_4, z0_4, g0_4⟩ := he0 4 29 rfl
  obtain rfl : e0_4 = e0_4' := Option.some.inj z0_4
  obtain ⟨A0_4, c0_4, l0_4, rfl, hc0_4, hm0_4, hr0_4, hw0_4⟩ := Opn.open_rows (ik := .i64) (n := 5) (ls := [2]) Tryd.underlying29 leafs2 cells2 (by intro lt hlt; simp only [List.mem_cons, List.not_mem_nil, or_false, or_self] at hlt; subst hlt; exact Tryd.underlying2) (Kd.int .i64) rfl (fun ns => ns.getD 0 0) (fun ns h => by match ns, h with | [z0], _ => exact rfl) g0_4
  have hw0_4' : ∀ x ∈ l0_4, (Lit.int .i64 x).wf = true := by
    intro x hx
    obtain ⟨ns, rfl, hn, hz⟩ := hw0_4 x hx
    match ns, hn with
    | [z0], _ => exact hz z0 (by simp)
  clear hA0 hval0 hsz0 hsz
  have hm_0_4 : l0_4.length ≤ maxLen := Nat.le_trans hc0_4 hm0_4
  obtain ⟨k, h⟩ := Pure.FnExactPatternText a0_0 a0_1 a0_2 a0_3 l0_4 w0_0 w0_1 w0_2 w0_3 hm_0_4 hw0_4'
  refine (laws_FnExactPatternText.calls k a0_0 a0_1 a0_2 a0_3 _ _ l0_4 W hr0_4 hc0_4 h).mono fun e W' he => ?_
  obtain ⟨he, bel0⟩ := he
  have bel : Below W.heap.size W W' := bel0
  subst he
  exact ⟨_, rfl, _, _, _, [], _, [], hW', trodAll_mk1 (shut_bool Tryd.underlying4 _), (trodAll_cons_mk (Below.trod laidOut (by kernel_rfl) (of_decide_eq_true (by kernel_rfl)) k0 bel lt0) trodAll_mk0), rfl, bel.frame _, fun h => by cases h⟩
theorem over : Rows.fnExactPatternTextRow.holds Tryd.pinned (OpenSpec.ofChange Rows.fnExactPatternTextSpec) :=
  OpenClaim.holds_of_wide 6 Tryd.f6 rfl rfl rfl rfl rfl rfl rfl ⟨rfl, rfl, rfl, rfl, rfl⟩ rfl rfl rfl rfl rfl (by kernel_rfl) Tryd.func6 (by kernel_rfl)
    (of_decide_eq_true (by kernel_rfl)) (by unfold Func.isWrapper; first | (rw [if_pos (by decide +kernel)]; kernel_rfl) | (rw [if_neg (by decide +kernel)]; exact ⟨rfl, rfl⟩))
    (fun os started H enc _ => lifted os started H enc)
theorem proved : Rows.FnExactPatternTextSaid := over
end Go.Proofs.YtkjdndikgekidaaDoor.fnExactPatternText
namespace Go.Proofs.YtkjdndikgekidaaDoor
/-- The row, under a short name, for the claim. -/
theorem fnExactPatternText_holds : Rows.FnExactPatternTextSaid := fnExactPatternText.proved
/-- The card: the row, its listed variables tied to the program's text. -/
theorem fnExactPatternTextCard_holds : Rows.FnExactPatternTextCardSaid :=
  Claim7.holds_tied_plain_at .later [] [.data, .data, .data] true (true, "c6e082494af46e99a3e675ec9c53d229b5d909c24214d9abd893f80fabd30d50") false
    fnExactPatternText.over (fun _ h => by cases h) (by kernel_rfl) (fun _ h => by cases h) fnExactPatternText_row_tie rfl ⟨rfl, rfl⟩ (by kernel_rfl) rfl
    (fun f fn hf hfn => by
      obtain rfl : f = 6 := Option.some.inj ((show Tryd.prog.funcNamed "loop.example/g00943/laws.FnExactPatternText" = some 6 by kernel_rfl).symm.trans hf) |>.symm
      obtain rfl : fn = Tryd.f6 := (Option.some.inj (Tryd.func6.symm.trans hfn)).symm
      exact ⟨by kernel_rfl, fun j t ht => by
        rw [Tryd.params6] at ht
        rcases j with _ | j
        · obtain rfl := Option.some.inj ht
          kernel_rfl
        · simp at ht⟩)
    (by kernel_rfl)
end Go.Proofs.YtkjdndikgekidaaDoor
