/- The row of FnExactNameOfFacts, out of the plain statement and the walk: for every input the law answers true, and each argument reads as before. -/
import Derived.Test.YtkjdndikgekidaaDoorRows
import Derived.Test.YtkjdndikgekidaaDoorTie
import Derived.Test.YtkjdndikgekidaaDoorCards
import Derived.Test.YtkjdndikgekidaaDoorOpn
import Derived.Test.YtkjdndikgekidaaDoorPBx6
import Derived.Test.YtkjdndikgekidaaDoorPureFnExactNameOfFacts
import Derived.WalkKit
import Derived.LaidSub
import Derived.MakeChecks
import Derived.Handed
import Derived.Lib.LaidTab
import Derived.LaidLaws
import Derived.LaidMore
import Derived.LaidHandle
import Derived.SevenTiedAt
import Derived.ProofKit
import Derived.OpenShut
import Derived.ShutString
import Derived.ChangeOld
import Derived.Below
import Derived.SizedLaws
import Derived.Test.YtkjdndikgekidaaDoorWSized
namespace Go.Proofs.YtkjdndikgekidaaDoor.fnExactNameOfFacts
open Go.ChangeShapes Go.WideShapes Go.ChangeAt Go.RowKit
open Go.ChangeMaps (open_string shut_string)
open Go.Proofs.YtkjdndikgekidaaDoor.PB Go.Proofs.YtkjdndikgekidaaDoorW.PrintWords
set_option linter.unusedVariables false
set_option linter.unusedSimpArgs false
theorem own : ownKnob Tryd.prog.godebug = none := by kernel_rfl
theorem laidOut : laidOutB Tryd.prog = true := by kernel_rfl
theorem leafs23 : Opn.leafTypes Tryd.prog 5 23 = some [2, 2, 2, 2, 4] := by kernel_rfl
theorem cells23 : Tryd.prog.cellsOf 23 = 5 := by kernel_rfl
theorem laid_met (os : Os) (args : Array Value) : laidMetH Tryd.prog Rows.fnExactNameOfFactsRow.laid ((World.doorLaid Tryd.prog 400 os).forCall (fun _ _ => 0) ⟨#[], args, []⟩).memory :=
  laidMetH_of_parts3 (fuel := 8) (laidMet_of_run' 8 (by kernel_rfl) (by kernel_rfl)) (by kernel_rfl) (by kernel_rfl)
set_option maxRecDepth 100000 in
theorem lifted (os : Os) (started : os.Started) (H : Type) (enc : TypeId × Value → H) :
    ReturnsInHanded {} Tryd.checked os 3 .any (fun w args => (Rows.fnExactNameOfFactsSpec.pre enc Tryd.prog Tryd.f3 Rows.fnExactNameOfFactsRow.domain false w args ∧ laidMetH Tryd.prog Rows.fnExactNameOfFactsRow.laid w) ∧ sizedMet enc Tryd.prog Tryd.f3 (OpenSpec.ofChange Rows.fnExactNameOfFactsSpec) false w args) (Rows.fnExactNameOfFactsSpec.post enc Tryd.prog Tryd.f3 false true false false) := by
  refine returnsInHanded_of_change_and (C := Tryd.checked) (X := fun w _ => laidMetH Tryd.prog Rows.fnExactNameOfFactsRow.laid w) (fun _ _ _ hh h => h.of_heap hh) own started (by kernel_rfl) Tryd.func3
    (ChangeSpec.witness_at (enc := enc) (C := Tryd.checked) (os := os) (X := fun w _ => laidMetH Tryd.prog Rows.fnExactNameOfFactsRow.laid w) false (World.doorLaid Tryd.prog 400 os) #[.agg #[.int .i64 0, .int .i64 0, .int .i64 0, .int .i64 0, .bool false]] 8 rfl (by kernel_rfl) (by kernel_rfl) (by kernel_rfl) (by kernel_rfl) (by kernel_rfl) (laid_met os _)) ?_
  intro W base args ds gs before hval0 hW hcnd hsz0 hLaid _
  have hsz : (DataW.weightsEach Tryd.prog (Tryd.f3.params.toList ++ Rows.fnExactNameOfFactsSpec.plain.varTypes Tryd.prog) (ds ++ gs)).all (· ≤ reachBytes) = true := hsz0
  have hval : ∀ (j : Nat) t v, Tryd.f3.params[j]? = some t → args[j]? = some v → Value.okWide Tryd.prog W .any base t v := hval0
  have hW' := hW
  obtain ⟨p, q, hA0, hV, rfl, hfz, hnd⟩ := hW
  have hA : DataW.TrodAll enc Tryd.prog W 0 (fun _ => true) true Tryd.f3.params.toList args.toList ds p := hA0
  rw [Tryd.params3] at hA hval hsz
  obtain ⟨v0, vs0, d0, ds0, p0, q0, hargs, rfl, rfl, h0, r0⟩ := trodAll_cons hA
  obtain ⟨rfl, rfl, rfl⟩ := trodAll_nil r0
  obtain rfl : args = #[v0] := by cases args; simp_all
  obtain ⟨rfl, rfl⟩ := trodVars_none hV
  have k0 := h0
  have lt0 : ∀ x ∈ p0, x.block < W.heap.size := by obtain ⟨m, hm⟩ := k0; exact DataW.trod_lt m _ _ _ hm
  obtain ⟨cs0, rfl, hs0, he0⟩ := Opn.open_struct (n := 5) (ls := [2, 2, 2, 2, 4]) Tryd.underlying23 leafs23 cells23 (hval 0 23 v0 rfl rfl) h0
  obtain ⟨e0_0, e0_1, e0_2, e0_3, e0_4, rfl⟩ := Opn.array5 hs0
  obtain ⟨e0_0', m0_0, y0_0, z0_0, g0_0⟩ := he0 0 2 rfl
  obtain rfl : e0_0 = e0_0' := Option.some.inj z0_0
  obtain ⟨a0_0, rfl, w0_0⟩ := Opn.leaf_int Tryd.underlying2 g0_0
  obtain ⟨e0_1', m0_1, y0_1, z0_1, g0_1⟩ := he0 1 2 rfl
  obtain rfl : e0_1 = e0_1' := Option.some.inj z0_1
  obtain ⟨a0_1, rfl, w0_1⟩ := Opn.leaf_int Tryd.underlying2 g0_1
  obtain ⟨e0_2', m0_2, y0_2, z0_2, g0_2⟩ := he0 2 2 rfl
  obtain rfl : e0_2 = e0_2' := Option.some.inj z0_2
  obtain ⟨a0_2, rfl, w0_2⟩ := Opn.leaf_int Tryd.underlying2 g0_2
  obtain ⟨e0_3', m0_3, y0_3, z0_3, g0_3⟩ := he0 3 2 rfl
  obtain rfl : e0_3 = e0_3' := Option.some.inj z0_3
  obtain ⟨a0_3, rfl, w0_3⟩ := Opn.leaf_int Tryd.underlying2 g0_3
  obtain ⟨e0_4', m0_4, y0_4, z0_4, g0_4⟩ := he0 4 4 rfl
  obtain rfl : e0_4 = e0_4' := Option.some.inj z0_4
  obtain ⟨a0_4, rfl⟩ := Opn.leaf_bool Tryd.underlying4 g0_4
  clear hA0 hval0 hsz0 hsz
  obtain ⟨k, h⟩ := Pure.FnExactNameOfFacts a0_0 a0_1 a0_2 a0_3 a0_4 w0_0 w0_1 w0_2 w0_3
  have hL1 := hLaid
  rw [MakeChecks.laidMetH_plain _ _ _ (by kernel_rfl)] at hL1
  have hL2 : laidMet Tryd.prog [("internal/strconv.uint64pow10", Lib.tabData .u64 Lib.pow10Tab)] W := laidMet.filter (fun x => x.1 == "internal/strconv.uint64pow10") hL1
  have htab : strconv_FormatInt.Tab W := Lib.tabIs_of_head (g := 0) (t := 129) (e := 121) (n := 20) (by kernel_rfl) (by kernel_rfl) Tryd.underlying129 Tryd.underlying121 (by kernel_rfl) (by kernel_rfl) hL2
  refine (laws_FnExactNameOfFacts.calls k a0_0 a0_1 a0_2 a0_3 a0_4 W  htab h).mono fun e W' he => ?_
  obtain ⟨he, bel0⟩ := he
  have bel : Below W.heap.size W W' := bel0
  subst he
  exact ⟨_, rfl, _, _, _, [], _, [], hW', trodAll_mk1 (shut_bool Tryd.underlying4 _), (trodAll_cons_mk (Below.trod laidOut (by kernel_rfl) (of_decide_eq_true (by kernel_rfl)) k0 bel lt0) trodAll_mk0), rfl, bel.frame _, fun h => by cases h⟩
theorem over : Rows.fnExactNameOfFactsRow.holds Tryd.pinned (OpenSpec.ofChange Rows.fnExactNameOfFactsSpec) :=
  OpenClaim.holds_of_wide 3 Tryd.f3 rfl rfl rfl rfl rfl rfl rfl ⟨rfl, rfl, rfl, rfl, rfl⟩ rfl rfl rfl rfl rfl (by kernel_rfl) Tryd.func3 (by kernel_rfl)
    (of_decide_eq_true (by kernel_rfl)) (by unfold Func.isWrapper; first | (rw [if_pos (by decide +kernel)]; kernel_rfl) | (rw [if_neg (by decide +kernel)]; exact ⟨rfl, rfl⟩))
    (fun os started H enc _ => lifted os started H enc)
theorem proved : Rows.FnExactNameOfFactsSaid := over
end Go.Proofs.YtkjdndikgekidaaDoor.fnExactNameOfFacts
namespace Go.Proofs.YtkjdndikgekidaaDoor
/-- The row, under a short name, for the claim. -/
theorem fnExactNameOfFacts_holds : Rows.FnExactNameOfFactsSaid := fnExactNameOfFacts.proved
/-- The card: the row, its listed variables tied to the program's text. -/
theorem fnExactNameOfFactsCard_holds : Rows.FnExactNameOfFactsCardSaid :=
  Claim7.holds_tied_plain_at .later [] [.data, .data, .data] true (true, "c6e082494af46e99a3e675ec9c53d229b5d909c24214d9abd893f80fabd30d50") false
    fnExactNameOfFacts.over (fun _ h => by cases h) (by kernel_rfl) (fun _ h => by cases h) fnExactNameOfFacts_row_tie rfl ⟨rfl, rfl⟩ (by kernel_rfl) rfl
    (fun f fn hf hfn => by
      obtain rfl : f = 3 := Option.some.inj ((show Tryd.prog.funcNamed "loop.example/g00943/laws.FnExactNameOfFacts" = some 3 by kernel_rfl).symm.trans hf) |>.symm
      obtain rfl : fn = Tryd.f3 := (Option.some.inj (Tryd.func3.symm.trans hfn)).symm
      exact ⟨by kernel_rfl, fun j t ht => by
        rw [Tryd.params3] at ht
        rcases j with _ | j
        · obtain rfl := Option.some.inj ht
          kernel_rfl
        · simp at ht⟩)
    (by kernel_rfl)
end Go.Proofs.YtkjdndikgekidaaDoor
