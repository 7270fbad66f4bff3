/- The row of FnCentres, out of the plain statement and the walk: for every input the law answers true, and each argument reads as before. -/
import Derived.Test.YtnblfcibgokccaaGreatDoorRows
import Derived.Test.YtnblfcibgokccaaGreatDoorTie
import Derived.Test.YtnblfcibgokccaaGreatDoorCards
import Derived.Test.YtnblfcibgokccaaGreatDoorOpn
import Derived.Test.YtnblfcibgokccaaGreatDoorPCx15
import Derived.Test.YtnblfcibgokccaaGreatDoorPureFnCentres
import Derived.WalkKit
import Derived.Shelf.Vars
import Derived.LaidSub
import Derived.MakeChecks
import Derived.Handed
import Derived.Lib.LaidTab
import Derived.LaidLaws
import Derived.LaidMore
import Derived.LaidHandle
import Derived.SevenTiedAt
import Derived.ProofKit
import Derived.OpenShut
import Derived.ShutString
import Derived.ChangeOld
import Derived.Below
import Derived.SizedLaws
import Derived.Test.YtnblfcibgokccaaGreatDoorWSized
namespace Go.Proofs.YtnblfcibgokccaaGreatDoor.fnCentres
open Go.ChangeShapes Go.WideShapes Go.ChangeAt Go.RowKit
open Go.ChangeMaps (open_string shut_string)
open Go.Proofs.YtnblfcibgokccaaGreatDoor.PC Go.Proofs.YtnblfcibgokccaaGreatDoorW.PrintWords
set_option linter.unusedVariables false
set_option linter.unusedSimpArgs false
theorem own : ownKnob Tryz.prog.godebug = none := by kernel_rfl
theorem laidOut : laidOutB Tryz.prog = true := by kernel_rfl
theorem leafs5 : Opn.leafTypes Tryz.prog 5 5 = some [5] := by kernel_rfl
theorem cells5 : Tryz.prog.cellsOf 5 = 1 := by kernel_rfl
/-- The row's wrap: the contract is told what is laid and the world's shape. -/
theorem handed {H : Type} {enc : TypeId × Value → H} {a : Assume} {C : Checked} {os : Os} {f : FuncId} {fn : Func} {s : ChangeSpec} {conds : List PathCond} {apart fresh handsOn again : Bool} {X : World → Array Value → Prop}
    (hX : ∀ (w w' : World) (args : Array Value), w.heap = w'.heap → X w args → X w' args)
    (own : ownKnob C.prog.godebug = none) (started : os.Started) (noInit : C.prog.inits.idxOf? f = none) (hfn : C.prog.funcs[f]? = some fn)
    (witness : ∃ (w : World) (tape : Tape) (i : Input), w.os = os ∧ (w.forCall tape i).Shaped C.prog ∧ i.vars = [] ∧ Input.okWide C.prog (w.forCall tape i) .any w.heap.size f i ∧
      ((s.pre enc C.prog fn conds apart (w.forCall tape i).memory i.args ∧ X (w.forCall tape i).memory i.args) ∧ sizedMet enc C.prog fn (OpenSpec.ofChange s) apart (w.forCall tape i).memory i.args) ∧ a.holds C.prog (lone (Frame.enter C.prog f i.args .normal) [] (w.forCall tape i)))
    (contract : ∀ (W : World) (base : Nat) (args : Array Value) (ds gs : List (DataW H)) (before : List MemPlace),
      (∀ (j : Nat) t v, fn.params[j]? = some t → args[j]? = some v → Value.okWide C.prog W .any base t v) →
      DataW.Whole enc C.prog fn.params.toList s.vars apart W args.toList ds gs before →
      conds.all (PathCond.test C.prog ⟨fn.params.toList, ds, s.plain.varTypes C.prog, gs⟩) = true →
      (DataW.weightsEach C.prog (fn.params.toList ++ s.plain.varTypes C.prog) (ds ++ gs)).all (· ≤ reachBytes) = true → X W args → W.ShapedOpen C.prog →
      a.holds C.prog (lone (Frame.enter C.prog f args .normal) [] W) →
      Calls C.prog f args W fun e W' => ∃ v, e = .returned v ∧ s.post enc C.prog fn apart fresh handsOn again W args v W') :
    ReturnsInHanded a C os f .any (fun w args => (s.pre enc C.prog fn conds apart w args ∧ X w args) ∧ sizedMet enc C.prog fn (OpenSpec.ofChange s) apart w args) (s.post enc C.prog fn apart fresh handsOn again) := by
  refine returnsInHanded_of_calls own started noInit witness fun w tape i _ hsh _ hok hpre hholds => ?_
  have hval := hok.2.2.2
  obtain ⟨fn', hfn', _, _, _, _, hv⟩ := hval
  cases (hfn'.symm.trans hfn : some fn' = some fn)
  obtain ⟨ds, gs, before, hw, hc⟩ := hpre.1.1
  refine (contract _ w.heap.size i.args ds gs before hv (DataW.Whole.of_heap (w' := w.forCall tape i) (by rfl) hw) hc (hpre.2.weights hw) (hX _ _ _ (by rfl) hpre.1.2) hsh hholds).mono fun e W' he => ?_
  obtain ⟨v, rfl, hp⟩ := he
  exact ChangeSpec.post_blind hp
/-- A listed variable of an interface type holds nil or a value of some type. -/
theorem cell_iface {P : Program} {W : World} {name : String} {d : DataW Unit} {g : Nat} {t : TypeId} {ms : Array (String × TypeId)} (hg : P.globalNamed name = some g) (hty : (P.globals[g]?).map (·.type) = some t)
    (hu : P.underlying t = some (.interface ms)) (h : laidMet P [(name, d)] W) : ∃ ev, W.cell? ⟨g, 0, none⟩ = some ev ∧ (ev = .nilIface ∨ ∃ te pe, ev = .iface te pe) := by
  obtain ⟨ps, ⟨g', t', cs, fuel, p, q, hg', ht', hvar, hd, _, _⟩, _⟩ := h
  obtain rfl := Option.some.inj (hg.symm.trans hg')
  obtain rfl := Option.some.inj (hty.symm.trans ht')
  have hc := World.var?_cell hg hvar 0
  cases fuel with
  | zero => simp [DataW.trod] at hd
  | succ fuel =>
    obtain ⟨l⟩ := cs
    match l, hd, hc with
    | [], hd, _ => simp [DataW.trod, hu] at hd
    | [v], hd, hc =>
      cases v with
      | nilIface => exact ⟨_, by simpa using hc, Or.inl rfl⟩
      | iface u x => exact ⟨_, by simpa using hc, Or.inr ⟨u, x, rfl⟩⟩
      | _ => simp [DataW.trod, hu] at hd
    | _ :: _ :: _, hd, _ => simp [DataW.trod, hu] at hd
/-- A laid array's cells. -/
def flat (d : DataW Unit) : Array Value := match d with
  | .agg l => (l.map fun x => match x with | .lit (.int k n) => Value.int k n | _ => Value.nilIface).toArray
  | _ => #[]
/-- The world that the door leaves, the pinned variables laid too. -/
noncomputable def doorW (os : Os) : World :=
  let w0 := World.doorLaid Tryz.prog 400 os
  { w0 with heap := (w0.heap.modify 4 fun | .cells _ t fr => .cells (flat Rows.laid_unicode_utf8_first) t fr | o => o) }
theorem laid_met (os : Os) (args : Array Value) : laidMetH Tryz.prog Rows.fnCentresRow.laid ((doorW os).forCall (fun _ _ => 0) ⟨#[], args, []⟩).memory :=
  laidMetH_of_parts3 (fuel := 8) (laidMet_of_run' 8 (by kernel_rfl) (by kernel_rfl)) (by kernel_rfl) (by kernel_rfl)
set_option maxRecDepth 100000 in
theorem lifted (os : Os) (started : os.Started) (H : Type) (enc : TypeId × Value → H) :
    ReturnsInHanded {} Tryz.checked os 3 .any (fun w args => (Rows.fnCentresSpec.pre enc Tryz.prog Tryz.f3 Rows.fnCentresRow.domain false w args ∧ laidMetH Tryz.prog Rows.fnCentresRow.laid w) ∧ sizedMet enc Tryz.prog Tryz.f3 (OpenSpec.ofChange Rows.fnCentresSpec) false w args) (Rows.fnCentresSpec.post enc Tryz.prog Tryz.f3 false true false false) := by
  refine handed (C := Tryz.checked) (X := fun w _ => laidMetH Tryz.prog Rows.fnCentresRow.laid w) (fun _ _ _ hh h => h.of_heap hh) own started (by kernel_rfl) Tryz.func3
    (ChangeSpec.witness_at (enc := enc) (C := Tryz.checked) (os := os) (X := fun w _ => laidMetH Tryz.prog Rows.fnCentresRow.laid w) false (doorW os) #[.slice none 0 0] 8 rfl (by kernel_rfl) (by kernel_rfl) (by kernel_rfl) (by kernel_rfl) (by kernel_rfl) (laid_met os _)) ?_
  intro W base args ds gs before hval0 hW hcnd hsz0 hLaid hShape _
  have hsz : (DataW.weightsEach Tryz.prog (Tryz.f3.params.toList ++ Rows.fnCentresSpec.plain.varTypes Tryz.prog) (ds ++ gs)).all (· ≤ reachBytes) = true := hsz0
  have hval : ∀ (j : Nat) t v, Tryz.f3.params[j]? = some t → args[j]? = some v → Value.okWide Tryz.prog W .any base t v := hval0
  have hW' := hW
  obtain ⟨p, q, hA0, hV, rfl, hfz, hnd⟩ := hW
  have hA : DataW.TrodAll enc Tryz.prog W 0 (fun _ => true) true Tryz.f3.params.toList args.toList ds p := hA0
  rw [Tryz.params3] at hA hval hsz
  obtain ⟨v0, vs0, d0, ds0, p0, q0, hargs, rfl, rfl, h0, r0⟩ := trodAll_cons hA
  obtain ⟨rfl, rfl, rfl⟩ := trodAll_nil r0
  obtain rfl : args = #[v0] := by cases args; simp_all
  obtain ⟨rfl, rfl⟩ := trodVars_none hV
  obtain ⟨b0, len0, cap0, rfl⟩ := okWide_slice Tryz.underlying22 (hval 0 22 v0 rfl rfl)
  have k0 := h0
  have lt0 : ∀ x ∈ p0, x.block < W.heap.size := by obtain ⟨m, hm⟩ := k0; exact DataW.trod_lt m _ _ _ hm
  obtain ⟨fuel0, hf0⟩ := h0
  have hg0 : DataW.trod enc Tryz.prog W 0 (fun _ => true) true fuel0 22 [.slice b0 len0 cap0] = some (d0, p0) := by simpa [Value.cells] using hf0
  clear hf0
  generalize hx0 : (Value.slice b0 len0 cap0) = x0 at *
  obtain ⟨A0, c0, l0, rfl, hc0, hm0, hr0, hw0⟩ := Opn.open_rows (ik := .u8) (n := 5) (ls := [5]) Tryz.underlying22 leafs5 cells5 (by intro lt hlt; simp only [List.mem_cons, List.not_mem_nil, or_false, or_self] at hlt; subst hlt; exact Tryz.underlying5) (Kd.int .u8) rfl (fun ns => ns.getD 0 0) (fun ns h => by match ns, h with | [z0], _ => exact rfl) hg0
  have hw0' : ∀ x ∈ l0, (Lit.int .u8 x).wf = true := by
    intro x hx
    obtain ⟨ns, rfl, hn, hz⟩ := hw0 x hx
    match ns, hn with
    | [z0], _ => exact hz z0 (by simp)
  clear hA0 hval0 hsz0 hsz
  have hm_0 : l0.length ≤ maxLen := Nat.le_trans hc0 hm0
  obtain ⟨k, h⟩ := Pure.FnCentres l0 hm_0 hw0'
  have hL1 := hLaid
  rw [MakeChecks.laidMetH_plain _ _ _ (by kernel_rfl)] at hL1
  have hL2 : laidMet Tryz.prog [("internal/strconv.uint64pow10", Lib.tabData .u64 Lib.pow10Tab)] W := laidMet.filter (fun x => x.1 == "internal/strconv.uint64pow10") hL1
  have hL_errsyntax : laidMet Tryz.prog [("strconv.ErrSyntax", Rows.laid_strconv_ErrSyntax)] W := laidMet.filter (fun x => x.1 == "strconv.ErrSyntax") hL1
  have hL_errrange : laidMet Tryz.prog [("strconv.ErrRange", Rows.laid_strconv_ErrRange)] W := laidMet.filter (fun x => x.1 == "strconv.ErrRange") hL1
  have htab : texts.Tab W := ⟨Lib.tabIs_of_head (g := 1) (t := 199) (e := 180) (n := 20) (by kernel_rfl) (by kernel_rfl) Tryz.underlying199 Tryz.underlying180 (by kernel_rfl) (by kernel_rfl) hL2,
    cell_of_shapedOpen_int hShape (of_decide_eq_true (by kernel_rfl)) (t := 3) (zero := #[.int .i64 0]) (by kernel_rfl) rfl (by kernel_rfl) (by kernel_rfl) Tryz.underlying3,
    cell_iface (g := 2) (t := 139) (by kernel_rfl) (by kernel_rfl) Tryz.underlying139 hL_errsyntax,
    cell_iface (g := 3) (t := 139) (by kernel_rfl) (by kernel_rfl) Tryz.underlying139 hL_errrange⟩
  refine (laws_FnCentres.calls k _ _ l0 W hr0 hc0 htab h).mono fun e W' he => ?_
  obtain ⟨he, bel0⟩ := he
  have bel : Below W.heap.size W W' := bel0
  subst he
  exact ⟨_, rfl, _, _, _, [], _, [], hW', trodAll_mk1 (shut_bool Tryz.underlying4 _), (trodAll_cons_mk (Below.trod laidOut (by kernel_rfl) (of_decide_eq_true (by kernel_rfl)) k0 bel lt0) trodAll_mk0), rfl, bel.frame _, fun h => by cases h⟩
theorem over : Rows.fnCentresRow.holds Tryz.pinned (OpenSpec.ofChange Rows.fnCentresSpec) :=
  OpenClaim.holds_of_wide 3 Tryz.f3 rfl rfl rfl rfl rfl rfl rfl ⟨rfl, rfl, rfl, rfl, rfl⟩ rfl rfl rfl rfl rfl (by kernel_rfl) Tryz.func3 (by kernel_rfl)
    (of_decide_eq_true (by kernel_rfl)) (by unfold Func.isWrapper; first | (rw [if_pos (by decide +kernel)]; kernel_rfl) | (rw [if_neg (by decide +kernel)]; exact ⟨rfl, rfl⟩))
    (fun os started H enc _ => lifted os started H enc)
theorem proved : Rows.FnCentresSaid := over
end Go.Proofs.YtnblfcibgokccaaGreatDoor.fnCentres
namespace Go.Proofs.YtnblfcibgokccaaGreatDoor
/-- The row, under a short name, for the claim. -/
theorem fnCentres_holds : Rows.FnCentresSaid := fnCentres.proved
/-- The card: the row, its listed variables tied to the program's text. -/
theorem fnCentresCard_holds : Rows.FnCentresCardSaid :=
  Claim7.holds_tied_plain_at .later [] [.data, .data, .data, .data, .sentinel, .sentinel, .pinned] true (true, "35b2507ab71e8d73b1dd8c268a8b86c6d287bf086099e8d5548f9c85d84bb784") true
    fnCentres.over (fun _ h => by cases h) (by kernel_rfl) (fun _ h => by cases h) fnCentres_row_tie rfl ⟨rfl, rfl⟩ (by kernel_rfl) rfl
    (fun f fn hf hfn => by
      obtain rfl : f = 3 := Option.some.inj ((show Tryz.prog.funcNamed "loop.example/g00943/laws.FnCentres" = some 3 by kernel_rfl).symm.trans hf) |>.symm
      obtain rfl : fn = Tryz.f3 := (Option.some.inj (Tryz.func3.symm.trans hfn)).symm
      exact ⟨by kernel_rfl, fun j t ht => by
        rw [Tryz.params3] at ht
        rcases j with _ | j
        · obtain rfl := Option.some.inj ht
          kernel_rfl
        · simp at ht⟩)
    (by kernel_rfl)
end Go.Proofs.YtnblfcibgokccaaGreatDoor
