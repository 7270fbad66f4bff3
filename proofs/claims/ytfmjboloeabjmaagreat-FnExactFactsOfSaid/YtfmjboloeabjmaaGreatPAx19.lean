import Derived.Test.YtfmjboloeabjmaaGreatPAx0
import Derived.Test.YtfmjboloeabjmaaGreatPAx13
import Derived.Test.YtfmjboloeabjmaaGreatPAx15
import Derived.Test.YtfmjboloeabjmaaGreatPAx17
import Derived.Test.YtfmjboloeabjmaaGreatPAx18
namespace Go.Proofs.YtfmjboloeabjmaaGreat.PA
open Go.RowKit Go.Proofs.YtfmjboloeabjmaaGreatW.PrintWords Go.Proofs.YtfmjboloeabjmaaGreatW.PrintLast Go.Proofs.YtfmjboloeabjmaaGreatW.PrintMore
attribute [local go_sem] max2_int min2_int max_two min_two max_three min_three max_four min_four   -- for this text's walks alone
set_option linter.unusedVariables false
set_option maxHeartbeats 8000000
set_option maxRecDepth 100000
set_option linter.unusedSimpArgs false
def impl_alongAxis.f (k : Nat) (Ar : Int) (As : Int) (At : Int) (Au : Int) (Av : Int) (Aw : Int) : Option (Int) := (impl_Mat_apply.f Ar As At Au Av Aw).bind fun AG => ((impl_Vec_add.f Av Aw AG.1 AG.2).bind fun AH => ((impl_Mat_axis.f k Ar As At Au).bind fun AC => (if AC.1 = 0 then (if AC.2 = 0 then (none) else (some (wrap64 (Int.tdiv AH.2 AC.2)))) else (some (wrap64 (Int.tdiv AH.1 AC.1))))))
def impl_alongAxis.T1 : Bool × List (List Nat × List Nat) := (true, [([], []), ([], []), ([], []), ([1, 2], [1, 2]), ([0, 3, 3], [0, 3]), ([], []), ([5, 4], [5]), ([], []), ([], []), ([7, 4, 6, 0, 1, 2, 3, 4, 7, 8], [4, 7]), ([8, 6, 9, 0, 1, 2, 3, 4, 5, 6, 7, 8, 9], [6, 8])])
def impl_alongAxis.B1 : List Nat := [0, 0, 0, 6, 15, 0, 63, 0, 0, 511, 1023]
theorem impl_alongAxis.tab1 : rtab .any (opsOf Tryz.f72 1) = impl_alongAxis.T1 := by kernel_rfl
theorem impl_alongAxis.bits1 : waitsOk impl_alongAxis.T1.2 impl_alongAxis.B1 = true := by kernel_rfl
theorem impl_alongAxis.calls (k : Nat) (Ar : Int) (As : Int) (At : Int) (Au : Int) (Av : Int) (Aw : Int) (r : Int) (w : World) (h : impl_alongAxis.f k Ar As At Au Av Aw = some r) :
  Calls Tryz.prog 72 #[.agg #[.int .i64 Ar, .int .i64 As, .int .i64 At, .int .i64 Au], .agg #[.int .i64 Av, .int .i64 Aw]] w fun e w' => e = .returned (.int .i64 r) ∧ Below w.heap.size w w' := by
 have hu42 := Tryz.underlying42
 have hu44 := Tryz.underlying44
 have HB := asd (Below.refl w.heap.size w)
 have H : ((impl_Mat_apply.f Ar As At Au Av Aw).bind fun AG => ((impl_Vec_add.f Av Aw AG.1 AG.2).bind fun AH => ((impl_Mat_axis.f k Ar As At Au).bind fun AC => (if AC.1 = 0 then (if AC.2 = 0 then (none) else (some (wrap64 (Int.tdiv AH.2 AC.2)))) else (some (wrap64 (Int.tdiv AH.1 AC.1))))))) = some r := h
 clear h
 obtain ⟨⟨AM, AN⟩, A3, H⟩ := ob H
 try dsimp only at H
 obtain ⟨⟨AO, AP⟩, A4, H⟩ := ob H
 try dsimp only at H
 obtain ⟨⟨AF, AI⟩, A5, H⟩ := ob H
 try dsimp only at H
 by_cases c6 : AF = 0
 rw [if_pos c6] at H
 have Bz : (AF == 0) = true := beq_iff_eq.mpr c6
 have BA : (AF != 0) = false := bne_eq_false_iff_eq.mpr c6
 clear c6
 by_cases c7 : AI = 0
 ·rw [if_pos c7] at H
  exact absurd H (by simp)
 rw [if_neg c7] at H
 have BN : (AI == 0) = false := beq_eq_false_iff_ne.mpr c7
 have BO : (AI != 0) = true := bne_iff_ne.mpr c7
 obtain rfl := Option.some.inj H
 rotate_left
 rw [if_neg c6] at H
 have Bz : (AF == 0) = false := beq_eq_false_iff_ne.mpr c6
 have BA : (AF != 0) = true := bne_iff_ne.mpr c6
 obtain rfl := Option.some.inj H
 rotate_left
 all_goals
  go_enter Tryz.func72, Tryz.ntmps72
  try go_wp2_with (first | ((with_reducible refine gd 2 rfl ?_); refine bx #[.int .i64 Ar, .int .i64 As, .int .i64 At, .int .i64 Au] 42 ?_; intro Aq hg w8 Ac hb; have Ao := ngw0 hg HB; replace HB := bS0 HB hb; clear hb hg) | ((with_reducible refine gd 3 rfl ?_); refine bx #[.int .i64 Av, .int .i64 Aw] 44 ?_; intro Ax hg w9 Ad hb; have Ap := ngw1 hg HB Ao; replace HB := bS1 HB Ao hb; have AQ := nlt hg Ac; have AR := nsy (nlt hg Ac); replace Ac := bB Ac hb; clear hb hg))
  replace Ac := asd (blk_drew Ac.out)
  replace Ad := asd (blk_drew Ad.out)
  replace HB := asd (below_drew1 HB.out)
  refine start_ (n := 11) (S := fun w' => True) (ds := []) (bT 11 0) (by kernel_rfl) rfl rfl trivial (fun hHeld => ?_); refine with_tabW impl_alongAxis.tab1 impl_alongAxis.bits1 (fun HT_ HW_ => ?_)
  generalize w9.drew = BP at Ac Ad HB hHeld ⊢
  refine inv_at [0, 1, 2, 3, 4, 5, 6, 7, 8, 9, 10] (fun a0_ b a w' => ∃ (Aa : Nat) (Ab : Nat) (m7_ : Value) (m8_ : Value), a = putSel a0_ b [(0, 7, .agg #[.int .i64 Av, .int .i64 Aw]), (1, 8, .agg #[.int .i64 Ar, .int .i64 As, .int .i64 At, .int .i64 Au]), (2, 9, .agg #[.int .i64 Av, .int .i64 Aw]), (3, 10, .agg #[.int .i64 AM, .int .i64 AN]), (4, 11, .agg #[.int .i64 AO, .int .i64 AP]), (5, 12, .agg #[.int .i64 Ar, .int .i64 As, .int .i64 At, .int .i64 Au]), (6, 13, .agg #[.int .i64 AF, .int .i64 AI]), (7, 5, m7_), (8, 6, m8_)] ∧ (w'.heap[Aq]? = some (.cells #[.int .i64 Ar, .int .i64 As, .int .i64 At, .int .i64 Au] 42 (0, 0))) ∧ (w'.heap[Ax]? = some (.cells #[.int .i64 Av, .int .i64 Aw] 44 (0, 0))) ∧ (Below w.heap.size w w') ∧ (b 7 = true → b 8 = true → Ab ≠ Aa) ∧ (b 7 = true → b 8 = true → Aa ≠ Ab) ∧ (b 7 = true → b 9 = false → w'.heap[Aa]? = some (.cells #[.int .i64 0, .int .i64 0] 44 (0, 0))) ∧ (b 7 = true → w.heap.size ≤ Aa) ∧ (b 7 = true → w.heap.size ≤ Aa) ∧ (b 7 = true → Aq ≠ Aa) ∧ (b 7 = true → Aa ≠ Aq) ∧ (b 7 = true → Ax ≠ Aa) ∧ (b 7 = true → Aa ≠ Ax) ∧ (b 8 = true → b 10 = false → w'.heap[Ab]? = some (.cells #[.int .i64 0, .int .i64 0] 44 (0, 0))) ∧ (b 8 = true → w.heap.size ≤ Ab) ∧ (b 8 = true → w.heap.size ≤ Ab) ∧ (b 8 = true → Aq ≠ Ab) ∧ (b 8 = true → Ab ≠ Aq) ∧ (b 8 = true → Ax ≠ Ab) ∧ (b 8 = true → Ab ≠ Ax) ∧ (b 9 = true → w'.heap[Aa]? = some (.cells #[.int .i64 AO, .int .i64 AP] 44 (0, 0))) ∧ (b 10 = true → w'.heap[Ab]? = some (.cells #[.int .i64 AF, .int .i64 AI] 44 (0, 0))) ∧ (b 7 = true → (m7_ : Value) = .pointer (some ⟨Aa, 0, none⟩)) ∧ (b 8 = true → (m8_ : Value) = .pointer (some ⟨Ab, 0, none⟩))) HT_.out HW_.out (by kernel_rfl) (by kernel_rfl) ?_ ?_ ?_
  ·exact ⟨0, 0, .bool false, .bool false, by simp only [putSel, Bool.false_eq_true, if_false], Ac.out, Ad.out, HB.out, fun h_ => absurd h_ (by decide), fun h_ => absurd h_ (by decide), fun h_ => absurd h_ (by decide), fun h_ => absurd h_ (by decide), fun h_ => absurd h_ (by decide), fun h_ => absurd h_ (by decide), fun h_ => absurd h_ (by decide), fun h_ => absurd h_ (by decide), fun h_ => absurd h_ (by decide), fun h_ => absurd h_ (by decide), fun h_ => absurd h_ (by decide), fun h_ => absurd h_ (by decide), fun h_ => absurd h_ (by decide), fun h_ => absurd h_ (by decide), fun h_ => absurd h_ (by decide), fun h_ => absurd h_ (by decide), fun h_ => absurd h_ (by decide), fun h_ => absurd h_ (by decide), fun h_ => absurd h_ (by decide), fun h_ => absurd h_ (by decide)⟩
  ·skip
   clear Ac Ad HB
   refine steps_cons ?_ ?_
   ·rintro b a w' ⟨Aa, Ab, m7_, m8_, ha, Q_BK706, Q_BK707, Q_HB, Q_NB715_714, Q_NB714_715, Q_BK714, Q_GW714, Q_GE714, Q_NB706_714, Q_NB714_706, Q_NB707_714, Q_NB714_707, Q_BK715, Q_GW715, Q_GE715, Q_NB706_715, Q_NB715_706, Q_NB707_715, Q_NB715_707, Q_BK714_e9, Q_BK715_e10, Q_X7_, Q_X8_⟩ hb_ hon hoff
    refine ⟨_, rfl, fun K hK => ?_⟩
    have e3 : a.tmps[3]? = some (.pointer (some ⟨Ax, 0, none⟩)) := by rw [ha]; exact (putSel_off rfl).trans rfl
    replace ha := Aside0.mk ha
    have Ac := Aside0.mk Q_BK706
    have Ad := Aside0.mk Q_BK707
    have HB := Aside0.mk Q_HB
    have hc0_ : w'.cell? ⟨Ax, 0, none⟩ = some (.int .i64 Av) := bcl Ad 0
    have hc1_ : w'.cell? ⟨Ax, 1, none⟩ = some (.int .i64 Aw) := bcl Ad 1
    refine value_ (w1 := w') (v := .agg #[.int .i64 Av, .int .i64 Aw]) (by rfl) rfl ?_ ?_
    ·go_simp
     (try simp only [i64_w])
     try rfl
    refine hK.out _ _ ⟨Aa, Ab, m7_, m8_, (by rw [ha.out]; exact putSel_upk 0 hb_ rfl rfl rfl), Q_BK706, Q_BK707, Q_HB, Q_NB715_714, Q_NB714_715, Q_BK714, Q_GW714, Q_GE714, Q_NB706_714, Q_NB714_706, Q_NB707_714, Q_NB714_707, Q_BK715, Q_GW715, Q_GE715, Q_NB706_715, Q_NB715_706, Q_NB707_715, Q_NB715_707, fun h0_ => absurd ((hoff 9 (by kernel_rfl)).symm.trans h0_) (by decide), fun h0_ => absurd ((hoff 10 (by kernel_rfl)).symm.trans h0_) (by decide), Q_X7_, Q_X8_⟩
   refine steps_cons ?_ ?_
   ·rintro b a w' ⟨Aa, Ab, m7_, m8_, ha, Q_BK706, Q_BK707, Q_HB, Q_NB715_714, Q_NB714_715, Q_BK714, Q_GW714, Q_GE714, Q_NB706_714, Q_NB714_706, Q_NB707_714, Q_NB714_707, Q_BK715, Q_GW715, Q_GE715, Q_NB706_715, Q_NB715_706, Q_NB707_715, Q_NB715_707, Q_BK714_e9, Q_BK715_e10, Q_X7_, Q_X8_⟩ hb_ hon hoff
    refine ⟨_, rfl, fun K hK => ?_⟩
    have e2 : a.tmps[2]? = some (.pointer (some ⟨Aq, 0, none⟩)) := by rw [ha]; exact (putSel_off rfl).trans rfl
    replace ha := Aside0.mk ha
    have Ac := Aside0.mk Q_BK706
    have Ad := Aside0.mk Q_BK707
    have HB := Aside0.mk Q_HB
    have hc0_ : w'.cell? ⟨Aq, 0, none⟩ = some (.int .i64 Ar) := bcl Ac 0
    have hc1_ : w'.cell? ⟨Aq, 1, none⟩ = some (.int .i64 As) := bcl Ac 1
    have hc2_ : w'.cell? ⟨Aq, 2, none⟩ = some (.int .i64 At) := bcl Ac 2
    have hc3_ : w'.cell? ⟨Aq, 3, none⟩ = some (.int .i64 Au) := bcl Ac 3
    refine value_ (w1 := w') (v := .agg #[.int .i64 Ar, .int .i64 As, .int .i64 At, .int .i64 Au]) (by rfl) rfl ?_ ?_
    ·go_simp
     (try simp only [i64_w])
     try rfl
    refine hK.out _ _ ⟨Aa, Ab, m7_, m8_, (by rw [ha.out]; exact putSel_upk 1 hb_ rfl rfl rfl), Q_BK706, Q_BK707, Q_HB, Q_NB715_714, Q_NB714_715, Q_BK714, Q_GW714, Q_GE714, Q_NB706_714, Q_NB714_706, Q_NB707_714, Q_NB714_707, Q_BK715, Q_GW715, Q_GE715, Q_NB706_715, Q_NB715_706, Q_NB707_715, Q_NB715_707, fun h0_ => absurd ((hoff 9 (by kernel_rfl)).symm.trans h0_) (by decide), fun h0_ => absurd ((hoff 10 (by kernel_rfl)).symm.trans h0_) (by decide), Q_X7_, Q_X8_⟩
   refine steps_cons ?_ ?_
   ·rintro b a w' ⟨Aa, Ab, m7_, m8_, ha, Q_BK706, Q_BK707, Q_HB, Q_NB715_714, Q_NB714_715, Q_BK714, Q_GW714, Q_GE714, Q_NB706_714, Q_NB714_706, Q_NB707_714, Q_NB714_707, Q_BK715, Q_GW715, Q_GE715, Q_NB706_715, Q_NB715_706, Q_NB707_715, Q_NB715_707, Q_BK714_e9, Q_BK715_e10, Q_X7_, Q_X8_⟩ hb_ hon hoff
    refine ⟨_, rfl, fun K hK => ?_⟩
    have e3 : a.tmps[3]? = some (.pointer (some ⟨Ax, 0, none⟩)) := by rw [ha]; exact (putSel_off rfl).trans rfl
    replace ha := Aside0.mk ha
    have Ac := Aside0.mk Q_BK706
    have Ad := Aside0.mk Q_BK707
    have HB := Aside0.mk Q_HB
    have hc0_ : w'.cell? ⟨Ax, 0, none⟩ = some (.int .i64 Av) := bcl Ad 0
    have hc1_ : w'.cell? ⟨Ax, 1, none⟩ = some (.int .i64 Aw) := bcl Ad 1
    refine value_ (w1 := w') (v := .agg #[.int .i64 Av, .int .i64 Aw]) (by rfl) rfl ?_ ?_
    ·go_simp
     (try simp only [i64_w])
     try rfl
    refine hK.out _ _ ⟨Aa, Ab, m7_, m8_, (by rw [ha.out]; exact putSel_upk 2 hb_ rfl rfl rfl), Q_BK706, Q_BK707, Q_HB, Q_NB715_714, Q_NB714_715, Q_BK714, Q_GW714, Q_GE714, Q_NB706_714, Q_NB714_706, Q_NB707_714, Q_NB714_707, Q_BK715, Q_GW715, Q_GE715, Q_NB706_715, Q_NB715_706, Q_NB707_715, Q_NB715_707, fun h0_ => absurd ((hoff 9 (by kernel_rfl)).symm.trans h0_) (by decide), fun h0_ => absurd ((hoff 10 (by kernel_rfl)).symm.trans h0_) (by decide), Q_X7_, Q_X8_⟩
   refine steps_cons ?_ ?_
   ·rintro b a w' ⟨Aa, Ab, m7_, m8_, ha, Q_BK706, Q_BK707, Q_HB, Q_NB715_714, Q_NB714_715, Q_BK714, Q_GW714, Q_GE714, Q_NB706_714, Q_NB714_706, Q_NB707_714, Q_NB714_707, Q_BK715, Q_GW715, Q_GE715, Q_NB706_715, Q_NB715_706, Q_NB707_715, Q_NB715_707, Q_BK714_e9, Q_BK715_e10, Q_X7_, Q_X8_⟩ hb_ hon hoff
    refine ⟨_, rfl, fun K hK => ?_⟩
    have e8 : a.tmps[8]? = some (.agg #[.int .i64 Ar, .int .i64 As, .int .i64 At, .int .i64 Au]) := by rw [ha]; exact putSel_on (e := (1, 8, .agg #[.int .i64 Ar, .int .i64 As, .int .i64 At, .int .i64 Au])) 1 rfl rfl (hon 1 (by kernel_rfl)) rfl
    have e9 : a.tmps[9]? = some (.agg #[.int .i64 Av, .int .i64 Aw]) := by rw [ha]; exact putSel_on (e := (2, 9, .agg #[.int .i64 Av, .int .i64 Aw])) 2 rfl rfl (hon 2 (by kernel_rfl)) rfl
    replace ha := Aside0.mk ha
    have Ac := Aside0.mk Q_BK706
    have Ad := Aside0.mk Q_BK707
    have HB := Aside0.mk Q_HB
    refine goes_ Tryz.func99 (by kernel_rfl) rfl #[.agg #[.int .i64 Ar, .int .i64 As, .int .i64 At, .int .i64 Au], .agg #[.int .i64 Av, .int .i64 Aw]] (by rfl) rfl rfl (by first | (simp only [List.map_toArray, List.map_cons, List.map_nil, Act.eval, Array.getD_eq_getD_getElem?, Option.getD_some, e8, e9]; done) | (simp only [List.map_toArray, List.map_cons, List.map_nil, Act.eval, Array.getD_eq_getD_getElem?, Option.getD_some, e8, e9]; rfl)) ?_
    with_reducible refine (impl_Mat_apply.calls _ _ _ _ _ _ _ _ _ A3.out).mono ?_
    rintro e AS ⟨rfl, hb⟩
    refine ⟨_, rfl, ?_⟩
    have AJ := bB Ac hb
    have AK := bB Ad hb
    have AL := bS2 HB Ao Ap hb
    have z_BK714 := fun (h0_ : b 7 = true) (h1_ : b 9 = false) => (show AS.heap[Aa]? = some (.cells #[.int .i64 0, .int .i64 0] 44 (0, 0)) from by first | exact (blk_below (g := Aa) (o := .cells #[.int .i64 0, .int .i64 0] 44 (0, 0)) (by (with_reducible repeat (first | refine blk_drewN ?_ _ | refine blk_drew ?_ | refine blk_alloc ?_ _)); exact (Q_BK714 h0_ h1_)) hb))
    have z_BK715 := fun (h0_ : b 8 = true) (h1_ : b 10 = false) => (show AS.heap[Ab]? = some (.cells #[.int .i64 0, .int .i64 0] 44 (0, 0)) from by first | exact (blk_below (g := Ab) (o := .cells #[.int .i64 0, .int .i64 0] 44 (0, 0)) (by (with_reducible repeat (first | refine blk_drewN ?_ _ | refine blk_drew ?_ | refine blk_alloc ?_ _)); exact (Q_BK715 h0_ h1_)) hb))
    clear Ac
    clear Ad
    clear HB
    have Ac := AJ
    have Ad := AK
    have HB := AL
    clear AJ AK AL
    (try clear hb)
    (try clear hb2)
    (try clear hk)
    (try clear hi)
    refine hK.out _ _ ⟨Aa, Ab, m7_, m8_, (by rw [ha.out]; exact putSel_upk 3 hb_ rfl rfl rfl), (bkp Ac), (bkp Ad), (bbw2 HB Ao Ap), Q_NB715_714, Q_NB714_715, z_BK714, Q_GW714, Q_GE714, Q_NB706_714, Q_NB714_706, Q_NB707_714, Q_NB714_707, z_BK715, Q_GW715, Q_GE715, Q_NB706_715, Q_NB715_706, Q_NB707_715, Q_NB715_707, fun h0_ => absurd ((hoff 9 (by kernel_rfl)).symm.trans h0_) (by decide), fun h0_ => absurd ((hoff 10 (by kernel_rfl)).symm.trans h0_) (by decide), Q_X7_, Q_X8_⟩
   refine steps_cons ?_ ?_
   ·rintro b a w' ⟨Aa, Ab, m7_, m8_, ha, Q_BK706, Q_BK707, Q_HB, Q_NB715_714, Q_NB714_715, Q_BK714, Q_GW714, Q_GE714, Q_NB706_714, Q_NB714_706, Q_NB707_714, Q_NB714_707, Q_BK715, Q_GW715, Q_GE715, Q_NB706_715, Q_NB715_706, Q_NB707_715, Q_NB715_707, Q_BK714_e9, Q_BK715_e10, Q_X7_, Q_X8_⟩ hb_ hon hoff
    refine ⟨_, rfl, fun K hK => ?_⟩
    have e7 : a.tmps[7]? = some (.agg #[.int .i64 Av, .int .i64 Aw]) := by rw [ha]; exact putSel_on (e := (0, 7, .agg #[.int .i64 Av, .int .i64 Aw])) 0 rfl rfl (hon 0 (by kernel_rfl)) rfl
    have e10 : a.tmps[10]? = some (.agg #[.int .i64 AM, .int .i64 AN]) := by rw [ha]; exact putSel_on (e := (3, 10, .agg #[.int .i64 AM, .int .i64 AN])) 3 rfl rfl (hon 3 (by kernel_rfl)) rfl
    replace ha := Aside0.mk ha
    have Ac := Aside0.mk Q_BK706
    have Ad := Aside0.mk Q_BK707
    have HB := Aside0.mk Q_HB
    refine goes_ Tryz.func65 (by kernel_rfl) rfl #[.agg #[.int .i64 Av, .int .i64 Aw], .agg #[.int .i64 AM, .int .i64 AN]] (by rfl) rfl rfl (by first | (simp only [List.map_toArray, List.map_cons, List.map_nil, Act.eval, Array.getD_eq_getD_getElem?, Option.getD_some, e7, e10]; done) | (simp only [List.map_toArray, List.map_cons, List.map_nil, Act.eval, Array.getD_eq_getD_getElem?, Option.getD_some, e7, e10]; rfl)) ?_
    with_reducible refine (impl_Vec_add.calls _ _ _ _ _ _ _ A4.out).mono ?_
    rintro e BB ⟨rfl, hb⟩
    refine ⟨_, rfl, ?_⟩
    have AJ := bB Ac hb
    have AK := bB Ad hb
    have AL := bS2 HB Ao Ap hb
    have z_BK714 := fun (h0_ : b 7 = true) (h1_ : b 9 = false) => (show BB.heap[Aa]? = some (.cells #[.int .i64 0, .int .i64 0] 44 (0, 0)) from by first | exact (blk_below (g := Aa) (o := .cells #[.int .i64 0, .int .i64 0] 44 (0, 0)) (by (with_reducible repeat (first | refine blk_drewN ?_ _ | refine blk_drew ?_ | refine blk_alloc ?_ _)); exact (Q_BK714 h0_ h1_)) hb))
    have z_BK715 := fun (h0_ : b 8 = true) (h1_ : b 10 = false) => (show BB.heap[Ab]? = some (.cells #[.int .i64 0, .int .i64 0] 44 (0, 0)) from by first | exact (blk_below (g := Ab) (o := .cells #[.int .i64 0, .int .i64 0] 44 (0, 0)) (by (with_reducible repeat (first | refine blk_drewN ?_ _ | refine blk_drew ?_ | refine blk_alloc ?_ _)); exact (Q_BK715 h0_ h1_)) hb))
    clear Ac
    clear Ad
    clear HB
    have Ac := AJ
    have Ad := AK
    have HB := AL
    clear AJ AK AL
    (try clear hb)
    (try clear hb2)
    (try clear hk)
    (try clear hi)
    refine hK.out _ _ ⟨Aa, Ab, m7_, m8_, (by rw [ha.out]; exact putSel_upk 4 hb_ rfl rfl rfl), (bkp Ac), (bkp Ad), (bbw2 HB Ao Ap), Q_NB715_714, Q_NB714_715, z_BK714, Q_GW714, Q_GE714, Q_NB706_714, Q_NB714_706, Q_NB707_714, Q_NB714_707, z_BK715, Q_GW715, Q_GE715, Q_NB706_715, Q_NB715_706, Q_NB707_715, Q_NB715_707, fun h0_ => absurd ((hoff 9 (by kernel_rfl)).symm.trans h0_) (by decide), fun h0_ => absurd ((hoff 10 (by kernel_rfl)).symm.trans h0_) (by decide), Q_X7_, Q_X8_⟩
   refine steps_cons ?_ ?_
   ·rintro b a w' ⟨Aa, Ab, m7_, m8_, ha, Q_BK706, Q_BK707, Q_HB, Q_NB715_714, Q_NB714_715, Q_BK714, Q_GW714, Q_GE714, Q_NB706_714, Q_NB714_706, Q_NB707_714, Q_NB714_707, Q_BK715, Q_GW715, Q_GE715, Q_NB706_715, Q_NB715_706, Q_NB707_715, Q_NB715_707, Q_BK714_e9, Q_BK715_e10, Q_X7_, Q_X8_⟩ hb_ hon hoff
    refine ⟨_, rfl, fun K hK => ?_⟩
    have e2 : a.tmps[2]? = some (.pointer (some ⟨Aq, 0, none⟩)) := by rw [ha]; exact (putSel_off rfl).trans rfl
    replace ha := Aside0.mk ha
    have Ac := Aside0.mk Q_BK706
    have Ad := Aside0.mk Q_BK707
    have HB := Aside0.mk Q_HB
    have hc0_ : w'.cell? ⟨Aq, 0, none⟩ = some (.int .i64 Ar) := bcl Ac 0
    have hc1_ : w'.cell? ⟨Aq, 1, none⟩ = some (.int .i64 As) := bcl Ac 1
    have hc2_ : w'.cell? ⟨Aq, 2, none⟩ = some (.int .i64 At) := bcl Ac 2
    have hc3_ : w'.cell? ⟨Aq, 3, none⟩ = some (.int .i64 Au) := bcl Ac 3
    refine value_ (w1 := w') (v := .agg #[.int .i64 Ar, .int .i64 As, .int .i64 At, .int .i64 Au]) (by rfl) rfl ?_ ?_
    ·go_simp
     (try simp only [i64_w])
     try rfl
    refine hK.out _ _ ⟨Aa, Ab, m7_, m8_, (by rw [ha.out]; exact putSel_upk 5 hb_ rfl rfl rfl), Q_BK706, Q_BK707, Q_HB, Q_NB715_714, Q_NB714_715, Q_BK714, Q_GW714, Q_GE714, Q_NB706_714, Q_NB714_706, Q_NB707_714, Q_NB714_707, Q_BK715, Q_GW715, Q_GE715, Q_NB706_715, Q_NB715_706, Q_NB707_715, Q_NB715_707, fun h0_ => absurd ((hoff 9 (by kernel_rfl)).symm.trans h0_) (by decide), fun h0_ => absurd ((hoff 10 (by kernel_rfl)).symm.trans h0_) (by decide), Q_X7_, Q_X8_⟩
   refine steps_cons ?_ ?_
   ·rintro b a w' ⟨Aa, Ab, m7_, m8_, ha, Q_BK706, Q_BK707, Q_HB, Q_NB715_714, Q_NB714_715, Q_BK714, Q_GW714, Q_GE714, Q_NB706_714, Q_NB714_706, Q_NB707_714, Q_NB714_707, Q_BK715, Q_GW715, Q_GE715, Q_NB706_715, Q_NB715_706, Q_NB707_715, Q_NB715_707, Q_BK714_e9, Q_BK715_e10, Q_X7_, Q_X8_⟩ hb_ hon hoff
    refine ⟨_, rfl, fun K hK => ?_⟩
    have e12 : a.tmps[12]? = some (.agg #[.int .i64 Ar, .int .i64 As, .int .i64 At, .int .i64 Au]) := by rw [ha]; exact putSel_on (e := (5, 12, .agg #[.int .i64 Ar, .int .i64 As, .int .i64 At, .int .i64 Au])) 5 rfl rfl (hon 5 (by kernel_rfl)) rfl
    replace ha := Aside0.mk ha
    have Ac := Aside0.mk Q_BK706
    have Ad := Aside0.mk Q_BK707
    have HB := Aside0.mk Q_HB
    refine goes_ Tryz.func35 (by kernel_rfl) rfl #[.agg #[.int .i64 Ar, .int .i64 As, .int .i64 At, .int .i64 Au]] (by rfl) rfl rfl (by first | (simp only [List.map_toArray, List.map_cons, List.map_nil, Act.eval, Array.getD_eq_getD_getElem?, Option.getD_some, e12]; done) | (simp only [List.map_toArray, List.map_cons, List.map_nil, Act.eval, Array.getD_eq_getD_getElem?, Option.getD_some, e12]; rfl)) ?_
    with_reducible refine (impl_Mat_axis.calls _ _ _ _ _ _ _ _ A5.out).mono ?_
    rintro e BC ⟨rfl, hb⟩
    refine ⟨_, rfl, ?_⟩
    have AJ := bB Ac hb
    have AK := bB Ad hb
    have AL := bS2 HB Ao Ap hb
    have z_BK714 := fun (h0_ : b 7 = true) (h1_ : b 9 = false) => (show BC.heap[Aa]? = some (.cells #[.int .i64 0, .int .i64 0] 44 (0, 0)) from by first | exact (blk_below (g := Aa) (o := .cells #[.int .i64 0, .int .i64 0] 44 (0, 0)) (by (with_reducible repeat (first | refine blk_drewN ?_ _ | refine blk_drew ?_ | refine blk_alloc ?_ _)); exact (Q_BK714 h0_ h1_)) hb))
    have z_BK715 := fun (h0_ : b 8 = true) (h1_ : b 10 = false) => (show BC.heap[Ab]? = some (.cells #[.int .i64 0, .int .i64 0] 44 (0, 0)) from by first | exact (blk_below (g := Ab) (o := .cells #[.int .i64 0, .int .i64 0] 44 (0, 0)) (by (with_reducible repeat (first | refine blk_drewN ?_ _ | refine blk_drew ?_ | refine blk_alloc ?_ _)); exact (Q_BK715 h0_ h1_)) hb))
    clear Ac
    clear Ad
    clear HB
    have Ac := AJ
    have Ad := AK
    have HB := AL
    clear AJ AK AL
    (try clear hb)
    (try clear hb2)
    (try clear hk)
    (try clear hi)
    refine hK.out _ _ ⟨Aa, Ab, m7_, m8_, (by rw [ha.out]; exact putSel_upk 6 hb_ rfl rfl rfl), (bkp Ac), (bkp Ad), (bbw2 HB Ao Ap), Q_NB715_714, Q_NB714_715, z_BK714, Q_GW714, Q_GE714, Q_NB706_714, Q_NB714_706, Q_NB707_714, Q_NB714_707, z_BK715, Q_GW715, Q_GE715, Q_NB706_715, Q_NB715_706, Q_NB707_715, Q_NB715_707, fun h0_ => absurd ((hoff 9 (by kernel_rfl)).symm.trans h0_) (by decide), fun h0_ => absurd ((hoff 10 (by kernel_rfl)).symm.trans h0_) (by decide), Q_X7_, Q_X8_⟩
   refine steps_cons ?_ ?_
   ·rintro b a w' ⟨Aa, Ab, m7_, m8_, ha, Q_BK706, Q_BK707, Q_HB, Q_NB715_714, Q_NB714_715, Q_BK714, Q_GW714, Q_GE714, Q_NB706_714, Q_NB714_706, Q_NB707_714, Q_NB714_707, Q_BK715, Q_GW715, Q_GE715, Q_NB706_715, Q_NB715_706, Q_NB707_715, Q_NB715_707, Q_BK714_e9, Q_BK715_e10, Q_X7_, Q_X8_⟩ hb_ hon hoff
    refine ⟨_, rfl, fun K hK => ?_⟩
    replace ha := Aside0.mk ha
    have Ac := Aside0.mk Q_BK706
    have Ad := Aside0.mk Q_BK707
    have HB := Aside0.mk Q_HB
    refine box_step ?hg (N := 5) ?hd (cs := #[.int .i64 0, .int .i64 0]) (t := 44) ?hr ?_; (case hd => rfl); (case hg => rfl); (case hr => first | (go_simp; done) | (go_simp; rfl))
    intro Aa hg AS hbox hb
    have AJ := bB Ac hb
    have AK := bB Ad hb
    have AL := bS2 HB Ao Ap hb
    have AT := asd (hbox)
    have AU := ngw2 hg HB Ao Ap
    have AV := ngw2 hg HB Ao Ap
    have AW := nlt hg Ac
    have AX := nsy (nlt hg Ac)
    have AY := nlt hg Ad
    have AZ := nsy (nlt hg Ad)
    have z_NB715_714 := fun (h0_ : up b 7 7 = true) (h1_ : up b 7 8 = true) => (show Ab ≠ Aa from ((by rw [hg]; exact Nat.ne_of_lt (by cases hq_ : b 10 with | false => exact blk_lt (g := Ab) (Q_BK715 h1_ hq_) | true => exact blk_lt (g := Ab) (Q_BK715_e10 hq_)) : Ab ≠ Aa)))
    have z_NB714_715 := fun (h0_ : up b 7 7 = true) (h1_ : up b 7 8 = true) => (show Aa ≠ Ab from ((by rw [hg]; exact Nat.ne_of_gt (by cases hq_ : b 10 with | false => exact blk_lt (g := Ab) (Q_BK715 h1_ hq_) | true => exact blk_lt (g := Ab) (Q_BK715_e10 hq_)) : Aa ≠ Ab)))
    have z_BK715 := fun (h0_ : b 8 = true) (h1_ : b 10 = false) => (show AS.heap[Ab]? = some (.cells #[.int .i64 0, .int .i64 0] 44 (0, 0)) from by first | exact (blk_below (g := Ab) (o := .cells #[.int .i64 0, .int .i64 0] 44 (0, 0)) (by (with_reducible repeat (first | refine blk_drewN ?_ _ | refine blk_drew ?_ | refine blk_alloc ?_ _)); exact (Q_BK715 h0_ h1_)) hb))
    clear Ac
    clear Ad
    clear HB
    have Ac := AJ
    have Ad := AK
    have HB := AL
    have Ay := AT
    have AD := AU
    have AA := AV
    have Ae := AW
    have Ak := AX
    have Af := AY
    have Al := AZ
    clear AJ AK AL AT AU AV AW AX AY AZ
    clear hb hbox hg
    refine hK.out _ _ ⟨Aa, Ab, (.pointer (some ⟨Aa, 0, none⟩)), m8_, (by rw [ha.out]; exact putSel_upk 7 hb_ rfl rfl rfl), (bkp Ac), (bkp Ad), (bbw3 HB Ao Ap AA), @z_NB715_714, @z_NB714_715, fun _ _ => (bkp Ay), fun _ => AD.out, fun _ => AA.out, fun _ => Ae.out, fun _ => Ak.out, fun _ => Af.out, fun _ => Al.out, z_BK715, Q_GW715, Q_GE715, Q_NB706_715, Q_NB715_706, Q_NB707_715, Q_NB715_707, fun h0_ => absurd ((hoff 9 (by kernel_rfl)).symm.trans h0_) (by decide), fun h0_ => absurd ((hoff 10 (by kernel_rfl)).symm.trans h0_) (by decide), fun _ => rfl, Q_X8_⟩
   refine steps_cons ?_ ?_
   ·rintro b a w' ⟨Aa, Ab, m7_, m8_, ha, Q_BK706, Q_BK707, Q_HB, Q_NB715_714, Q_NB714_715, Q_BK714, Q_GW714, Q_GE714, Q_NB706_714, Q_NB714_706, Q_NB707_714, Q_NB714_707, Q_BK715, Q_GW715, Q_GE715, Q_NB706_715, Q_NB715_706, Q_NB707_715, Q_NB715_707, Q_BK714_e9, Q_BK715_e10, Q_X7_, Q_X8_⟩ hb_ hon hoff
    refine ⟨_, rfl, fun K hK => ?_⟩
    replace ha := Aside0.mk ha
    have Ac := Aside0.mk Q_BK706
    have Ad := Aside0.mk Q_BK707
    have HB := Aside0.mk Q_HB
    refine box_step ?hg (N := 6) ?hd (cs := #[.int .i64 0, .int .i64 0]) (t := 44) ?hr ?_; (case hd => rfl); (case hg => rfl); (case hr => first | (go_simp; done) | (go_simp; rfl))
    intro Ab hg AS hbox hb
    have AJ := bB Ac hb
    have AK := bB Ad hb
    have AL := bS2 HB Ao Ap hb
    have AT := asd (hbox)
    have AU := ngw2 hg HB Ao Ap
    have AV := ngw2 hg HB Ao Ap
    have AW := nlt hg Ac
    have AX := nsy (nlt hg Ac)
    have AY := nlt hg Ad
    have AZ := nsy (nlt hg Ad)
    have z_NB715_714 := fun (h0_ : up b 8 7 = true) (h1_ : up b 8 8 = true) => (show Ab ≠ Aa from ((by rw [hg]; exact Nat.ne_of_gt (by cases hq_ : b 9 with | false => exact blk_lt (g := Aa) (Q_BK714 h0_ hq_) | true => exact blk_lt (g := Aa) (Q_BK714_e9 hq_)) : Ab ≠ Aa)))
    have z_NB714_715 := fun (h0_ : up b 8 7 = true) (h1_ : up b 8 8 = true) => (show Aa ≠ Ab from ((by rw [hg]; exact Nat.ne_of_lt (by cases hq_ : b 9 with | false => exact blk_lt (g := Aa) (Q_BK714 h0_ hq_) | true => exact blk_lt (g := Aa) (Q_BK714_e9 hq_)) : Aa ≠ Ab)))
    have z_BK714 := fun (h0_ : b 7 = true) (h1_ : b 9 = false) => (show AS.heap[Aa]? = some (.cells #[.int .i64 0, .int .i64 0] 44 (0, 0)) from by first | exact (blk_below (g := Aa) (o := .cells #[.int .i64 0, .int .i64 0] 44 (0, 0)) (by (with_reducible repeat (first | refine blk_drewN ?_ _ | refine blk_drew ?_ | refine blk_alloc ?_ _)); exact (Q_BK714 h0_ h1_)) hb))
    clear Ac
    clear Ad
    clear HB
    have Ac := AJ
    have Ad := AK
    have HB := AL
    have Az := AT
    have AE := AU
    have AB := AV
    have Ag := AW
    have Am := AX
    have Ah := AY
    have An := AZ
    clear AJ AK AL AT AU AV AW AX AY AZ
    clear hb hbox hg
    refine hK.out _ _ ⟨Aa, Ab, m7_, (.pointer (some ⟨Ab, 0, none⟩)), (by rw [ha.out]; exact putSel_upk 8 hb_ rfl rfl rfl), (bkp Ac), (bkp Ad), (bbw3 HB Ao Ap AB), @z_NB715_714, @z_NB714_715, z_BK714, Q_GW714, Q_GE714, Q_NB706_714, Q_NB714_706, Q_NB707_714, Q_NB714_707, fun _ _ => (bkp Az), fun _ => AE.out, fun _ => AB.out, fun _ => Ag.out, fun _ => Am.out, fun _ => Ah.out, fun _ => An.out, fun h0_ => absurd ((hoff 9 (by kernel_rfl)).symm.trans h0_) (by decide), fun h0_ => absurd ((hoff 10 (by kernel_rfl)).symm.trans h0_) (by decide), Q_X7_, fun _ => rfl⟩
   refine steps_cons ?_ ?_
   ·rintro b a w' ⟨Aa, Ab, m7_, m8_, ha, Q_BK706, Q_BK707, Q_HB, Q_NB715_714, Q_NB714_715, Q_BK714, Q_GW714, Q_GE714, Q_NB706_714, Q_NB714_706, Q_NB707_714, Q_NB714_707, Q_BK715, Q_GW715, Q_GE715, Q_NB706_715, Q_NB715_706, Q_NB707_715, Q_NB715_707, Q_BK714_e9, Q_BK715_e10, Q_X7_, Q_X8_⟩ hb_ hon hoff
    refine ⟨_, rfl, fun K hK => ?_⟩
    have e5 : a.tmps[5]? = some (m7_) := by rw [ha]; exact putSel_on (e := (7, 5, m7_)) 7 rfl rfl (hon 7 (by kernel_rfl)) rfl
    rw [Q_X7_ (hon 7 (by kernel_rfl))] at e5
    have e11 : a.tmps[11]? = some (.agg #[.int .i64 AO, .int .i64 AP]) := by rw [ha]; exact putSel_on (e := (4, 11, .agg #[.int .i64 AO, .int .i64 AP])) 4 rfl rfl (hon 4 (by kernel_rfl)) rfl
    replace ha := Aside0.mk ha
    have Ac := Aside0.mk Q_BK706
    have Ad := Aside0.mk Q_BK707
    have HB := Aside0.mk Q_HB
    have Ai := asd (Q_NB715_714 (hon 7 (by kernel_rfl)) (hon 8 (by kernel_rfl)))
    have Aj := asd (Q_NB714_715 (hon 7 (by kernel_rfl)) (hon 8 (by kernel_rfl)))
    have Ay := asd (Q_BK714 (hon 7 (by kernel_rfl)) hb_)
    have AD := asd (Q_GW714 (hon 7 (by kernel_rfl)))
    have AA := asd (Q_GE714 (hon 7 (by kernel_rfl)))
    have Ae := asd (Q_NB706_714 (hon 7 (by kernel_rfl)))
    have Ak := asd (Q_NB714_706 (hon 7 (by kernel_rfl)))
    have Af := asd (Q_NB707_714 (hon 7 (by kernel_rfl)))
    have Al := asd (Q_NB714_707 (hon 7 (by kernel_rfl)))
    have Az := asd (Q_BK715 (hon 8 (by kernel_rfl)) (hoff 10 (by kernel_rfl)))
    have AE := asd (Q_GW715 (hon 8 (by kernel_rfl)))
    have AB := asd (Q_GE715 (hon 8 (by kernel_rfl)))
    have Ag := asd (Q_NB706_715 (hon 8 (by kernel_rfl)))
    have Am := asd (Q_NB715_706 (hon 8 (by kernel_rfl)))
    have Ah := asd (Q_NB707_715 (hon 8 (by kernel_rfl)))
    have An := asd (Q_NB715_707 (hon 8 (by kernel_rfl)))
    have hs17 : w'.cell? ⟨Aa, 0, none⟩ = some (.int .i64 0) := bcl Ay 0
    have hfs17 := blk_frozen Ay.out 0
    have A0 := Ae.out
    have A1 := Af.out
    have A2 := Ai.out
    have A6 := Ak.out
    have A7 := Al.out
    have A8 := Aj.out
    have hs18 : w'.cell? ⟨Aa, 1, none⟩ = some (.int .i64 0) := bcl Ay 1
    have hfs18 := blk_frozen Ay.out 1
    have A9 := Ae.out
    have Ba := Af.out
    have Bb := Ai.out
    have Bc := Ak.out
    have Bd := Al.out
    have Be := Aj.out
    refine skip_ (w1 := ?_) (by rfl) rfl ?_ ?_
    rotate_left
    ·go_simp
     rfl
    refine hK.out _ _ ⟨Aa, Ab, m7_, m8_, (by rw [ha.out]; exact putSel_none (v := undef) rfl), (bq1 Ac Ae), (bq1 Ad Af), (bbw4 HB Ao Ap AA AB), fun _ _ => Ai.out, fun _ _ => Aj.out, fun _ h1_ => absurd ((up_self b 9).symm.trans h1_) (by decide), fun _ => AD.out, fun _ => AA.out, fun _ => Ae.out, fun _ => Ak.out, fun _ => Af.out, fun _ => Al.out, fun _ _ => (bq1 Az Ai), fun _ => AE.out, fun _ => AB.out, fun _ => Ag.out, fun _ => Am.out, fun _ => Ah.out, fun _ => An.out, fun _ => (bq0 Ay), fun h0_ => absurd ((hoff 10 (by kernel_rfl)).symm.trans h0_) (by decide), Q_X7_, Q_X8_⟩
   refine steps_cons ?_ ?_
   ·rintro b a w' ⟨Aa, Ab, m7_, m8_, ha, Q_BK706, Q_BK707, Q_HB, Q_NB715_714, Q_NB714_715, Q_BK714, Q_GW714, Q_GE714, Q_NB706_714, Q_NB714_706, Q_NB707_714, Q_NB714_707, Q_BK715, Q_GW715, Q_GE715, Q_NB706_715, Q_NB715_706, Q_NB707_715, Q_NB715_707, Q_BK714_e9, Q_BK715_e10, Q_X7_, Q_X8_⟩ hb_ hon hoff
    refine ⟨_, rfl, fun K hK => ?_⟩
    have e6 : a.tmps[6]? = some (m8_) := by rw [ha]; exact putSel_on (e := (8, 6, m8_)) 8 rfl rfl (hon 8 (by kernel_rfl)) rfl
    rw [Q_X8_ (hon 8 (by kernel_rfl))] at e6
    have e13 : a.tmps[13]? = some (.agg #[.int .i64 AF, .int .i64 AI]) := by rw [ha]; exact putSel_on (e := (6, 13, .agg #[.int .i64 AF, .int .i64 AI])) 6 rfl rfl (hon 6 (by kernel_rfl)) rfl
    replace ha := Aside0.mk ha
    have Ac := Aside0.mk Q_BK706
    have Ad := Aside0.mk Q_BK707
    have HB := Aside0.mk Q_HB
    have Ai := asd (Q_NB715_714 (hon 7 (by kernel_rfl)) (hon 8 (by kernel_rfl)))
    have Aj := asd (Q_NB714_715 (hon 7 (by kernel_rfl)) (hon 8 (by kernel_rfl)))
    have AD := asd (Q_GW714 (hon 7 (by kernel_rfl)))
    have AA := asd (Q_GE714 (hon 7 (by kernel_rfl)))
    have Ae := asd (Q_NB706_714 (hon 7 (by kernel_rfl)))
    have Ak := asd (Q_NB714_706 (hon 7 (by kernel_rfl)))
    have Af := asd (Q_NB707_714 (hon 7 (by kernel_rfl)))
    have Al := asd (Q_NB714_707 (hon 7 (by kernel_rfl)))
    have Az := asd (Q_BK715 (hon 8 (by kernel_rfl)) hb_)
    have AE := asd (Q_GW715 (hon 8 (by kernel_rfl)))
    have AB := asd (Q_GE715 (hon 8 (by kernel_rfl)))
    have Ag := asd (Q_NB706_715 (hon 8 (by kernel_rfl)))
    have Am := asd (Q_NB715_706 (hon 8 (by kernel_rfl)))
    have Ah := asd (Q_NB707_715 (hon 8 (by kernel_rfl)))
    have An := asd (Q_NB715_707 (hon 8 (by kernel_rfl)))
    have Ay := asd (Q_BK714_e9 (hon 9 (by kernel_rfl)))
    have hs19 : w'.cell? ⟨Ab, 0, none⟩ = some (.int .i64 0) := bcl Az 0
    have hfs19 := blk_frozen Az.out 0
    have Bf := Ag.out
    have Bg := Ah.out
    have Bh := Aj.out
    have Bi := Am.out
    have Bj := An.out
    have Bk := Ai.out
    have hs20 : w'.cell? ⟨Ab, 1, none⟩ = some (.int .i64 0) := bcl Az 1
    have hfs20 := blk_frozen Az.out 1
    have Bl := Ag.out
    have Bm := Ah.out
    have Bn := Aj.out
    have Bo := Am.out
    have Bp := An.out
    have Bq := Ai.out
    refine skip_ (w1 := ?_) (by rfl) rfl ?_ ?_
    rotate_left
    ·go_simp
     rfl
    refine hK.out _ _ ⟨Aa, Ab, m7_, m8_, (by rw [ha.out]; exact putSel_none (v := undef) rfl), (bq1 Ac Ag), (bq1 Ad Ah), (bbw4 HB Ao Ap AA AB), fun _ _ => Ai.out, fun _ _ => Aj.out, fun _ h1_ => absurd ((hon 9 (by kernel_rfl)).symm.trans h1_) (by decide), fun _ => AD.out, fun _ => AA.out, fun _ => Ae.out, fun _ => Ak.out, fun _ => Af.out, fun _ => Al.out, fun _ h1_ => absurd ((up_self b 10).symm.trans h1_) (by decide), fun _ => AE.out, fun _ => AB.out, fun _ => Ag.out, fun _ => Am.out, fun _ => Ah.out, fun _ => An.out, fun _ => (bq1 Ay Aj), fun _ => (bq0 Az), Q_X7_, Q_X8_⟩
   exact steps_nil
  rintro b a BQ hall ⟨Aa, Ab, m7_, m8_, ha, Q_BK706, Q_BK707, Q_HB, Q_NB715_714, Q_NB714_715, Q_BK714, Q_GW714, Q_GE714, Q_NB706_714, Q_NB714_706, Q_NB707_714, Q_NB714_707, Q_BK715, Q_GW715, Q_GE715, Q_NB706_715, Q_NB715_706, Q_NB707_715, Q_NB715_707, Q_BK714_e9, Q_BK715_e10, Q_X7_, Q_X8_⟩
  clear Ac Ad HB
  have hb0_ := hall 0 (by kernel_rfl)
  have hb1_ := hall 1 (by kernel_rfl)
  have hb2_ := hall 2 (by kernel_rfl)
  have hb3_ := hall 3 (by kernel_rfl)
  have hb4_ := hall 4 (by kernel_rfl)
  have hb5_ := hall 5 (by kernel_rfl)
  have hb6_ := hall 6 (by kernel_rfl)
  have hb7_ := hall 7 (by kernel_rfl)
  have hb8_ := hall 8 (by kernel_rfl)
  have hb9_ := hall 9 (by kernel_rfl)
  have hb10_ := hall 10 (by kernel_rfl)
  subst ha
  obtain rfl := Q_X7_ hb7_
  obtain rfl := Q_X8_ hb8_
  simp only [putSel, hb0_, hb1_, hb2_, hb3_, hb4_, hb5_, hb6_, hb7_, hb8_, hb9_, hb10_, if_true, Act.put, sA, sB, sC]
  have Ac := Aside0.mk Q_BK706
  clear Q_BK706
  have Ad := Aside0.mk Q_BK707
  clear Q_BK707
  have HB := Aside0.mk Q_HB
  clear Q_HB
  have Ai := asd (Q_NB715_714 hb7_ hb8_)
  clear Q_NB715_714
  have Aj := asd (Q_NB714_715 hb7_ hb8_)
  clear Q_NB714_715
  clear Q_BK714
  have AD := asd (Q_GW714 hb7_)
  clear Q_GW714
  have AA := asd (Q_GE714 hb7_)
  clear Q_GE714
  have Ae := asd (Q_NB706_714 hb7_)
  clear Q_NB706_714
  have Ak := asd (Q_NB714_706 hb7_)
  clear Q_NB714_706
  have Af := asd (Q_NB707_714 hb7_)
  clear Q_NB707_714
  have Al := asd (Q_NB714_707 hb7_)
  clear Q_NB714_707
  clear Q_BK715
  have AE := asd (Q_GW715 hb8_)
  clear Q_GW715
  have AB := asd (Q_GE715 hb8_)
  clear Q_GE715
  have Ag := asd (Q_NB706_715 hb8_)
  clear Q_NB706_715
  have Am := asd (Q_NB715_706 hb8_)
  clear Q_NB715_706
  have Ah := asd (Q_NB707_715 hb8_)
  clear Q_NB707_715
  have An := asd (Q_NB715_707 hb8_)
  clear Q_NB715_707
  have Ay := asd (Q_BK714_e9 hb9_)
  clear Q_BK714_e9
  have Az := asd (Q_BK715_e10 hb10_)
  clear Q_BK715_e10
  clear hall hb0_ hb1_ hb2_ hb3_ hb4_ hb5_ hb6_ hb7_ hb8_ hb9_ hb10_
  have BD := Am.out
  have BE := Ag.out
  have BF := An.out
  have BG := Ah.out
  have BH := Ai.out
  have BI := Aj.out
  obtain ⟨Br, Bs, Bt, Bu⟩ := bz2 Az
  have BJ := Ak.out
  have BK := Ae.out
  have BL := Al.out
  have BM := Af.out
  obtain ⟨Bv, Bw, Bx, By⟩ := bz2 Ay
  try go_wp2
  go_ret
  exact er (bbw4 HB Ao Ap AA AB)
def impl_Lattice_mayReflect.f (k : Nat) (Av : Int) (Aw : Int) (Ax : Int) (Ag : Int) (Ah : Int) (Ai : Int) (Aj : Int) (Ay : Int) (Az : Int) : Option (Bool) := (impl_Mat_isReflection.f k Ag Ah Ai Aj).bind fun AF => (if AF = true then ((impl_Lattice_basis.f Av Aw Ax).bind fun Ak => ((impl_alongAxis.f k Ag Ah Ai Aj Ay Az).bind fun AK => ((impl_alongAxis.f k Ag Ah Ai Aj Ak.1 Ak.2.1).bind fun AG => ((impl_alongAxis.f k Ag Ah Ai Aj Ak.2.2.1 Ak.2.2.2).bind fun AH => ((impl_gcd.f k AG AH).bind fun AA => (if AA = 0 then (none) else (some ((Int.tmod AK AA) == 0)))))))) else (some false))
def impl_Lattice_mayReflect.T4 : Bool × List (List Nat × List Nat) := (true, [([], []), ([0], [0]), ([], []), ([2], [2]), ([1, 3], [1, 3]), ([], []), ([5], [5]), ([], []), ([6, 7, 4], [6, 7]), ([], []), ([9], [9]), ([], []), ([10, 11, 8], [10, 11]), ([8, 12, 12], [8, 12]), ([4, 13], [4, 13]), ([14], [14]), ([15, 13, 0, 1, 2, 3, 4, 5, 6, 7, 8, 9, 10, 11, 12, 13, 14, 15], [15])])
def impl_Lattice_mayReflect.B4 : List Nat := [0, 1, 0, 4, 15, 0, 32, 0, 255, 0, 512, 0, 4095, 8191, 16383, 32767, 65535]
theorem impl_Lattice_mayReflect.tab4 : rtab .any (opsOf Tryz.f39 4) = impl_Lattice_mayReflect.T4 := by kernel_rfl
theorem impl_Lattice_mayReflect.bits4 : waitsOk impl_Lattice_mayReflect.T4.2 impl_Lattice_mayReflect.B4 = true := by kernel_rfl
theorem impl_Lattice_mayReflect.calls (k : Nat) (Av : Int) (Aw : Int) (Ax : Int) (Ag : Int) (Ah : Int) (Ai : Int) (Aj : Int) (Ay : Int) (Az : Int) (r : Bool) (w : World) (h : impl_Lattice_mayReflect.f k Av Aw Ax Ag Ah Ai Aj Ay Az = some r) :
  Calls Tryz.prog 39 #[.agg #[.int .i64 Av, .int .i64 Aw, .int .i64 Ax], .agg #[.int .i64 Ag, .int .i64 Ah, .int .i64 Ai, .int .i64 Aj, .int .i64 Ay, .int .i64 Az]] w fun e w' => e = .returned (.bool r) ∧ Below w.heap.size w w' := by
 have hu30 := Tryz.underlying30
 have hu46 := Tryz.underlying46
 have hu42 := Tryz.underlying42
 have hu44 := Tryz.underlying44
 have HB := asd (Below.refl w.heap.size w)
 have H : ((impl_Mat_isReflection.f k Ag Ah Ai Aj).bind fun AF => (if AF = true then ((impl_Lattice_basis.f Av Aw Ax).bind fun Ak => ((impl_alongAxis.f k Ag Ah Ai Aj Ay Az).bind fun AK => ((impl_alongAxis.f k Ag Ah Ai Aj Ak.1 Ak.2.1).bind fun AG => ((impl_alongAxis.f k Ag Ah Ai Aj Ak.2.2.1 Ak.2.2.2).bind fun AH => ((impl_gcd.f k AG AH).bind fun AA => (if AA = 0 then (none) else (some ((Int.tmod AK AA) == 0)))))))) else (some false))) = some r := h
 clear h
 obtain ⟨AF, A3, H⟩ := ob H
 try dsimp only at H
 by_cases c4 : AF = true
 ·subst c4
  replace H := ifT H
  obtain ⟨⟨AN, AO, AP, AQ⟩, A5, H⟩ := ob H
  try dsimp only at H
  obtain ⟨AK, A6, H⟩ := ob H
  try dsimp only at H
  obtain ⟨AG, A7, H⟩ := ob H
  try dsimp only at H
  obtain ⟨AH, A8, H⟩ := ob H
  try dsimp only at H
  obtain ⟨AA, A9, H⟩ := ob H
  try dsimp only at H
  by_cases c10 : AA = 0
  ·rw [if_pos c10] at H
   exact absurd H (by simp)
  ·rw [if_neg c10] at H
   have BA : (AA == 0) = false := beq_eq_false_iff_ne.mpr c10
   have BB : (AA != 0) = true := bne_iff_ne.mpr c10
   obtain rfl := Option.some.inj H
   go_enter Tryz.func39, Tryz.ntmps39
   try go_wp2_with (first | ((with_reducible refine gd 2 rfl ?_); refine bx #[.int .i64 Av, .int .i64 Aw, .int .i64 Ax] 30 ?_; intro AL hg BR Aa hb; have Ad := ngw0 hg HB; replace HB := bS0 HB hb; clear hb hg) | ((with_reducible refine gd 3 rfl ?_); refine bx #[.int .i64 Ag, .int .i64 Ah, .int .i64 Ai, .int .i64 Aj, .int .i64 Ay, .int .i64 Az] 46 ?_; intro AM hg w12 Ab hb; have Af := ngw1 hg HB Ad; replace HB := bS1 HB Ad hb; have Al := nlt hg Aa; have Am := nsy (nlt hg Aa); replace Aa := bB Aa hb; clear hb hg; have BC := Am.out; have BD := Al.out; obtain ⟨AS, AT, AU, AV, AW, AX, AY, AZ, A0, A1, A2, A4⟩ := bz6 Ab) | ((with_reducible refine gate_callee (f := 70) rfl ?_); refine gl 9 Tryz.func70 #[.agg #[.int .i64 Ag, .int .i64 Ah, .int .i64 Ai, .int .i64 Aj]] ?_; (with_reducible refine (impl_Mat_isReflection.calls _ _ _ _ _ _ _ A3.out).mono ?_); rintro e BS ⟨rfl, hb⟩; refine ⟨_, rfl, ?_⟩; replace Aa := bB Aa hb; replace Ab := bB Ab hb; replace HB := bS2 HB Ad Af hb; (try clear hb); obtain ⟨Ba, Bb, Bc, Bd, Be, Bf⟩ := bz3 Aa) | ((with_reducible refine gate_callee (f := 71) rfl ?_); refine gl 13 Tryz.func71 #[.agg #[.int .i64 Av, .int .i64 Aw, .int .i64 Ax]] ?_; (with_reducible refine (impl_Lattice_basis.calls _ _ _ _ _ _ _ _ A5.out).mono ?_); rintro e BT ⟨rfl, hb⟩; refine ⟨_, rfl, ?_⟩; replace Aa := bB Aa hb; replace Ab := bB Ab hb; replace HB := bS2 HB Ad Af hb; (try clear hb)) | ((with_reducible refine gd 5 rfl ?_); refine bx #[.int .i64 0, .int .i64 0] 44 ?_; intro AI hg BU Ac hb; have An := ngw2 hg HB Ad Af; replace HB := bS2 HB Ad Af hb; have Ao := nlt hg Aa; have AB := nsy (nlt hg Aa); replace Aa := bB Aa hb; have Ap := nlt hg Ab; have AC := nsy (nlt hg Ab); replace Ab := bB Ab hb; clear hb hg) | ((with_reducible refine gd 6 rfl ?_); refine bx #[.int .i64 0, .int .i64 0] 44 ?_; intro AJ hg BQ Ae hb; have Aq := ngw3 hg HB Ad Af An; replace HB := bS3 HB Ad Af An hb; have Ar := nlt hg Aa; have AD := nsy (nlt hg Aa); replace Aa := bB Aa hb; have As := nlt hg Ab; have AE := nsy (nlt hg Ab); replace Ab := bB Ab hb; have At := nlt hg Ac; have Au := nsy (nlt hg Ac); replace Ac := bB Ac hb; clear hb hg; have BE := AB.out; have BF := Ao.out; have BG := AC.out; have BH := Ap.out; have BI := At.out; have BJ := Au.out; obtain ⟨Bg, Bh, Bi, Bj⟩ := bz2 Ac; have BK := AD.out; have BL := Ar.out; have BM := AE.out; have BN := As.out; obtain ⟨Bk, Bl, Bm, Bn⟩ := bz2 Ae))
   obtain ⟨AR, h_w27⟩ : ∃ w_, ((((BQ.setCell ⟨AI, 0, none⟩ (.int .i64 AN)).setCell ⟨AI, 1, none⟩ (.int .i64 AO)).setCell ⟨AJ, 0, none⟩ (.int .i64 AP)).setCell ⟨AJ, 1, none⟩ (.int .i64 AQ)) = w_ := ⟨_, rfl⟩
   replace Aa : Aside0 (AR.heap[AL]? = some (.cells #[.int .i64 Av, .int .i64 Aw, .int .i64 Ax] 30 (0, 0))) := by rw [← h_w27]; exact ⟨bq2 Aa Ar Ao⟩
   replace Ab : Aside0 (AR.heap[AM]? = some (.cells #[.int .i64 Ag, .int .i64 Ah, .int .i64 Ai, .int .i64 Aj, .int .i64 Ay, .int .i64 Az] 46 (0, 0))) := by rw [← h_w27]; exact ⟨bq2 Ab As Ap⟩
   replace Ac : Aside0 (AR.heap[AI]? = some (.cells #[.int .i64 AN, .int .i64 AO] 44 (0, 0))) := by rw [← h_w27]; exact ⟨bq1 Ac At⟩
   replace Ae : Aside0 (AR.heap[AJ]? = some (.cells #[.int .i64 AP, .int .i64 AQ] 44 (0, 0))) := by rw [← h_w27]; exact ⟨bq1 Ae Au⟩
   replace HB : Aside0 (Below w.heap.size w AR) := by rw [← h_w27]; exact ⟨bbw4 HB Ad Af An Aq⟩
   (try rw [h_w27]); clear h_w27
   replace Aa := asd (blk_drew Aa.out)
   replace Ab := asd (blk_drew Ab.out)
   replace Ac := asd (blk_drew Ac.out)
   replace Ae := asd (blk_drew Ae.out)
   replace HB := asd (below_drew1 HB.out)
   refine sh 17 (cb6 Ab (cb2 Ac (eb2 Ae))) (fun hHeld => ?_); refine with_tabW impl_Lattice_mayReflect.tab4 impl_Lattice_mayReflect.bits4 (fun HT_ HW_ => ?_)
   generalize AR.drew = BV at Aa Ab Ac Ae HB hHeld ⊢
   refine pu 0 (some 16) (bT 17 1) HT_ ?_
   refine pu 2 (some 18) (bs 17 5) HT_ ?_
   refine pu 5 (some 21) (bs 17 37) HT_ ?_
   refine pu 9 (some 25) (bs 17 549) HT_ ?_
   refine ta 1 (some 17) (bs 17 551) HT_ HW_ hHeld ?_
   refine ta 3 (some 19) (bs 17 559) HT_ HW_ hHeld ?_
   refine ta 6 (some 22) (bs 17 623) HT_ HW_ hHeld ?_
   refine ta 7 (some 23) (bs 17 751) HT_ HW_ hHeld ?_
   refine ta 10 (some 26) (bs 17 1775) HT_ HW_ hHeld ?_
   refine ta 11 (some 27) (bs 17 3823) HT_ HW_ hHeld ?_
   refine ro 4 (some 20) (bs 17 3839) HT_ (fun K hK => ?_)
   refine gs Tryz.func72 #[.agg #[.int .i64 Ag, .int .i64 Ah, .int .i64 Ai, .int .i64 Aj], .agg #[.int .i64 Ay, .int .i64 Az]] ?_
   with_reducible refine (impl_alongAxis.calls _ _ _ _ _ _ _ _ _ A6.out).mono ?_
   rintro e BW ⟨rfl, hb⟩
   refine ⟨_, rfl, ?_⟩
   replace Aa := bB Aa hb
   replace Ab := bB Ab hb
   replace Ac := bB Ac hb
   replace Ae := bB Ae hb
   replace HB := bS4 HB Ad Af An Aq hb
   (try clear hb)
   (try clear hb2)
   (try clear hk)
   (try clear hi)
   refine hK.out _ _ (cb6 Ab (cb2 Ac (eb2 Ae))).out (fun hHeld => ?_)
   clear hK K
   refine norm_ (a' := ?_) ?_ ?_
   rotate_left
   ·show Act.put _ (some 20) _ = _
    simp only [Act.put, sA, sB, sC, i64_w, i32_w]
    rfl
   refine ro 8 (some 24) (bT 17 12) HT_ (fun K hK => ?_)
   refine gs Tryz.func72 #[.agg #[.int .i64 Ag, .int .i64 Ah, .int .i64 Ai, .int .i64 Aj], .agg #[.int .i64 AN, .int .i64 AO]] ?_
   with_reducible refine (impl_alongAxis.calls _ _ _ _ _ _ _ _ _ A7.out).mono ?_
   rintro e BX ⟨rfl, hb⟩
   refine ⟨_, rfl, ?_⟩
   replace Aa := bB Aa hb
   replace Ab := bB Ab hb
   replace Ac := bB Ac hb
   replace Ae := bB Ae hb
   replace HB := bS4 HB Ad Af An Aq hb
   (try clear hb)
   (try clear hb2)
   (try clear hk)
   (try clear hi)
   refine hK.out _ _ (cb6 Ab (cb2 Ac (eb2 Ae))).out (fun hHeld => ?_)
   clear hK K
   refine norm_ (a' := ?_) ?_ ?_
   rotate_left
   ·show Act.put _ (some 24) _ = _
    simp only [Act.put, sA, sB, sC, i64_w, i32_w]
    rfl
   refine ro 12 (some 28) (bT 17 13) HT_ (fun K hK => ?_)
   refine gs Tryz.func72 #[.agg #[.int .i64 Ag, .int .i64 Ah, .int .i64 Ai, .int .i64 Aj], .agg #[.int .i64 AP, .int .i64 AQ]] ?_
   with_reducible refine (impl_alongAxis.calls _ _ _ _ _ _ _ _ _ A8.out).mono ?_
   rintro e BY ⟨rfl, hb⟩
   refine ⟨_, rfl, ?_⟩
   replace Aa := bB Aa hb
   replace Ab := bB Ab hb
   replace Ac := bB Ac hb
   replace Ae := bB Ae hb
   replace HB := bS4 HB Ad Af An Aq hb
   (try clear hb)
   (try clear hb2)
   (try clear hk)
   (try clear hi)
   refine hK.out _ _ (cb6 Ab (cb2 Ac (eb2 Ae))).out (fun hHeld => ?_)
   clear hK K
   refine norm_ (a' := ?_) ?_ ?_
   rotate_left
   ·show Act.put _ (some 28) _ = _
    simp only [Act.put, sA, sB, sC, i64_w, i32_w]
    rfl
   refine ro 13 (some 29) (bT 17 14) HT_ (fun K hK => ?_)
   refine gs Tryz.func73 #[.int .i64 AG, .int .i64 AH] ?_
   with_reducible refine (impl_gcd.calls _ _ _ _ _ A9.out).mono ?_
   rintro e BZ ⟨rfl, hb⟩
   refine ⟨_, rfl, ?_⟩
   replace Aa := bB Aa hb
   replace Ab := bB Ab hb
   replace Ac := bB Ac hb
   replace Ae := bB Ae hb
   replace HB := bS4 HB Ad Af An Aq hb
   (try clear hb)
   (try clear hb2)
   (try clear hk)
   (try clear hi)
   refine hK.out _ _ (cb6 Ab (cb2 Ac (eb2 Ae))).out (fun hHeld => ?_)
   clear hK K
   refine norm_ (a' := ?_) ?_ ?_
   rotate_left
   ·show Act.put _ (some 29) _ = _
    simp only [Act.put, sA, sB, sC, i64_w, i32_w]
    rfl
   refine pu 14 (some 30) (bT 17 15) HT_ ?_
   refine pu 15 (some 31) (bT 17 16) HT_ ?_
   refine pu 16 (some 4) (bT 17 17) HT_ ?_
   refine done_ (done_of HT_.out (by kernel_rfl)) ?_
   try go_wp2
   go_ret
   exact er (bbw4 HB Ad Af An Aq)
 ·replace c4 := Bool.eq_false_iff.mpr c4
  subst c4
  replace H := ifF H
  obtain rfl := Option.some.inj H
  go_enter Tryz.func39, Tryz.ntmps39
  go_wp2_with (first | ((with_reducible refine gd 2 rfl ?_); refine bx #[.int .i64 Av, .int .i64 Aw, .int .i64 Ax] 30 ?_; intro AL hg B0 Aa hb; have Ad := ngw0 hg HB; replace HB := bS0 HB hb; clear hb hg) | ((with_reducible refine gd 3 rfl ?_); refine bx #[.int .i64 Ag, .int .i64 Ah, .int .i64 Ai, .int .i64 Aj, .int .i64 Ay, .int .i64 Az] 46 ?_; intro AM hg B3 Ab hb; have Af := ngw1 hg HB Ad; replace HB := bS1 HB Ad hb; have Al := nlt hg Aa; have Am := nsy (nlt hg Aa); replace Aa := bB Aa hb; clear hb hg; have BO := Am.out; have BP := Al.out; obtain ⟨Bo, Bp, Bq, Br, Bs, Bt, Bu, Bv, Bw, Bx, By, Bz⟩ := bz6 Ab) | ((with_reducible refine gate_callee (f := 70) rfl ?_); refine gl 9 Tryz.func70 #[.agg #[.int .i64 Ag, .int .i64 Ah, .int .i64 Ai, .int .i64 Aj]] ?_; (with_reducible refine (impl_Mat_isReflection.calls _ _ _ _ _ _ _ A3.out).mono ?_); rintro e B8 ⟨rfl, hb⟩; refine ⟨_, rfl, ?_⟩; replace Aa := bB Aa hb; replace Ab := bB Ab hb; replace HB := bS2 HB Ad Af hb; (try clear hb)))
  go_ret
  exact er (bbw2 HB Ad Af)
def impl_det.f (Ab : Int) (Ac : Int) (Ad : Int) (Ae : Int) : Option (Int) := some (wrap64 ((wrap64 (Ab * Ae)) - (wrap64 (Ac * Ad))))
theorem impl_det.calls (Ab : Int) (Ac : Int) (Ad : Int) (Ae : Int) (r : Int) (w : World) (h : impl_det.f Ab Ac Ad Ae = some r) :
  Calls Tryz.prog 74 #[.agg #[.int .i64 Ab, .int .i64 Ac], .agg #[.int .i64 Ad, .int .i64 Ae]] w fun e w' => e = .returned (.int .i64 r) ∧ Below w.heap.size w w' := by
 have hu44 := Tryz.underlying44
 have HB := asd (Below.refl w.heap.size w)
 have H : (some (wrap64 ((wrap64 (Ab * Ae)) - (wrap64 (Ac * Ad))))) = some r := h
 clear h
 obtain rfl := Option.some.inj H
 go_enter Tryz.func74, Tryz.ntmps74
 go_wp2_with (first | ((with_reducible refine gd 2 rfl ?_); refine bx #[.int .i64 Ab, .int .i64 Ac] 44 ?_; intro As hg w3 Aa hb; have Ah := ngw0 hg HB; replace HB := bS0 HB hb; clear hb hg) | ((with_reducible refine gd 3 rfl ?_); refine bx #[.int .i64 Ad, .int .i64 Ae] 44 ?_; intro At hg w4 Ai hb; have Aj := ngw1 hg HB Ah; replace HB := bS1 HB Ah hb; have Af := nlt hg Aa; have Ag := nsy (nlt hg Aa); replace Aa := bB Aa hb; clear hb hg; have Au := Af.out; have Av := Ag.out; obtain ⟨Ak, Al, Am, An⟩ := bz2 Aa; obtain ⟨Ao, Ap, Aq, Ar⟩ := bz2 Ai))
 go_ret
 exact er (bbw2 HB Ah Aj)
def impl_Mat_negative.f (Ab : Int) (Ac : Int) (Ad : Int) (Ae : Int) : Option (Int × Int × Int × Int) := some (wrap64 (-Ab), wrap64 (-Ac), wrap64 (-Ad), wrap64 (-Ae))
theorem impl_Mat_negative.calls (Ab : Int) (Ac : Int) (Ad : Int) (Ae : Int) (r1 : Int) (r2 : Int) (r3 : Int) (r4 : Int) (w : World) (h : impl_Mat_negative.f Ab Ac Ad Ae = some (r1, r2, r3, r4)) :
  Calls Tryz.prog 75 #[.agg #[.int .i64 Ab, .int .i64 Ac, .int .i64 Ad, .int .i64 Ae]] w fun e w' => e = .returned (.agg #[.int .i64 r1, .int .i64 r2, .int .i64 r3, .int .i64 r4]) ∧ Below w.heap.size w w' := by
 have hu42 := Tryz.underlying42
 have HB := asd (Below.refl w.heap.size w)
 have H : (some (wrap64 (-Ab), wrap64 (-Ac), wrap64 (-Ad), wrap64 (-Ae))) = some (r1, r2, r3, r4) := h
 clear h
 simp only [Option.some.injEq, Prod.mk.injEq] at H
 obtain ⟨rfl, rfl, rfl, rfl⟩ := H
 go_enter Tryz.func75, Tryz.ntmps75
 go_wp2_with (first | ((with_reducible refine gd 1 rfl ?_); refine bx #[.int .i64 Ab, .int .i64 Ac, .int .i64 Ad, .int .i64 Ae] 42 ?_; intro AB hg w2 Aa hb; have Ah := ngw0 hg HB; replace HB := bS0 HB hb; clear hb hg) | ((with_reducible refine gd 2 rfl ?_); refine bx #[.int .i64 0, .int .i64 0, .int .i64 0, .int .i64 0] 42 ?_; intro Aj hg w3 Ai hb; have Ak := ngw1 hg HB Ah; replace HB := bS1 HB Ah hb; have Af := nlt hg Aa; have Ag := nsy (nlt hg Aa); replace Aa := bB Aa hb; clear hb hg; have AC := Af.out; have AD := Ag.out; obtain ⟨Al, Am, An, Ao, Ap, Aq, Ar, As⟩ := bz4 Aa; obtain ⟨At, Au, Av, Aw, Ax, Ay, Az, AA⟩ := bz4 Ai))
 refine bodyPost_ret (results_cell_row rfl _ _ Aj 42 #[.int .i64 (wrap64 (-Ab)), .int .i64 (wrap64 (-Ac)), .int .i64 (wrap64 (-Ad)), .int .i64 (wrap64 (-Ae))] (0, 0) _ rfl (bq0 Ai) Tryz.underlying42 rfl (by kernel_rfl)) rfl ?_
 exact er (bbw2 HB Ah Ak)
def impl_Lattice_isCentred.f (k : Nat) (Ad : Int) (Ae : Int) (Af : Int) (Aj : Int) (Ak : Int) (Al : Int) (Am : Int) : Option (Bool) := (impl_Mat_axis.f k Aj Ak Al Am).bind fun Ao => ((impl_Lattice_multipleIn.f k Ad Ae Af Ao.1 Ao.2).bind fun Ap => ((impl_Mat_negative.f Aj Ak Al Am).bind fun Ag => ((impl_Mat_axis.f k Ag.1 Ag.2.1 Ag.2.2.1 Ag.2.2.2).bind fun Aq => ((impl_Lattice_multipleIn.f k Ad Ae Af Aq.1 Aq.2).bind fun Ar => ((impl_det.f Ap.1 Ap.2 Ar.1 Ar.2).bind fun Ai => ((impl_Lattice_index.f Ad Ae Af).bind fun As => (some ((mx Ai (wrap64 (-Ai))) != As))))))))
def impl_Lattice_isCentred.T1 : Bool × List (List Nat × List Nat) := (true, [([], []), ([], []), ([1], [1]), ([0, 2, 2], [0, 2]), ([], []), ([], []), ([5, 3], [5]), ([6, 6], [6]), ([4, 7, 7], [4, 7]), ([3, 8, 8], [3, 8]), ([9, 9, 0, 1, 2, 3, 4, 5, 6, 7, 8, 9], [9])])
def impl_Lattice_isCentred.B1 : List Nat := [0, 0, 2, 7, 0, 0, 47, 111, 255, 511, 1023]
theorem impl_Lattice_isCentred.tab1 : rtab .any (opsOf Tryz.f40 1) = impl_Lattice_isCentred.T1 := by kernel_rfl
theorem impl_Lattice_isCentred.bits1 : waitsOk impl_Lattice_isCentred.T1.2 impl_Lattice_isCentred.B1 = true := by kernel_rfl
theorem impl_Lattice_isCentred.calls (k : Nat) (Ad : Int) (Ae : Int) (Af : Int) (Aj : Int) (Ak : Int) (Al : Int) (Am : Int) (r : Bool) (w : World) (h : impl_Lattice_isCentred.f k Ad Ae Af Aj Ak Al Am = some r) :
  Calls Tryz.prog 40 #[.agg #[.int .i64 Ad, .int .i64 Ae, .int .i64 Af], .agg #[.int .i64 Aj, .int .i64 Ak, .int .i64 Al, .int .i64 Am]] w fun e w' => e = .returned (.bool r) ∧ Below w.heap.size w w' := by
 have hu30 := Tryz.underlying30
 have hu42 := Tryz.underlying42
 have HB := asd (Below.refl w.heap.size w)
 have H : ((impl_Mat_axis.f k Aj Ak Al Am).bind fun Ao => ((impl_Lattice_multipleIn.f k Ad Ae Af Ao.1 Ao.2).bind fun Ap => ((impl_Mat_negative.f Aj Ak Al Am).bind fun Ag => ((impl_Mat_axis.f k Ag.1 Ag.2.1 Ag.2.2.1 Ag.2.2.2).bind fun Aq => ((impl_Lattice_multipleIn.f k Ad Ae Af Aq.1 Aq.2).bind fun Ar => ((impl_det.f Ap.1 Ap.2 Ar.1 Ar.2).bind fun Ai => ((impl_Lattice_index.f Ad Ae Af).bind fun As => (some ((mx Ai (wrap64 (-Ai))) != As))))))))) = some r := h
 clear h
 obtain ⟨⟨AB, AC⟩, A3, H⟩ := ob H
 try dsimp only at H
 obtain ⟨⟨AD, AE⟩, A4, H⟩ := ob H
 try dsimp only at H
 obtain ⟨⟨AF, AG, AH, AI⟩, A5, H⟩ := ob H
 try dsimp only at H
 obtain ⟨⟨AJ, AK⟩, A6, H⟩ := ob H
 try dsimp only at H
 obtain ⟨⟨AL, AM⟩, A7, H⟩ := ob H
 try dsimp only at H
 obtain ⟨Ai, A8, H⟩ := ob H
 try dsimp only at H
 obtain ⟨AN, An⟩ : ∃ j_ : Int, (mx Ai (wrap64 (-Ai))) = j_ := ⟨_, rfl⟩
 replace H : ((impl_Lattice_index.f Ad Ae Af).bind fun As => (some ((AN) != As))) = some r := by first | (rw [An] at H; first | done | exact H) | (simp only [An] at H ⊢; exact H)
 (try rw [An] at A3)
 (try rw [An] at A4)
 (try rw [An] at A5)
 (try rw [An] at A6)
 (try rw [An] at A7)
 (try rw [An] at A8)
 have AO : (if Ai < (wrap64 (-Ai)) then (wrap64 (-Ai)) else Ai) = AN := An
 obtain ⟨As, AT, H⟩ := ob H
 try dsimp only at H
 obtain rfl := Option.some.inj H
 go_enter Tryz.func40, Tryz.ntmps40
 try go_wp2_with (first | ((with_reducible refine gd 2 rfl ?_); refine bx #[.int .i64 Ad, .int .i64 Ae, .int .i64 Af] 30 ?_; intro AP hg AU Aa hb; have Ac := ngw0 hg HB; replace HB := bS0 HB hb; clear hb hg) | ((with_reducible refine gd 3 rfl ?_); refine bx #[.int .i64 Aj, .int .i64 Ak, .int .i64 Al, .int .i64 Am] 42 ?_; intro AQ hg w12 Ab hb; have Ah := ngw1 hg HB Ac; replace HB := bS1 HB Ac hb; have At := nlt hg Aa; have Au := nsy (nlt hg Aa); replace Aa := bB Aa hb; clear hb hg))
 replace Aa := asd (blk_drew Aa.out)
 replace Ab := asd (blk_drew Ab.out)
 replace HB := asd (below_drew1 HB.out)
 refine sh 11 (cb3 Aa (eb4 Ab)) (fun hHeld => ?_); refine with_tabW impl_Lattice_isCentred.tab1 impl_Lattice_isCentred.bits1 (fun HT_ HW_ => ?_)
 generalize w12.drew = AV at Aa Ab HB hHeld ⊢
 refine ta 0 (some 6) (bT 11 1) HT_ HW_ hHeld ?_
 refine ta 1 (some 7) (bT 11 2) HT_ HW_ hHeld ?_
 refine ta 4 (some 10) (bs 11 19) HT_ HW_ hHeld ?_
 refine ta 5 (some 11) (bs 11 51) HT_ HW_ hHeld ?_
 refine ro 2 (some 8) (bs 11 55) HT_ (fun K hK => ?_)
 refine gs Tryz.func35 #[.agg #[.int .i64 Aj, .int .i64 Ak, .int .i64 Al, .int .i64 Am]] ?_
 with_reducible refine (impl_Mat_axis.calls _ _ _ _ _ _ _ _ A3.out).mono ?_
 rintro e AW ⟨rfl, hb⟩
 refine ⟨_, rfl, ?_⟩
 replace Aa := bB Aa hb
 replace Ab := bB Ab hb
 replace HB := bS2 HB Ac Ah hb
 (try clear hb)
 (try clear hb2)
 (try clear hk)
 (try clear hi)
 refine hK.out _ _ (cb3 Aa (eb4 Ab)).out (fun hHeld => ?_)
 clear hK K
 refine norm_ (a' := ?_) ?_ ?_
 rotate_left
 ·show Act.put _ (some 8) _ = _
  simp only [Act.put, sA, sB, sC, i64_w, i32_w]
  rfl
 refine ro 3 (some 9) (bT 11 6) HT_ (fun K hK => ?_)
 refine gs Tryz.func34 #[.agg #[.int .i64 Ad, .int .i64 Ae, .int .i64 Af], .agg #[.int .i64 AB, .int .i64 AC]] ?_
 with_reducible refine (impl_Lattice_multipleIn.calls _ _ _ _ _ _ _ _ _ A4.out).mono ?_
 rintro e AX ⟨rfl, hb⟩
 refine ⟨_, rfl, ?_⟩
 replace Aa := bB Aa hb
 replace Ab := bB Ab hb
 replace HB := bS2 HB Ac Ah hb
 (try clear hb)
 (try clear hb2)
 (try clear hk)
 (try clear hi)
 refine hK.out _ _ (cb3 Aa (eb4 Ab)).out (fun hHeld => ?_)
 clear hK K
 refine norm_ (a' := ?_) ?_ ?_
 rotate_left
 ·show Act.put _ (some 9) _ = _
  simp only [Act.put, sA, sB, sC, i64_w, i32_w]
  rfl
 refine ro 6 (some 12) (bT 11 7) HT_ (fun K hK => ?_)
 refine gs Tryz.func75 #[.agg #[.int .i64 Aj, .int .i64 Ak, .int .i64 Al, .int .i64 Am]] ?_
 with_reducible refine (impl_Mat_negative.calls _ _ _ _ _ _ _ _ _ A5.out).mono ?_
 rintro e AY ⟨rfl, hb⟩
 refine ⟨_, rfl, ?_⟩
 replace Aa := bB Aa hb
 replace Ab := bB Ab hb
 replace HB := bS2 HB Ac Ah hb
 (try clear hb)
 (try clear hb2)
 (try clear hk)
 (try clear hi)
 refine hK.out _ _ (cb3 Aa (eb4 Ab)).out (fun hHeld => ?_)
 clear hK K
 refine norm_ (a' := ?_) ?_ ?_
 rotate_left
 ·show Act.put _ (some 12) _ = _
  simp only [Act.put, sA, sB, sC, i64_w, i32_w]
  rfl
 refine ro 7 (some 13) (bT 11 8) HT_ (fun K hK => ?_)
 refine gs Tryz.func35 #[.agg #[.int .i64 AF, .int .i64 AG, .int .i64 AH, .int .i64 AI]] ?_
 with_reducible refine (impl_Mat_axis.calls _ _ _ _ _ _ _ _ A6.out).mono ?_
 rintro e AZ ⟨rfl, hb⟩
 refine ⟨_, rfl, ?_⟩
 replace Aa := bB Aa hb
 replace Ab := bB Ab hb
 replace HB := bS2 HB Ac Ah hb
 (try clear hb)
 (try clear hb2)
 (try clear hk)
 (try clear hi)
 refine hK.out _ _ (cb3 Aa (eb4 Ab)).out (fun hHeld => ?_)
 clear hK K
 refine norm_ (a' := ?_) ?_ ?_
 rotate_left
 ·show Act.put _ (some 13) _ = _
  simp only [Act.put, sA, sB, sC, i64_w, i32_w]
  rfl
 refine ro 8 (some 14) (bT 11 9) HT_ (fun K hK => ?_)
 refine gs Tryz.func34 #[.agg #[.int .i64 Ad, .int .i64 Ae, .int .i64 Af], .agg #[.int .i64 AJ, .int .i64 AK]] ?_
 with_reducible refine (impl_Lattice_multipleIn.calls _ _ _ _ _ _ _ _ _ A7.out).mono ?_
 rintro e A0 ⟨rfl, hb⟩
 refine ⟨_, rfl, ?_⟩
 replace Aa := bB Aa hb
 replace Ab := bB Ab hb
 replace HB := bS2 HB Ac Ah hb
 (try clear hb)
 (try clear hb2)
 (try clear hk)
 (try clear hi)
 refine hK.out _ _ (cb3 Aa (eb4 Ab)).out (fun hHeld => ?_)
 clear hK K
 refine norm_ (a' := ?_) ?_ ?_
 rotate_left
 ·show Act.put _ (some 14) _ = _
  simp only [Act.put, sA, sB, sC, i64_w, i32_w]
  rfl
 refine ro 9 (some 15) (bT 11 10) HT_ (fun K hK => ?_)
 refine gs Tryz.func74 #[.agg #[.int .i64 AD, .int .i64 AE], .agg #[.int .i64 AL, .int .i64 AM]] ?_
 with_reducible refine (impl_det.calls _ _ _ _ _ _ A8.out).mono ?_
 rintro e A1 ⟨rfl, hb⟩
 refine ⟨_, rfl, ?_⟩
 replace Aa := bB Aa hb
 replace Ab := bB Ab hb
 replace HB := bS2 HB Ac Ah hb
 (try clear hb)
 (try clear hb2)
 (try clear hk)
 (try clear hi)
 refine hK.out _ _ (cb3 Aa (eb4 Ab)).out (fun hHeld => ?_)
 clear hK K
 refine norm_ (a' := ?_) ?_ ?_
 rotate_left
 ·show Act.put _ (some 15) _ = _
  simp only [Act.put, sA, sB, sC, i64_w, i32_w]
  rfl
 refine pu 10 (some 5) (bT 11 11) HT_ ?_
 refine done_ (done_of HT_.out (by kernel_rfl)) ?_
 have AR := At.out
 have AS := Au.out
 obtain ⟨Av, Aw, Ax, Ay, Az, AA⟩ := bz3 Aa
 try go_wp2_with (first | ((with_reducible refine gate_callee (f := 76) rfl ?_); refine gl 21 Tryz.func76 #[.agg #[.int .i64 Ad, .int .i64 Ae, .int .i64 Af]] ?_; (with_reducible refine (impl_Lattice_index.calls _ _ _ _ _ AT.out).mono ?_); rintro e A2 ⟨rfl, hb⟩; refine ⟨_, rfl, ?_⟩; replace Aa := bB Aa hb; replace Ab := bB Ab hb; replace HB := bS2 HB Ac Ah hb; (try clear hb)))
 go_ret
 exact ⟨by first | rfl | (simp [errW_none, errW_some] <;> rfl) | (simp only [← An]; first | rfl | (simp [errW_none, errW_some] <;> rfl)) | (simp [*, errW_none, errW_some] <;> rfl), bbw2 HB Ac Ah⟩
end Go.Proofs.YtfmjboloeabjmaaGreat.PA
