/- Walks written by program: each Go function that the law reaches comes to the plain function beside it. -/
import Derived.Test.YtkjdndikgekidaaDoorPAx0
import Derived.Test.YtkjdndikgekidaaDoorPAx1
import Derived.Test.YtkjdndikgekidaaDoorPAx2
namespace Go.Proofs.YtkjdndikgekidaaDoor.PA
open Go.RowKit Go.Proofs.YtkjdndikgekidaaDoorW.PrintWords Go.Proofs.YtkjdndikgekidaaDoorW.PrintLast Go.Proofs.YtkjdndikgekidaaDoorW.PrintMore
attribute [local go_sem] max2_int min2_int max_two min_two max_three min_three max_four min_four   -- for this text's walks alone
set_option linter.unusedVariables false
set_option linter.unusedSimpArgs false

/-! ### laws_FnExactPatternText: function 6 -/
def laws_FnExactPatternText.j0 : Nat → Bool → Int → Int → Int → Int → List Int → Int → Int → Int → Int → List Int → Option (Bool)
 | 0, _, _, _, _, _, _, _, _, _, _, _ => none
 | k + 1, x34, x201000, x201001, x201002, x201003, x201004, x219000, x219001, x219002, x219003, x219004 => if x34 = true then (some false) else ((laws_toPattern.f k x201000 x201001 x201002 x201003 x201004).bind fun bt221 => ((laws_eqPattern.f k x219000 x219001 x219002 x219003 x219004 bt221.1 bt221.2.1 bt221.2.2.1 bt221.2.2.2.1 bt221.2.2.2.2).bind fun t228 => (if t228 = true then (some true) else (some false))))
def laws_FnExactPatternText.f (k : Nat) (a0_0 : Int) (a0_1 : Int) (a0_2 : Int) (a0_3 : Int) (l0_4 : List Int) : Option (Bool) := (laws_szPattern.f a0_0 a0_1 a0_2 a0_3 l0_4 1048576).bind fun t201 => (if t201 < 0 then (some true) else ((laws_toPattern.f k a0_0 a0_1 a0_2 a0_3 l0_4).bind fun bt202 => ((spec_PatternText.f k bt202.1 bt202.2.1 bt202.2.2.1 bt202.2.2.2.1 bt202.2.2.2.2).bind fun bt209 => ((laws_toPattern.f k a0_0 a0_1 a0_2 a0_3 l0_4).bind fun bt211 => ((impl_PatternText.f k bt211.1 bt211.2.1 bt211.2.2.1 bt211.2.2.2.1 bt211.2.2.2.2).bind fun bt219 => (if bt219.1.toList = bt209.1.toList then (laws_FnExactPatternText.j0 k (bt219.2 != bt209.2) a0_0 a0_1 a0_2 a0_3 l0_4 bt211.1 bt211.2.1 bt211.2.2.1 bt211.2.2.2.1 bt211.2.2.2.2) else (laws_FnExactPatternText.j0 k true a0_0 a0_1 a0_2 a0_3 l0_4 bt211.1 bt211.2.1 bt211.2.2.1 bt211.2.2.2.1 bt211.2.2.2.2)))))))
set_option maxHeartbeats 8000000 in
set_option maxRecDepth 100000 in
theorem laws_FnExactPatternText.calls (k : Nat) (a0_0 : Int) (a0_1 : Int) (a0_2 : Int) (a0_3 : Int) (A0_4 : Option Addr) (c0_4 : Nat) (l0_4 : List Int) (w : World) (hr0_4 : Kd.C (Kd.int .i64) w A0_4 l0_4.length l0_4) (hc0_4 : l0_4.length ≤ c0_4) (h : laws_FnExactPatternText.f k a0_0 a0_1 a0_2 a0_3 l0_4 = some true) :
  Calls Tryd.prog 6 #[.agg #[.int .i64 a0_0, .int .i64 a0_1, .int .i64 a0_2, .int .i64 a0_3, .slice A0_4 l0_4.length c0_4]] w fun e w' => e = .returned (.bool true) ∧ Below w.heap.size w w' := by
 have hu54 := Tryd.underlying54
 have hu59 := Tryd.underlying59
 have HR0_4 := Aside0.mk hr0_4
 have HC0_4 := Aside0.mk hc0_4
 clear hr0_4 hc0_4
 have HB := asd (Below.refl w.heap.size w)
 have H : ((laws_szPattern.f a0_0 a0_1 a0_2 a0_3 l0_4 1048576).bind fun t201 => (if t201 < 0 then (some true) else ((laws_toPattern.f k a0_0 a0_1 a0_2 a0_3 l0_4).bind fun bt202 => ((spec_PatternText.f k bt202.1 bt202.2.1 bt202.2.2.1 bt202.2.2.2.1 bt202.2.2.2.2).bind fun bt209 => ((laws_toPattern.f k a0_0 a0_1 a0_2 a0_3 l0_4).bind fun bt211 => ((impl_PatternText.f k bt211.1 bt211.2.1 bt211.2.2.1 bt211.2.2.2.1 bt211.2.2.2.2).bind fun bt219 => (if bt219.1.toList = bt209.1.toList then (laws_FnExactPatternText.j0 k (bt219.2 != bt209.2) a0_0 a0_1 a0_2 a0_3 l0_4 bt211.1 bt211.2.1 bt211.2.2.1 bt211.2.2.2.1 bt211.2.2.2.2) else (laws_FnExactPatternText.j0 k true a0_0 a0_1 a0_2 a0_3 l0_4 bt211.1 bt211.2.1 bt211.2.2.1 bt211.2.2.2.1 bt211.2.2.2.2)))))))) = some true := h
 clear h
 obtain ⟨t201, A2, H⟩ := ob H
 try dsimp only at H
 by_cases c3 : t201 < 0
 ·rw [if_pos c3] at H
  have c3b0 := decide_eq_true c3
  clear c3
  clear H
  go_enter Tryd.func6, Tryd.ntmps6
  go_wp2_with (first | ((with_reducible refine gd 1 rfl ?_); refine bx #[.int .i64 a0_0, .int .i64 a0_1, .int .i64 a0_2, .int .i64 a0_3, .slice A0_4 l0_4.length c0_4] 54 ?_; intro gb200 hg w4 BK200 hb; have GE200 := ngw0 hg HB; replace HB := bS0 HB hb; clear hb hg; obtain ⟨hcz5_0, hcz5_1, hcz5_2, hcz5_3, hcz5_4, hfz5_0, hfz5_1, hfz5_2, hfz5_3, hfz5_4⟩ := bz5 BK200) | ((with_reducible refine gate_callee (f := 18) rfl ?_); refine gl 11 Tryd.func18 #[.agg #[.int .i64 a0_0, .int .i64 a0_1, .int .i64 a0_2, .int .i64 a0_3, .slice A0_4 l0_4.length c0_4], .int .i64 1048576] ?_; (with_reducible refine (laws_szPattern.calls _ _ _ _ _ _ _ _ _ _ ?side1 ?side2 A2.out).mono ?_); (case side1 => exact ks (Kd.C_below HR0_4.out HB.out)); (case side2 => exact HC0_4.out); rintro e w6 ⟨rfl, hb⟩; refine ⟨_, rfl, ?_⟩; replace BK200 := bB BK200 hb; replace HB := bS1 HB GE200 hb; (try clear hb)))
  go_ret
  exact er (bbw1 HB GE200)
 ·rw [if_neg c3] at H
  have c3b0 := decide_eq_false c3
  clear c3
  obtain ⟨⟨t202, t203, t204, t205, t206⟩, A7, H⟩ := ob H
  try dsimp only at H
  obtain ⟨⟨t209, t210⟩, A8, H⟩ := ob H
  try dsimp only at H
  obtain ⟨⟨t211, t212, t213, t214, t215⟩, A9, H⟩ := ob H
  try dsimp only at H
  obtain ⟨⟨t219, t220⟩, A10, H⟩ := ob H
  try dsimp only at H
  have HC11 := Aside0.mk H
  clear H
  go_enter Tryd.func6, Tryd.ntmps6
  go_upto_region 8 with (first | ((with_reducible refine gd 1 rfl ?_); refine bx #[.int .i64 a0_0, .int .i64 a0_1, .int .i64 a0_2, .int .i64 a0_3, .slice A0_4 l0_4.length c0_4] 54 ?_; intro gb200 hg w12 BK200 hb; have GE200 := ngw0 hg HB; replace HB := bS0 HB hb; clear hb hg; obtain ⟨hcz13_0, hcz13_1, hcz13_2, hcz13_3, hcz13_4, hfz13_0, hfz13_1, hfz13_2, hfz13_3, hfz13_4⟩ := bz5 BK200) | ((with_reducible refine gate_callee (f := 18) rfl ?_); refine gl 11 Tryd.func18 #[.agg #[.int .i64 a0_0, .int .i64 a0_1, .int .i64 a0_2, .int .i64 a0_3, .slice A0_4 l0_4.length c0_4], .int .i64 1048576] ?_; (with_reducible refine (laws_szPattern.calls _ _ _ _ _ _ _ _ _ _ ?side1 ?side2 A2.out).mono ?_); (case side1 => exact ks (Kd.C_below HR0_4.out HB.out)); (case side2 => exact HC0_4.out); rintro e w14 ⟨rfl, hb⟩; refine ⟨_, rfl, ?_⟩; replace BK200 := bB BK200 hb; replace HB := bS1 HB GE200 hb; (try clear hb); obtain ⟨hcz15_0, hcz15_1, hcz15_2, hcz15_3, hcz15_4, hfz15_0, hfz15_1, hfz15_2, hfz15_3, hfz15_4⟩ := bz5 BK200) | ((with_reducible refine gate_callee (f := 20) rfl ?_); refine gl 16 Tryd.func20 #[.agg #[.int .i64 a0_0, .int .i64 a0_1, .int .i64 a0_2, .int .i64 a0_3, .slice A0_4 l0_4.length c0_4]] ?_; (with_reducible refine (laws_toPattern.calls _ _ _ _ _ _ _ _ _ _ _ _ _ _ ?side1 ?side2 A7.out).mono ?_); (case side1 => exact ks (Kd.C_below HR0_4.out HB.out)); (case side2 => exact HC0_4.out); rintro e w16 ⟨v207, rfl, ho0, hb⟩; refine ⟨_, rfl, ?_⟩; have HO208 := asd (Kd.R_lower ho0 (bsz1 HB GE200)); replace BK200 := bB BK200 hb; replace HB := bS1 HB GE200 hb; (try clear hb); (try clear hb2); (try clear hk); (try clear hi); (try clear ho0); obtain ⟨Ao17, co17, eo17⟩ := Kd.R_slice HO208.out; subst eo17) | ((with_reducible refine gate_callee (f := 19) rfl ?_); refine gl 17 Tryd.func19 #[.agg #[.int .i64 t202, .int .i64 t203, .int .i64 t204, .int .i64 t205, .slice Ao17 t206.length co17]] ?_; (with_reducible refine (spec_PatternText.calls _ _ _ _ _ _ _ _ _ _ _ ?side1 ?side2 A8.out).mono ?_); (case side1 => exact ks (Kd.R_reads' HO208.out).2.2); (case side2 => exact (Kd.R_reads' HO208.out).2.1); rintro e w18 ⟨rfl, hb⟩; refine ⟨_, rfl, ?_⟩; replace HO208 := asd (Kd.R_below (kr HO208) hb); replace BK200 := bB BK200 hb; replace HB := bS1 HB GE200 hb; (try clear hb); obtain ⟨hcz19_0, hcz19_1, hcz19_2, hcz19_3, hcz19_4, hfz19_0, hfz19_1, hfz19_2, hfz19_3, hfz19_4⟩ := bz5 BK200) | ((with_reducible refine gate_callee (f := 20) rfl ?_); refine gl 21 Tryd.func20 #[.agg #[.int .i64 a0_0, .int .i64 a0_1, .int .i64 a0_2, .int .i64 a0_3, .slice A0_4 l0_4.length c0_4]] ?_; (with_reducible refine (laws_toPattern.calls _ _ _ _ _ _ _ _ _ _ _ _ _ _ ?side1 ?side2 A9.out).mono ?_); (case side1 => exact ks (Kd.C_below HR0_4.out HB.out)); (case side2 => exact HC0_4.out); rintro e w20 ⟨v216, rfl, ho0, hb⟩; refine ⟨_, rfl, ?_⟩; have HO217 := asd (Kd.R_lower (Kd.R_new' ho0 (Kd.R_lt (kr HO208))) (bsz1 HB GE200)); replace HO208 := asd (Kd.R_elder' (kr HO208) (Kd.R_base ho0) hb); replace BK200 := bB BK200 hb; replace HB := bS1 HB GE200 hb; (try clear hb); (try clear hb2); (try clear hk); (try clear hi); (try clear ho0)) | ((with_reducible refine gd 6 rfl ?_); refine bx #[.int .i64 0, .int .i64 0, .int .i64 0, .int .i64 0, .slice none 0 0] 59 ?_; intro gb218 hg w21 BK218 hb; replace HO208 := asd (Kd.R_below (kr HO208) hb); replace HO217 := asd (Kd.R_below (kr HO217) hb); have GE218 := ngw1 hg HB GE200; replace HB := bS1 HB GE200 hb; have NB200_218 := nlt hg BK200; have NB218_200 := nsy (nlt hg BK200); replace BK200 := bB BK200 hb; clear hb hg; have hnb22 := NB218_200.out; have hnc22 := NB200_218.out; obtain ⟨hcz23_0, hcz23_1, hcz23_2, hcz23_3, hcz23_4, hfz23_0, hfz23_1, hfz23_2, hfz23_3, hfz23_4⟩ := bz5 BK218; obtain ⟨Ao24, co24, eo24⟩ := Kd.R_slice HO217.out; subst eo24) | ((with_reducible refine gate_callee (f := 21) rfl ?_); refine gl 24 Tryd.func21 #[.agg #[.int .i64 t211, .int .i64 t212, .int .i64 t213, .int .i64 t214, .slice Ao24 t215.length co24]] ?_; (with_reducible refine (impl_PatternText.calls _ _ _ _ _ _ _ _ _ _ _ ?side1 ?side2 A10.out).mono ?_); (case side1 => refine (Kd.R_reads' (e := 2) (base := w.heap.size) (ok := fun k_ => (True ∧ some k_ ≠ (.slice Ao17 t206.length co17 : Value).ownBlock)) (n := t215.length) (c := co24) ?_).2.2; exact (by (with_reducible repeat (first | apply Kd.R_alloc | apply Kd.R_drewN | apply Kd.R_drew)); exact (Kd.R_mono (rw5 (Kd.R_types HO217.out BK218.out (by decide))) (fun _ h_ => h_.1)))); (case side2 => exact (Kd.R_reads' HO217.out).2.1); rintro e w25 ⟨rfl, hb⟩; refine ⟨_, rfl, ?_⟩; replace HO208 := asd (Kd.R_below (by (with_reducible repeat (first | apply Kd.R_alloc | apply Kd.R_drewN | apply Kd.R_drew)); exact (Kd.R_mono (rw5 (Kd.R_types HO208.out BK218.out (by decide))) (fun _ h_ => h_.1))) hb); replace HO217 := asd (Kd.R_below (by (with_reducible repeat (first | apply Kd.R_alloc | apply Kd.R_drewN | apply Kd.R_drew)); exact (Kd.R_mono (rw5 (Kd.R_types HO217.out BK218.out (by decide))) (fun _ h_ => h_.1))) hb); replace BK200 := asd (blk_below (g := gb200) (o := .cells #[.int .i64 a0_0, .int .i64 a0_1, .int .i64 a0_2, .int .i64 a0_3, .slice A0_4 l0_4.length c0_4] 54 (0, 0)) (bq1 BK200 NB200_218) hb); replace BK218 := asd (blk_below (g := gb218) (o := .cells #[.int .i64 t211, .int .i64 t212, .int .i64 t213, .int .i64 t214, .slice Ao24 t215.length co24] 59 (0, 0)) (bq0 BK218) hb); replace HB := bS2 HB GE200 GE218 hb; (try clear hb)))
  (try simp only [Act.put, sA, sB, sC])
  go_cut [34] (fun v34 wc => ∃ (kq : Nat) (x34_10 : Bool), v34 = .bool x34_10 ∧ Aside0 (laws_FnExactPatternText.j0 kq x34_10 a0_0 a0_1 a0_2 a0_3 l0_4 t211 t212 t213 t214 t215 = some true) ∧ Aside0 (kq ≤ k) ∧ Aside0 (Kd.R (Kd.int .i64) 2 wc w.heap.size (fun _ => True) (.slice Ao24 t215.length co24) t215) ∧ Aside0 (wc.heap[gb200]? = some (.cells #[.int .i64 a0_0, .int .i64 a0_1, .int .i64 a0_2, .int .i64 a0_3, (.slice A0_4 l0_4.length c0_4)] 54 (0, 0))) ∧ Aside0 (wc.heap[gb218]? = some (.cells #[.int .i64 t211, .int .i64 t212, .int .i64 t213, .int .i64 t214, (.slice Ao24 t215.length co24)] 59 (0, 0))) ∧ Aside0 (Below w.heap.size w wc))
  case first =>
   have H := HC11.out
   clear HC11
   by_cases c26 : t219.toList = t209.toList
   ·rw [if_pos c26] at H
    have c26b0 : (t219.toList == t209.toList) = true := beq_iff_eq.mpr c26
    have c26b1 : (t219.toList != t209.toList) = false := bne_eq_false_iff_eq.mpr c26
    clear c26
    (first | rw [c26b0] | (simp only [i64_w, i32_w]; rw [c26b0]) | skip)
    have H' := Aside0.mk H
    clear H
    go_wp2
    go_meet
    case rel => exact ⟨_, ((t220 != t210)), (by first | rfl | (simp; done) | (simp [*]; done)), H', ⟨by first | omega | exact Nat.le_refl _⟩, ⟨by (with_reducible repeat (first | apply Kd.R_alloc | apply Kd.R_drewN | apply Kd.R_drew)); exact Kd.R_mono HO217.out (fun _ hk => trivial)⟩, ⟨bkp BK200⟩, ⟨bkp BK218⟩, ⟨bbw2 HB GE200 GE218⟩⟩
   ·rw [if_neg c26] at H
    have c26b0 : (t219.toList == t209.toList) = false := beq_eq_false_iff_ne.mpr c26
    have c26b1 : (t219.toList != t209.toList) = true := bne_iff_ne.mpr c26
    (first | rw [c26b0] | (simp only [i64_w, i32_w]; rw [c26b0]) | skip)
    have H' := Aside0.mk H
    clear H
    go_wp2
    go_meet
    case rel => exact ⟨_, (true), (by first | rfl | (simp; done) | (simp [*]; done)), H', ⟨by first | omega | exact Nat.le_refl _⟩, ⟨by (with_reducible repeat (first | apply Kd.R_alloc | apply Kd.R_drewN | apply Kd.R_drew)); exact Kd.R_mono HO217.out (fun _ hk => trivial)⟩, ⟨bkp BK200⟩, ⟨bkp BK218⟩, ⟨bbw2 HB GE200 GE218⟩⟩
  case rest =>
   clear HC11
   try clear c1
   try clear c2
   try clear p2
   try clear c3
   try clear c3b0
   try clear c6
   try clear c18
   try clear c19
   try clear c20
   try clear c21
   try clear c22
   try clear c26
   try clear c26b0
   try clear c26b1
   try clear hcz13_0
   try clear hcz13_1
   try clear hcz13_2
   try clear hcz13_3
   try clear hcz13_4
   try clear hcz15_0
   try clear hcz15_1
   try clear hcz15_2
   try clear hcz15_3
   try clear hcz15_4
   try clear hcz19_0
   try clear hcz19_1
   try clear hcz19_2
   try clear hcz19_3
   try clear hcz19_4
   try clear hcz23_0
   try clear hcz23_1
   try clear hcz23_2
   try clear hcz23_3
   try clear hcz23_4
   try clear hcz5_0
   try clear hcz5_1
   try clear hcz5_2
   try clear hcz5_3
   try clear hcz5_4
   try clear hfz13_0
   try clear hfz13_1
   try clear hfz13_2
   try clear hfz13_3
   try clear hfz13_4
   try clear hfz15_0
   try clear hfz15_1
   try clear hfz15_2
   try clear hfz15_3
   try clear hfz15_4
   try clear hfz19_0
   try clear hfz19_1
   try clear hfz19_2
   try clear hfz19_3
   try clear hfz19_4
   try clear hfz23_0
   try clear hfz23_1
   try clear hfz23_2
   try clear hfz23_3
   try clear hfz23_4
   try clear hfz5_0
   try clear hfz5_1
   try clear hfz5_2
   try clear hfz5_3
   try clear hfz5_4
   obtain ⟨kq, x34_10, rfl, HA, HJ10, HO_219004, BK200, BK218, HB⟩ := hcut
   cases kq with
   | zero => exact absurd HA.out (by simp [laws_FnExactPatternText.j0])
   | succ kj10 =>
    have H := HA.out
    clear HA
    simp only [laws_FnExactPatternText.j0] at H
    by_cases c27 : x34_10 = true
    ·subst c27
     replace H := ifT H
     exact absurd H (by simp)
    ·replace c27 := Bool.eq_false_iff.mpr c27
     subst c27
     replace H := ifF H
     obtain ⟨⟨t221, t222, t223, t224, t225⟩, A28, H⟩ := ob H
     try dsimp only at H
     obtain ⟨t228, A29, H⟩ := ob H
     try dsimp only at H
     by_cases c30 : t228 = true
     ·subst c30
      replace H := ifT H
      clear H
      try go_wp2
      replace HO_219004 := asd (Kd.R_drew HO_219004.out)
      replace BK200 := asd (blk_drew BK200.out)
      replace BK218 := asd (blk_drew BK218.out)
      replace HB := asd (below_drew1 HB.out)
      refine sh 5 (cb5 BK218 (eb5 BK200)) (fun hHeld => ?_)
      generalize wc.drew = w31 at HO_219004 BK200 BK218 HB hHeld ⊢
      refine take_ (i := 0) (N := some 35) (v := ?_) (a' := ?_) (bT 5 1) rfl rfl (by kernel_rfl) (fun _ _ _ h => h) (Or.inl ⟨by rfl, ?_⟩) hHeld ?_ ?_
      rotate_left
      ·rintro w' ⟨s0, s1, s2, s3, s4, s5, s6, s7, s8, s9⟩
       go_simp
       with_reducible rfl
      rotate_left
      ·simp only [Act.put, sA, sB, sC, i64_w, i32_w]
       rfl
      refine take_ (i := 1) (N := some 36) (v := ?_) (a' := ?_) (bT 5 2) rfl rfl (by kernel_rfl) (fun _ _ _ h => h) (Or.inl ⟨by rfl, ?_⟩) hHeld ?_ ?_
      rotate_left
      ·rintro w' ⟨s0, s1, s2, s3, s4, s5, s6, s7, s8, s9⟩
       go_simp
       with_reducible rfl
      rotate_left
      ·simp only [Act.put, sA, sB, sC, i64_w, i32_w]
       rfl
      refine one_ (i := 2) (N := some 37) (bT 5 3) rfl rfl (by kernel_rfl) (by decide) (fun K hK => ?_)
      refine gs Tryd.func20 #[.agg #[.int .i64 a0_0, .int .i64 a0_1, .int .i64 a0_2, .int .i64 a0_3, .slice A0_4 l0_4.length c0_4]] ?_
      with_reducible refine (laws_toPattern.calls _ _ _ _ _ _ _ _ _ _ _ _ _ _ ?side1 ?side2 A28.out).mono ?_
      (case side1 => exact ks (Kd.C_below HR0_4.out HB.out))
      (case side2 => exact HC0_4.out)
      rintro e w32 ⟨v226, rfl, ho0, hb⟩
      refine ⟨_, rfl, ?_⟩
      have HO227 := asd (Kd.R_lower (Kd.R_new' ho0 (Kd.R_lt (kr HO_219004))) (bsz2 HB GE200 GE218))
      replace HO_219004 := asd (Kd.R_elder' (kr HO_219004) (Kd.R_base ho0) hb)
      replace BK200 := bB BK200 hb
      replace BK218 := bB BK218 hb
      replace HB := bS2 HB GE200 GE218 hb
      (try clear hb)
      (try clear hb2)
      (try clear hk)
      (try clear hi)
      (try clear ho0)
      obtain ⟨Ao33, co33, eo33⟩ := Kd.R_slice HO227.out
      (first | subst eo33 | (injection eo33 with f1_ f2_ f3_; have f4_ := f1_.symm; have f5_ := f3_.symm; clear f1_ f2_ f3_; subst f4_; subst f5_))
      refine hK.out _ _ (cb5 BK218 (eb5 BK200)).out (fun hHeld => ?_)
      clear hK K
      refine norm_ (a' := ?_) ?_ ?_
      rotate_left
      ·show Act.put _ (some 37) _ = _
       simp only [Act.put, sA, sB, sC, i64_w, i32_w]
       rfl
      refine one_ (i := 3) (N := some 38) (bT 5 4) rfl rfl (by kernel_rfl) (by decide) (fun K hK => ?_)
      refine gs Tryd.func22 #[.agg #[.int .i64 t211, .int .i64 t212, .int .i64 t213, .int .i64 t214, .slice Ao24 t215.length co24], .agg #[.int .i64 t221, .int .i64 t222, .int .i64 t223, .int .i64 t224, .slice Ao33 t225.length co33]] ?_
      with_reducible refine (laws_eqPattern.calls _ _ _ _ _ _ _ _ _ _ _ _ _ _ _ _ _ ?side1 ?side2 ?side3 ?side4 A29.out).mono ?_
      (case side1 => exact ks (Kd.R_reads' HO_219004.out).2.2)
      (case side2 => exact (Kd.R_reads' HO_219004.out).2.1)
      (case side3 => exact ks (Kd.R_reads' HO227.out).2.2)
      (case side4 => exact (Kd.R_reads' HO227.out).2.1)
      rintro e w34 ⟨rfl, hb⟩
      refine ⟨_, rfl, ?_⟩
      replace HO_219004 := asd (Kd.R_below (kr HO_219004) hb)
      replace HO227 := asd (Kd.R_below (kr HO227) hb)
      replace BK200 := bB BK200 hb
      replace BK218 := bB BK218 hb
      replace HB := bS2 HB GE200 GE218 hb
      (try clear hb)
      (try clear hb2)
      (try clear hk)
      (try clear hi)
      refine hK.out _ _ (cb5 BK218 (eb5 BK200)).out (fun hHeld => ?_)
      clear hK K
      refine norm_ (a' := ?_) ?_ ?_
      rotate_left
      ·show Act.put _ (some 38) _ = _
       simp only [Act.put, sA, sB, sC, i64_w, i32_w]
       rfl
      refine pure_ (i := 4) (N := some 39) (v := ?_) (a' := ?_) (bT 5 5) rfl rfl (by kernel_rfl) (fun _ _ _ h => h) (Or.inl ⟨by rfl, ?_⟩) ?_ ?_
      rotate_left
      ·intro w'
       go_simp
       with_reducible rfl
      rotate_left
      ·simp only [Act.put, sA, sB, sC, i64_w, i32_w]
       rfl
      refine done_ (by kernel_rfl) ?_
      try go_wp2
      go_ret
      exact er (bbw2 HB GE200 GE218)
     ·replace c30 := Bool.eq_false_iff.mpr c30
      subst c30
      replace H := ifF H
      exact absurd H (by simp)

/-- The one plain statement of laws_FnExactPatternText. -/
def laws_FnExactPatternText.Pure : Prop := ∀ (a0_0 : Int) (a0_1 : Int) (a0_2 : Int) (a0_3 : Int) (l0_4 : List Int), (Lit.int .i64 a0_0).wf = true → (Lit.int .i64 a0_1).wf = true → (Lit.int .i64 a0_2).wf = true → (Lit.int .i64 a0_3).wf = true → l0_4.length ≤ maxLen → (∀ x ∈ l0_4, (Lit.int .i64 x).wf = true) → ∃ k, laws_FnExactPatternText.f k a0_0 a0_1 a0_2 a0_3 l0_4 = some true
end Go.Proofs.YtkjdndikgekidaaDoor.PA
