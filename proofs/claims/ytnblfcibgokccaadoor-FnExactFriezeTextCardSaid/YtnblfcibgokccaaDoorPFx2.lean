/- Walks written by program: each Go function that the law reaches comes to the plain function beside it. -/
import Derived.Test.YtnblfcibgokccaaDoorPFx0
import Derived.Test.YtnblfcibgokccaaDoorPFx1
namespace Go.Proofs.YtnblfcibgokccaaDoor.PF
open Go.RowKit Go.Proofs.YtnblfcibgokccaaDoorW.PrintWords Go.Proofs.YtnblfcibgokccaaDoorW.PrintLast Go.Proofs.YtnblfcibgokccaaDoorW.PrintMore
attribute [local go_sem] max2_int min2_int max_two min_two max_three min_three max_four min_four   -- for this text's walks alone
set_option linter.unusedVariables false
set_option linter.unusedSimpArgs false

/-! ### laws_FnExactFriezeText: function 3 -/
def laws_FnExactFriezeText.j0 : Nat → Bool → Int → Int → List Int → Int → Int → List Int → Option (Bool)
 | 0, _, _, _, _, _, _, _ => none
 | k + 1, x34, x153000, x153001, x153002, x167000, x167001, x167002 => if x34 = true then (some false) else ((laws_toFrieze.f k x153000 x153001 x153002).bind fun bt169 => ((laws_eqFrieze.f k x167000 x167001 x167002 bt169.1 bt169.2.1 bt169.2.2).bind fun t174 => (if t174 = true then (some true) else (some false))))
def laws_FnExactFriezeText.f (k : Nat) (a0_0 : Int) (a0_1 : Int) (l0_2 : List Int) : Option (Bool) := (laws_szFrieze.f a0_0 a0_1 l0_2 1048576).bind fun t153 => (if t153 < 0 then (some true) else ((laws_toFrieze.f k a0_0 a0_1 l0_2).bind fun bt154 => ((spec_FriezeText.f k bt154.1 bt154.2.1 bt154.2.2).bind fun bt159 => ((laws_toFrieze.f k a0_0 a0_1 l0_2).bind fun bt161 => ((impl_FriezeText.f k bt161.1 bt161.2.1 bt161.2.2).bind fun bt167 => (if bt167.1.toList = bt159.1.toList then (laws_FnExactFriezeText.j0 k (bt167.2 != bt159.2) a0_0 a0_1 l0_2 bt161.1 bt161.2.1 bt161.2.2) else (laws_FnExactFriezeText.j0 k true a0_0 a0_1 l0_2 bt161.1 bt161.2.1 bt161.2.2)))))))
set_option maxHeartbeats 8000000 in
set_option maxRecDepth 100000 in
theorem laws_FnExactFriezeText.calls (k : Nat) (a0_0 : Int) (a0_1 : Int) (A0_2 : Option Addr) (c0_2 : Nat) (l0_2 : List Int) (w : World) (hr0_2 : Kd.C (Kd.int .i64) w A0_2 l0_2.length l0_2) (hc0_2 : l0_2.length ≤ c0_2) (htab : texts.Tab w) (h : laws_FnExactFriezeText.f k a0_0 a0_1 l0_2 = some true) :
  Calls Tryd.prog 3 #[.agg #[.int .i64 a0_0, .int .i64 a0_1, .slice A0_2 l0_2.length c0_2]] w fun e w' => e = .returned (.bool true) ∧ Below w.heap.size w w' := by
 have HTAB := Aside0.mk htab
 clear htab
 have hu24 := Tryd.underlying24
 have hu28 := Tryd.underlying28
 have HR0_2 := Aside0.mk hr0_2
 have HC0_2 := Aside0.mk hc0_2
 clear hr0_2 hc0_2
 have HB := asd (Below.refl w.heap.size w)
 have H : ((laws_szFrieze.f a0_0 a0_1 l0_2 1048576).bind fun t153 => (if t153 < 0 then (some true) else ((laws_toFrieze.f k a0_0 a0_1 l0_2).bind fun bt154 => ((spec_FriezeText.f k bt154.1 bt154.2.1 bt154.2.2).bind fun bt159 => ((laws_toFrieze.f k a0_0 a0_1 l0_2).bind fun bt161 => ((impl_FriezeText.f k bt161.1 bt161.2.1 bt161.2.2).bind fun bt167 => (if bt167.1.toList = bt159.1.toList then (laws_FnExactFriezeText.j0 k (bt167.2 != bt159.2) a0_0 a0_1 l0_2 bt161.1 bt161.2.1 bt161.2.2) else (laws_FnExactFriezeText.j0 k true a0_0 a0_1 l0_2 bt161.1 bt161.2.1 bt161.2.2)))))))) = some true := h
 clear h
 obtain ⟨t153, A2, H⟩ := ob H
 try dsimp only at H
 by_cases c3 : t153 < 0
 ·rw [if_pos c3] at H
  have c3b0 := decide_eq_true c3
  clear c3
  clear H
  go_enter Tryd.func3, Tryd.ntmps3
  go_wp2_with (first | ((with_reducible refine gd 1 rfl ?_); refine bx #[.int .i64 a0_0, .int .i64 a0_1, .slice A0_2 l0_2.length c0_2] 24 ?_; intro gb152 hg w4 BK152 hb; have GE152 := ngw0 hg HB; replace HB := bS0 HB hb; clear hb hg; obtain ⟨hcz5_0, hcz5_1, hcz5_2, hfz5_0, hfz5_1, hfz5_2⟩ := bz3 BK152) | ((with_reducible refine gate_callee (f := 5) rfl ?_); refine gl 11 Tryd.func5 #[.agg #[.int .i64 a0_0, .int .i64 a0_1, .slice A0_2 l0_2.length c0_2], .int .i64 1048576] ?_; (with_reducible refine (laws_szFrieze.calls _ _ _ _ _ _ _ _ ?side1 ?side2 A2.out).mono ?_); (case side1 => exact ks (Kd.C_below HR0_2.out HB.out)); (case side2 => exact HC0_2.out); rintro e w6 ⟨rfl, hb⟩; refine ⟨_, rfl, ?_⟩; replace BK152 := bB BK152 hb; replace HB := bS1 HB GE152 hb; (try clear hb)))
  go_ret
  exact er (bbw1 HB GE152)
 ·rw [if_neg c3] at H
  have c3b0 := decide_eq_false c3
  clear c3
  obtain ⟨⟨t154, t155, t156⟩, A7, H⟩ := ob H
  try dsimp only at H
  obtain ⟨⟨t159, t160⟩, A8, H⟩ := ob H
  try dsimp only at H
  obtain ⟨⟨t161, t162, t163⟩, A9, H⟩ := ob H
  try dsimp only at H
  obtain ⟨⟨t167, t168⟩, A10, H⟩ := ob H
  try dsimp only at H
  have HC11 := Aside0.mk H
  clear H
  go_enter Tryd.func3, Tryd.ntmps3
  go_upto_region 8 with (first | ((with_reducible refine gd 1 rfl ?_); refine bx #[.int .i64 a0_0, .int .i64 a0_1, .slice A0_2 l0_2.length c0_2] 24 ?_; intro gb152 hg w12 BK152 hb; have GE152 := ngw0 hg HB; replace HB := bS0 HB hb; clear hb hg; obtain ⟨hcz13_0, hcz13_1, hcz13_2, hfz13_0, hfz13_1, hfz13_2⟩ := bz3 BK152) | ((with_reducible refine gate_callee (f := 5) rfl ?_); refine gl 11 Tryd.func5 #[.agg #[.int .i64 a0_0, .int .i64 a0_1, .slice A0_2 l0_2.length c0_2], .int .i64 1048576] ?_; (with_reducible refine (laws_szFrieze.calls _ _ _ _ _ _ _ _ ?side1 ?side2 A2.out).mono ?_); (case side1 => exact ks (Kd.C_below HR0_2.out HB.out)); (case side2 => exact HC0_2.out); rintro e w14 ⟨rfl, hb⟩; refine ⟨_, rfl, ?_⟩; replace BK152 := bB BK152 hb; replace HB := bS1 HB GE152 hb; (try clear hb); obtain ⟨hcz15_0, hcz15_1, hcz15_2, hfz15_0, hfz15_1, hfz15_2⟩ := bz3 BK152) | ((with_reducible refine gate_callee (f := 7) rfl ?_); refine gl 16 Tryd.func7 #[.agg #[.int .i64 a0_0, .int .i64 a0_1, .slice A0_2 l0_2.length c0_2]] ?_; (with_reducible refine (laws_toFrieze.calls _ _ _ _ _ _ _ _ _ _ ?side1 ?side2 A7.out).mono ?_); (case side1 => exact ks (Kd.C_below HR0_2.out HB.out)); (case side2 => exact HC0_2.out); rintro e w16 ⟨v157, rfl, ho0, hb⟩; refine ⟨_, rfl, ?_⟩; have HO158 := asd (Kd.R_lower ho0 (bsz1 HB GE152)); replace BK152 := bB BK152 hb; replace HB := bS1 HB GE152 hb; (try clear hb); (try clear hb2); (try clear hk); (try clear hi); (try clear ho0); obtain ⟨Ao17, co17, eo17⟩ := Kd.R_slice HO158.out; subst eo17) | ((with_reducible refine gate_callee (f := 6) rfl ?_); refine gl 17 Tryd.func6 #[.agg #[.int .i64 t154, .int .i64 t155, .slice Ao17 t156.length co17]] ?_; (with_reducible refine (spec_FriezeText.calls _ _ _ _ _ _ _ _ _ ?side1 ?side2 A8.out).mono ?_); (case side1 => exact ks (Kd.R_reads' HO158.out).2.2); (case side2 => exact (Kd.R_reads' HO158.out).2.1); rintro e w18 ⟨rfl, hb⟩; refine ⟨_, rfl, ?_⟩; replace HO158 := asd (Kd.R_below (kr HO158) hb); replace BK152 := bB BK152 hb; replace HB := bS1 HB GE152 hb; (try clear hb); obtain ⟨hcz19_0, hcz19_1, hcz19_2, hfz19_0, hfz19_1, hfz19_2⟩ := bz3 BK152) | ((with_reducible refine gate_callee (f := 7) rfl ?_); refine gl 21 Tryd.func7 #[.agg #[.int .i64 a0_0, .int .i64 a0_1, .slice A0_2 l0_2.length c0_2]] ?_; (with_reducible refine (laws_toFrieze.calls _ _ _ _ _ _ _ _ _ _ ?side1 ?side2 A9.out).mono ?_); (case side1 => exact ks (Kd.C_below HR0_2.out HB.out)); (case side2 => exact HC0_2.out); rintro e w20 ⟨v164, rfl, ho0, hb⟩; refine ⟨_, rfl, ?_⟩; have HO165 := asd (Kd.R_lower (Kd.R_new' ho0 (Kd.R_lt (kr HO158))) (bsz1 HB GE152)); replace HO158 := asd (Kd.R_elder' (kr HO158) (Kd.R_base ho0) hb); replace BK152 := bB BK152 hb; replace HB := bS1 HB GE152 hb; (try clear hb); (try clear hb2); (try clear hk); (try clear hi); (try clear ho0)) | ((with_reducible refine gd 6 rfl ?_); refine bx #[.int .i64 0, .int .i64 0, .slice none 0 0] 28 ?_; intro gb166 hg w21 BK166 hb; replace HO158 := asd (Kd.R_below (kr HO158) hb); replace HO165 := asd (Kd.R_below (kr HO165) hb); have GE166 := ngw1 hg HB GE152; replace HB := bS1 HB GE152 hb; have NB152_166 := nlt hg BK152; have NB166_152 := nsy (nlt hg BK152); replace BK152 := bB BK152 hb; clear hb hg; have hnb22 := NB166_152.out; have hnc22 := NB152_166.out; obtain ⟨hcz23_0, hcz23_1, hcz23_2, hfz23_0, hfz23_1, hfz23_2⟩ := bz3 BK166; obtain ⟨Ao24, co24, eo24⟩ := Kd.R_slice HO165.out; subst eo24) | ((with_reducible refine gate_callee (f := 8) rfl ?_); refine gl 24 Tryd.func8 #[.agg #[.int .i64 t161, .int .i64 t162, .slice Ao24 t163.length co24]] ?_; (with_reducible refine (impl_FriezeText.calls _ _ _ _ _ _ _ _ _ ?side1 ?side2 (texts.tabB HTAB.out (by repeat (first | (with_reducible first | exact HB.out | exact Below.refl _ _ | apply below_alloc | apply pw_below_drewN | apply below_drew1 | refine below_set ?_ GE152.out | refine below_set ?_ GE166.out) | exact HB.out))) A10.out).mono ?_); (case side1 => refine (Kd.R_reads' (e := 2) (base := w.heap.size) (ok := fun k_ => (True ∧ some k_ ≠ (.slice Ao17 t156.length co17 : Value).ownBlock)) (n := t163.length) (c := co24) ?_).2.2; exact (by (with_reducible repeat (first | apply Kd.R_alloc | apply Kd.R_drewN | apply Kd.R_drew)); exact (Kd.R_mono (rw3 (Kd.R_types HO165.out BK166.out (by decide))) (fun _ h_ => h_.1)))); (case side2 => exact (Kd.R_reads' HO165.out).2.1); rintro e w25 ⟨rfl, hb⟩; refine ⟨_, rfl, ?_⟩; replace HO158 := asd (Kd.R_below (by (with_reducible repeat (first | apply Kd.R_alloc | apply Kd.R_drewN | apply Kd.R_drew)); exact (Kd.R_mono (rw3 (Kd.R_types HO158.out BK166.out (by decide))) (fun _ h_ => h_.1))) hb); replace HO165 := asd (Kd.R_below (by (with_reducible repeat (first | apply Kd.R_alloc | apply Kd.R_drewN | apply Kd.R_drew)); exact (Kd.R_mono (rw3 (Kd.R_types HO165.out BK166.out (by decide))) (fun _ h_ => h_.1))) hb); replace BK152 := asd (blk_below (g := gb152) (o := .cells #[.int .i64 a0_0, .int .i64 a0_1, .slice A0_2 l0_2.length c0_2] 24 (0, 0)) (bq1 BK152 NB152_166) hb); replace BK166 := asd (blk_below (g := gb166) (o := .cells #[.int .i64 t161, .int .i64 t162, .slice Ao24 t163.length co24] 28 (0, 0)) (bq0 BK166) hb); replace HB := bS2 HB GE152 GE166 hb; (try clear hb)))
  (try simp only [Act.put, sA, sB, sC])
  go_cut [34] (fun v34 wc => ∃ (kq : Nat) (x34_10 : Bool), v34 = .bool x34_10 ∧ Aside0 (laws_FnExactFriezeText.j0 kq x34_10 a0_0 a0_1 l0_2 t161 t162 t163 = some true) ∧ Aside0 (kq ≤ k) ∧ Aside0 (Kd.R (Kd.int .i64) 2 wc w.heap.size (fun _ => True) (.slice Ao24 t163.length co24) t163) ∧ Aside0 (wc.heap[gb152]? = some (.cells #[.int .i64 a0_0, .int .i64 a0_1, (.slice A0_2 l0_2.length c0_2)] 24 (0, 0))) ∧ Aside0 (wc.heap[gb166]? = some (.cells #[.int .i64 t161, .int .i64 t162, (.slice Ao24 t163.length co24)] 28 (0, 0))) ∧ Aside0 (Below w.heap.size w wc))
  case first =>
   have H := HC11.out
   clear HC11
   by_cases c26 : t167.toList = t159.toList
   ·rw [if_pos c26] at H
    have c26b0 : (t167.toList == t159.toList) = true := beq_iff_eq.mpr c26
    have c26b1 : (t167.toList != t159.toList) = false := bne_eq_false_iff_eq.mpr c26
    clear c26
    (first | rw [c26b0] | (simp only [i64_w, i32_w]; rw [c26b0]) | skip)
    have H' := Aside0.mk H
    clear H
    go_wp2
    go_meet
    case rel => exact ⟨_, ((t168 != t160)), (by first | rfl | (simp; done) | (simp [*]; done)), H', ⟨by first | omega | exact Nat.le_refl _⟩, ⟨by (with_reducible repeat (first | apply Kd.R_alloc | apply Kd.R_drewN | apply Kd.R_drew)); exact Kd.R_mono HO165.out (fun _ hk => trivial)⟩, ⟨bkp BK152⟩, ⟨bkp BK166⟩, ⟨bbw2 HB GE152 GE166⟩⟩
   ·rw [if_neg c26] at H
    have c26b0 : (t167.toList == t159.toList) = false := beq_eq_false_iff_ne.mpr c26
    have c26b1 : (t167.toList != t159.toList) = true := bne_iff_ne.mpr c26
    (first | rw [c26b0] | (simp only [i64_w, i32_w]; rw [c26b0]) | skip)
    have H' := Aside0.mk H
    clear H
    go_wp2
    go_meet
    case rel => exact ⟨_, (true), (by first | rfl | (simp; done) | (simp [*]; done)), H', ⟨by first | omega | exact Nat.le_refl _⟩, ⟨by (with_reducible repeat (first | apply Kd.R_alloc | apply Kd.R_drewN | apply Kd.R_drew)); exact Kd.R_mono HO165.out (fun _ hk => trivial)⟩, ⟨bkp BK152⟩, ⟨bkp BK166⟩, ⟨bbw2 HB GE152 GE166⟩⟩
  case rest =>
   clear HC11
   try clear c2
   try clear p2
   try clear c3
   try clear c3b0
   try clear c5
   try clear c6
   try clear c7
   try clear c8
   try clear c22
   try clear c26
   try clear c26b0
   try clear c26b1
   try clear hcz13_0
   try clear hcz13_1
   try clear hcz13_2
   try clear hcz15_0
   try clear hcz15_1
   try clear hcz15_2
   try clear hcz19_0
   try clear hcz19_1
   try clear hcz19_2
   try clear hcz23_0
   try clear hcz23_1
   try clear hcz23_2
   try clear hcz5_0
   try clear hcz5_1
   try clear hcz5_2
   try clear hfz13_0
   try clear hfz13_1
   try clear hfz13_2
   try clear hfz15_0
   try clear hfz15_1
   try clear hfz15_2
   try clear hfz19_0
   try clear hfz19_1
   try clear hfz19_2
   try clear hfz23_0
   try clear hfz23_1
   try clear hfz23_2
   try clear hfz5_0
   try clear hfz5_1
   try clear hfz5_2
   obtain ⟨kq, x34_10, rfl, HA, HJ10, HO_167002, BK152, BK166, HB⟩ := hcut
   cases kq with
   | zero => exact absurd HA.out (by simp [laws_FnExactFriezeText.j0])
   | succ kj10 =>
    have H := HA.out
    clear HA
    simp only [laws_FnExactFriezeText.j0] at H
    by_cases c27 : x34_10 = true
    ·subst c27
     replace H := ifT H
     exact absurd H (by simp)
    ·replace c27 := Bool.eq_false_iff.mpr c27
     subst c27
     replace H := ifF H
     obtain ⟨⟨t169, t170, t171⟩, A28, H⟩ := ob H
     try dsimp only at H
     obtain ⟨t174, A29, H⟩ := ob H
     try dsimp only at H
     by_cases c30 : t174 = true
     ·subst c30
      replace H := ifT H
      clear H
      try go_wp2
      replace HO_167002 := asd (Kd.R_drew HO_167002.out)
      replace BK152 := asd (blk_drew BK152.out)
      replace BK166 := asd (blk_drew BK166.out)
      replace HB := asd (below_drew1 HB.out)
      refine sh 5 (cb3 BK166 (eb3 BK152)) (fun hHeld => ?_)
      generalize wc.drew = w31 at HO_167002 BK152 BK166 HB hHeld ⊢
      refine take_ (i := 0) (N := some 35) (v := ?_) (a' := ?_) (bT 5 1) rfl rfl (by kernel_rfl) (fun _ _ _ h => h) (Or.inl ⟨by rfl, ?_⟩) hHeld ?_ ?_
      rotate_left
      ·rintro w' ⟨s0, s1, s2, s3, s4, s5⟩
       go_simp
       with_reducible rfl
      rotate_left
      ·simp only [Act.put, sA, sB, sC, i64_w, i32_w]
       rfl
      refine take_ (i := 1) (N := some 36) (v := ?_) (a' := ?_) (bT 5 2) rfl rfl (by kernel_rfl) (fun _ _ _ h => h) (Or.inl ⟨by rfl, ?_⟩) hHeld ?_ ?_
      rotate_left
      ·rintro w' ⟨s0, s1, s2, s3, s4, s5⟩
       go_simp
       with_reducible rfl
      rotate_left
      ·simp only [Act.put, sA, sB, sC, i64_w, i32_w]
       rfl
      refine one_ (i := 2) (N := some 37) (bT 5 3) rfl rfl (by kernel_rfl) (by decide) (fun K hK => ?_)
      refine gs Tryd.func7 #[.agg #[.int .i64 a0_0, .int .i64 a0_1, .slice A0_2 l0_2.length c0_2]] ?_
      with_reducible refine (laws_toFrieze.calls _ _ _ _ _ _ _ _ _ _ ?side1 ?side2 A28.out).mono ?_
      (case side1 => exact ks (Kd.C_below HR0_2.out HB.out))
      (case side2 => exact HC0_2.out)
      rintro e w32 ⟨v172, rfl, ho0, hb⟩
      refine ⟨_, rfl, ?_⟩
      have HO173 := asd (Kd.R_lower (Kd.R_new' ho0 (Kd.R_lt (kr HO_167002))) (bsz2 HB GE152 GE166))
      replace HO_167002 := asd (Kd.R_elder' (kr HO_167002) (Kd.R_base ho0) hb)
      replace BK152 := bB BK152 hb
      replace BK166 := bB BK166 hb
      replace HB := bS2 HB GE152 GE166 hb
      (try clear hb)
      (try clear hb2)
      (try clear hk)
      (try clear hi)
      (try clear ho0)
      obtain ⟨Ao33, co33, eo33⟩ := Kd.R_slice HO173.out
      (first | subst eo33 | (injection eo33 with f1_ f2_ f3_; have f4_ := f1_.symm; have f5_ := f3_.symm; clear f1_ f2_ f3_; subst f4_; subst f5_))
      refine hK.out _ _ (cb3 BK166 (eb3 BK152)).out (fun hHeld => ?_)
      clear hK K
      refine norm_ (a' := ?_) ?_ ?_
      rotate_left
      ·show Act.put _ (some 37) _ = _
       simp only [Act.put, sA, sB, sC, i64_w, i32_w]
       rfl
      refine one_ (i := 3) (N := some 38) (bT 5 4) rfl rfl (by kernel_rfl) (by decide) (fun K hK => ?_)
      refine gs Tryd.func9 #[.agg #[.int .i64 t161, .int .i64 t162, .slice Ao24 t163.length co24], .agg #[.int .i64 t169, .int .i64 t170, .slice Ao33 t171.length co33]] ?_
      with_reducible refine (laws_eqFrieze.calls _ _ _ _ _ _ _ _ _ _ _ _ _ ?side1 ?side2 ?side3 ?side4 A29.out).mono ?_
      (case side1 => exact ks (Kd.R_reads' HO_167002.out).2.2)
      (case side2 => exact (Kd.R_reads' HO_167002.out).2.1)
      (case side3 => exact ks (Kd.R_reads' HO173.out).2.2)
      (case side4 => exact (Kd.R_reads' HO173.out).2.1)
      rintro e w34 ⟨rfl, hb⟩
      refine ⟨_, rfl, ?_⟩
      replace HO_167002 := asd (Kd.R_below (kr HO_167002) hb)
      replace HO173 := asd (Kd.R_below (kr HO173) hb)
      replace BK152 := bB BK152 hb
      replace BK166 := bB BK166 hb
      replace HB := bS2 HB GE152 GE166 hb
      (try clear hb)
      (try clear hb2)
      (try clear hk)
      (try clear hi)
      refine hK.out _ _ (cb3 BK166 (eb3 BK152)).out (fun hHeld => ?_)
      clear hK K
      refine norm_ (a' := ?_) ?_ ?_
      rotate_left
      ·show Act.put _ (some 38) _ = _
       simp only [Act.put, sA, sB, sC, i64_w, i32_w]
       rfl
      refine pure_ (i := 4) (N := some 39) (v := ?_) (a' := ?_) (bT 5 5) rfl rfl (by kernel_rfl) (fun _ _ _ h => h) (Or.inl ⟨by rfl, ?_⟩) ?_ ?_
      rotate_left
      ·intro w'
       go_simp
       with_reducible rfl
      rotate_left
      ·simp only [Act.put, sA, sB, sC, i64_w, i32_w]
       rfl
      refine done_ (by kernel_rfl) ?_
      try go_wp2
      go_ret
      exact er (bbw2 HB GE152 GE166)
     ·replace c30 := Bool.eq_false_iff.mpr c30
      subst c30
      replace H := ifF H
      exact absurd H (by simp)

/-- The one plain statement of laws_FnExactFriezeText. -/
def laws_FnExactFriezeText.Pure : Prop := ∀ (a0_0 : Int) (a0_1 : Int) (l0_2 : List Int), (Lit.int .i64 a0_0).wf = true → (Lit.int .i64 a0_1).wf = true → l0_2.length ≤ maxLen → (∀ x ∈ l0_2, (Lit.int .i64 x).wf = true) → ∃ k, laws_FnExactFriezeText.f k a0_0 a0_1 l0_2 = some true
end Go.Proofs.YtnblfcibgokccaaDoor.PF
