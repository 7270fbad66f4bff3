/- Walks written by program: each Go function that the law reaches comes to the plain function beside it. -/
import Derived.Test.YtfkdcngpjppnbaaPAx0
import Derived.Test.YtfkdcngpjppnbaaPAx2
import Derived.Test.YtfkdcngpjppnbaaPAx3
namespace Go.Proofs.Ytfkdcngpjppnbaa.PA
open Go.RowKit Go.Proofs.YtfkdcngpjppnbaaW.PrintWords Go.Proofs.YtfkdcngpjppnbaaW.PrintLast Go.Proofs.YtfkdcngpjppnbaaW.PrintMore
attribute [local go_sem] max2_int min2_int max_two min_two max_three min_three max_four min_four   -- for this text's walks alone
set_option linter.unusedVariables false
set_option linter.unusedSimpArgs false

/-! ### laws_FnSignatures: function 3 -/
def laws_FnSignatures.j0 : Nat → ByteArray → ByteArray → Int → Bool → Option (Bool)
 | 0, _, _, _, _ => none
 | k + 1, x3, x4, x5, x114 => if x114 = true then (some false) else (if x5 = 0 then ((impl_SignatureCost.f k x4).bind fun bt246 => ((impl_NameOfSignature.f k x4).bind fun bt248 => (if bt246.2 = 0 then (if bt246.1 = 48 then (if bt248.2 = 0 then (some (bt248.1.toList == x3.toList)) else (some false)) else (some false)) else (some false)))) else (some true))
def laws_FnSignatures.f (k : Nat) (l0 : List Int) : Option (Bool) := (laws_big.f l0).bind fun t220 => (if t220 = true then (some true) else ((spec_DrawSignatureOf.f k l0).bind fun t221 => ((impl_SignatureOf.f k t221).bind fun bt222 => ((spec_SignatureOf.f k t221).bind fun bt224 => ((spec_DrawSignatureCost.f k l0).bind fun t226 => ((impl_SignatureCost.f k t226).bind fun bt227 => ((spec_SignatureCost.f k t226).bind fun bt229 => ((impl_NameOfSignature.f k t226).bind fun bt231 => ((spec_NameOfSignature.f k t226).bind fun bt233 => ((impl_PointOrder.f k t221).bind fun bt235 => ((spec_PointOrder.f k t221).bind fun bt237 => (if bt222.2 = bt224.2 then (if bt222.1.toList = bt224.1.toList then (if bt227.2 = bt229.2 then (if bt227.1 = bt229.1 then (if bt231.2 = bt233.2 then (if bt231.1.toList = bt233.1.toList then (if bt235.2 = bt237.2 then (if bt235.1 = bt237.1 then ((impl_GroupNames.f).bind fun t239 => ((spec_GroupNames.f).bind fun t242 => ((laws_likeTexts9.f k t239 t242).bind fun t245 => (laws_FnSignatures.j0 k t221 bt222.1 bt222.2 (!t245))))) else (laws_FnSignatures.j0 k t221 bt222.1 bt222.2 true)) else (laws_FnSignatures.j0 k t221 bt222.1 bt222.2 true)) else (laws_FnSignatures.j0 k t221 bt222.1 bt222.2 true)) else (laws_FnSignatures.j0 k t221 bt222.1 bt222.2 true)) else (laws_FnSignatures.j0 k t221 bt222.1 bt222.2 true)) else (laws_FnSignatures.j0 k t221 bt222.1 bt222.2 true)) else (laws_FnSignatures.j0 k t221 bt222.1 bt222.2 true)) else (laws_FnSignatures.j0 k t221 bt222.1 bt222.2 true)))))))))))))
set_option maxHeartbeats 8000000 in
set_option maxRecDepth 100000 in
theorem laws_FnSignatures.calls (k : Nat) (A0 : Option Addr) (c0 : Nat) (l0 : List Int) (w : World) (hr0 : Kd.C (Kd.int .u8) w A0 l0.length l0) (hc0 : l0.length ≤ c0) (h : laws_FnSignatures.f k l0 = some true) :
  Calls Try.prog 3 #[.slice A0 l0.length c0] w fun e w' => e = .returned (.bool true) ∧ Below w.heap.size w w' := by
 have HR0 := Aside0.mk hr0
 have HC0 := Aside0.mk hc0
 clear hr0 hc0
 have HB := asd (Below.refl w.heap.size w)
 have H : ((laws_big.f l0).bind fun t220 => (if t220 = true then (some true) else ((spec_DrawSignatureOf.f k l0).bind fun t221 => ((impl_SignatureOf.f k t221).bind fun bt222 => ((spec_SignatureOf.f k t221).bind fun bt224 => ((spec_DrawSignatureCost.f k l0).bind fun t226 => ((impl_SignatureCost.f k t226).bind fun bt227 => ((spec_SignatureCost.f k t226).bind fun bt229 => ((impl_NameOfSignature.f k t226).bind fun bt231 => ((spec_NameOfSignature.f k t226).bind fun bt233 => ((impl_PointOrder.f k t221).bind fun bt235 => ((spec_PointOrder.f k t221).bind fun bt237 => (if bt222.2 = bt224.2 then (if bt222.1.toList = bt224.1.toList then (if bt227.2 = bt229.2 then (if bt227.1 = bt229.1 then (if bt231.2 = bt233.2 then (if bt231.1.toList = bt233.1.toList then (if bt235.2 = bt237.2 then (if bt235.1 = bt237.1 then ((impl_GroupNames.f).bind fun t239 => ((spec_GroupNames.f).bind fun t242 => ((laws_likeTexts9.f k t239 t242).bind fun t245 => (laws_FnSignatures.j0 k t221 bt222.1 bt222.2 (!t245))))) else (laws_FnSignatures.j0 k t221 bt222.1 bt222.2 true)) else (laws_FnSignatures.j0 k t221 bt222.1 bt222.2 true)) else (laws_FnSignatures.j0 k t221 bt222.1 bt222.2 true)) else (laws_FnSignatures.j0 k t221 bt222.1 bt222.2 true)) else (laws_FnSignatures.j0 k t221 bt222.1 bt222.2 true)) else (laws_FnSignatures.j0 k t221 bt222.1 bt222.2 true)) else (laws_FnSignatures.j0 k t221 bt222.1 bt222.2 true)) else (laws_FnSignatures.j0 k t221 bt222.1 bt222.2 true)))))))))))))) = some true := h
 clear h
 obtain ⟨t220, A2, H⟩ := ob H
 try dsimp only at H
 by_cases c3 : t220 = true
 ·subst c3
  replace H := ifT H
  clear H
  go_enter Try.func3, Try.ntmps3
  go_wp2_with (first | ((with_reducible refine gate_callee (f := 5) rfl ?_); refine gl 26 Try.func5 #[.slice A0 l0.length c0] ?_; (with_reducible refine (laws_big.calls _ _ _ _ _ ?side1 ?side2 A2.out).mono ?_); (case side1 => exact ks HR0.out); (case side2 => exact HC0.out); rintro e w' ⟨rfl, ⟨nd, rfl⟩⟩; refine ⟨_, rfl, ?_⟩))
  go_ret
  exact er (bbw0 HB)
 ·replace c3 := Bool.eq_false_iff.mpr c3
  subst c3
  replace H := ifF H
  obtain ⟨t221, A4, H⟩ := ob H
  try dsimp only at H
  obtain ⟨⟨t222, t223⟩, A5, H⟩ := ob H
  try dsimp only at H
  obtain ⟨⟨t224, t225⟩, A6, H⟩ := ob H
  try dsimp only at H
  obtain ⟨t226, A7, H⟩ := ob H
  try dsimp only at H
  obtain ⟨⟨t227, t228⟩, A8, H⟩ := ob H
  try dsimp only at H
  obtain ⟨⟨t229, t230⟩, A9, H⟩ := ob H
  try dsimp only at H
  obtain ⟨⟨t231, t232⟩, A10, H⟩ := ob H
  try dsimp only at H
  obtain ⟨⟨t233, t234⟩, A11, H⟩ := ob H
  try dsimp only at H
  obtain ⟨⟨t235, t236⟩, A12, H⟩ := ob H
  try dsimp only at H
  obtain ⟨⟨t237, t238⟩, A13, H⟩ := ob H
  try dsimp only at H
  have HC14 := Aside0.mk H
  clear H
  go_enter Try.func3, Try.ntmps3
  go_upto_region 13 with (first | ((with_reducible refine gate_callee (f := 5) rfl ?_); refine gl 26 Try.func5 #[.slice A0 l0.length c0] ?_; (with_reducible refine (laws_big.calls _ _ _ _ _ ?side1 ?side2 A2.out).mono ?_); (case side1 => exact ks HR0.out); (case side2 => exact HC0.out); rintro e w' ⟨rfl, ⟨nd, rfl⟩⟩; refine ⟨_, rfl, ?_⟩) | ((with_reducible refine gate_callee (f := 6) rfl ?_); refine gl 28 Try.func6 #[.slice A0 l0.length c0] ?_; (with_reducible refine (spec_DrawSignatureOf.calls _ _ _ _ _ _ ?side1 ?side2 A4.out).mono ?_); (case side1 => exact ks HR0.out); (case side2 => exact HC0.out); rintro e w15 ⟨rfl, hb⟩; refine ⟨_, rfl, ?_⟩; replace HB := bS0 HB hb; (try clear hb)) | ((with_reducible refine gate_callee (f := 7) rfl ?_); refine gl 31 Try.func7 #[.string t221] ?_; (with_reducible refine (impl_SignatureOf.calls _ _ _ _ _ A5.out).mono ?_); rintro e w16 ⟨rfl, hb⟩; refine ⟨_, rfl, ?_⟩; replace HB := bS0 HB hb; (try clear hb)) | ((with_reducible refine gate_callee (f := 8) rfl ?_); refine gl 36 Try.func8 #[.string t221] ?_; (with_reducible refine (spec_SignatureOf.calls _ _ _ _ _ A6.out).mono ?_); rintro e w17 ⟨rfl, hb⟩; refine ⟨_, rfl, ?_⟩; replace HB := bS0 HB hb; (try clear hb)) | ((with_reducible refine gate_callee (f := 9) rfl ?_); refine gl 40 Try.func9 #[.slice A0 l0.length c0] ?_; (with_reducible refine (spec_DrawSignatureCost.calls _ _ _ _ _ _ ?side1 ?side2 A7.out).mono ?_); (case side1 => exact ks (Kd.C_below HR0.out HB.out)); (case side2 => exact HC0.out); rintro e w18 ⟨rfl, hb⟩; refine ⟨_, rfl, ?_⟩; replace HB := bS0 HB hb; (try clear hb)) | ((with_reducible refine gate_callee (f := 10) rfl ?_); refine gl 43 Try.func10 #[.string t226] ?_; (with_reducible refine (impl_SignatureCost.calls _ _ _ _ _ A8.out).mono ?_); rintro e w' ⟨rfl, ⟨nd, rfl⟩⟩; refine ⟨_, rfl, ?_⟩) | ((with_reducible refine gate_callee (f := 11) rfl ?_); refine gl 48 Try.func11 #[.string t226] ?_; (with_reducible refine (spec_SignatureCost.calls _ _ _ _ _ A9.out).mono ?_); rintro e w19 ⟨rfl, hb⟩; refine ⟨_, rfl, ?_⟩; replace HB := bS0 HB hb; (try clear hb)) | ((with_reducible refine gate_callee (f := 12) rfl ?_); refine gl 53 Try.func12 #[.string t226] ?_; (with_reducible refine (impl_NameOfSignature.calls _ _ _ _ _ A10.out).mono ?_); rintro e w20 ⟨rfl, hb⟩; refine ⟨_, rfl, ?_⟩; replace HB := bS0 HB hb; (try clear hb)) | ((with_reducible refine gate_callee (f := 13) rfl ?_); refine gl 58 Try.func13 #[.string t226] ?_; (with_reducible refine (spec_NameOfSignature.calls _ _ _ _ _ A11.out).mono ?_); rintro e w21 ⟨rfl, hb⟩; refine ⟨_, rfl, ?_⟩; replace HB := bS0 HB hb; (try clear hb)) | ((with_reducible refine gate_callee (f := 14) rfl ?_); refine gl 63 Try.func14 #[.string t221] ?_; (with_reducible refine (impl_PointOrder.calls _ _ _ _ _ A12.out).mono ?_); rintro e w22 ⟨rfl, hb⟩; refine ⟨_, rfl, ?_⟩; replace HB := bS0 HB hb; (try clear hb)) | ((with_reducible refine gate_callee (f := 15) rfl ?_); refine gl 68 Try.func15 #[.string t221] ?_; (with_reducible refine (spec_PointOrder.calls _ _ _ _ _ A13.out).mono ?_); rintro e w23 ⟨rfl, hb⟩; refine ⟨_, rfl, ?_⟩; replace HB := bS0 HB hb; (try clear hb)))
  (try simp only [Act.put, sA, sB, sC])
  go_cut [114] (fun v114 wc => ∃ (kq : Nat) (x114_13 : Bool), v114 = .bool x114_13 ∧ Aside0 (laws_FnSignatures.j0 kq t221 t222 t223 x114_13 = some true) ∧ Aside0 (kq ≤ k) ∧ Aside0 (Below w.heap.size w wc))
  case first =>
   have H := HC14.out
   clear HC14
   by_cases c24 : t223 = t225
   ·rw [if_pos c24] at H
    have c24b0 : (t223 == t225) = true := beq_iff_eq.mpr c24
    have c24b1 : (t223 != t225) = false := bne_eq_false_iff_eq.mpr c24
    clear c24
    (first | rw [c24b0] | (simp only [i64_w, i32_w]; rw [c24b0]) | skip)
    by_cases c25 : t222.toList = t224.toList
    rw [if_pos c25] at H
    have c25b0 : (t222.toList == t224.toList) = true := beq_iff_eq.mpr c25
    have c25b1 : (t222.toList != t224.toList) = false := bne_eq_false_iff_eq.mpr c25
    clear c25
    by_cases c26 : t228 = t230
    rw [if_pos c26] at H
    have c26b0 : (t228 == t230) = true := beq_iff_eq.mpr c26
    have c26b1 : (t228 != t230) = false := bne_eq_false_iff_eq.mpr c26
    clear c26
    by_cases c27 : t227 = t229
    rw [if_pos c27] at H
    have c27b0 : (t227 == t229) = true := beq_iff_eq.mpr c27
    have c27b1 : (t227 != t229) = false := bne_eq_false_iff_eq.mpr c27
    clear c27
    by_cases c28 : t232 = t234
    rw [if_pos c28] at H
    have c28b0 : (t232 == t234) = true := beq_iff_eq.mpr c28
    have c28b1 : (t232 != t234) = false := bne_eq_false_iff_eq.mpr c28
    clear c28
    by_cases c29 : t231.toList = t233.toList
    rw [if_pos c29] at H
    have c29b0 : (t231.toList == t233.toList) = true := beq_iff_eq.mpr c29
    have c29b1 : (t231.toList != t233.toList) = false := bne_eq_false_iff_eq.mpr c29
    clear c29
    by_cases c30 : t236 = t238
    rw [if_pos c30] at H
    have c30b0 : (t236 == t238) = true := beq_iff_eq.mpr c30
    have c30b1 : (t236 != t238) = false := bne_eq_false_iff_eq.mpr c30
    clear c30
    by_cases c31 : t235 = t237
    rw [if_pos c31] at H
    have c31b0 : (t235 == t237) = true := beq_iff_eq.mpr c31
    have c31b1 : (t235 != t237) = false := bne_eq_false_iff_eq.mpr c31
    clear c31
    obtain ⟨t239, A32, H⟩ := ob H
    try dsimp only at H
    obtain ⟨t242, A33, H⟩ := ob H
    try dsimp only at H
    obtain ⟨t245, A34, H⟩ := ob H
    try dsimp only at H
    have H' := Aside0.mk H
    clear H
    rotate_left
    rw [if_neg c31] at H
    have c31b0 : (t235 == t237) = false := beq_eq_false_iff_ne.mpr c31
    have c31b1 : (t235 != t237) = true := bne_iff_ne.mpr c31
    have H' := Aside0.mk H
    clear H
    rotate_left
    rw [if_neg c30] at H
    have c30b0 : (t236 == t238) = false := beq_eq_false_iff_ne.mpr c30
    have c30b1 : (t236 != t238) = true := bne_iff_ne.mpr c30
    have H' := Aside0.mk H
    clear H
    rotate_left
    rw [if_neg c29] at H
    have c29b0 : (t231.toList == t233.toList) = false := beq_eq_false_iff_ne.mpr c29
    have c29b1 : (t231.toList != t233.toList) = true := bne_iff_ne.mpr c29
    have H' := Aside0.mk H
    clear H
    rotate_left
    rw [if_neg c28] at H
    have c28b0 : (t232 == t234) = false := beq_eq_false_iff_ne.mpr c28
    have c28b1 : (t232 != t234) = true := bne_iff_ne.mpr c28
    have H' := Aside0.mk H
    clear H
    rotate_left
    rw [if_neg c27] at H
    have c27b0 : (t227 == t229) = false := beq_eq_false_iff_ne.mpr c27
    have c27b1 : (t227 != t229) = true := bne_iff_ne.mpr c27
    have H' := Aside0.mk H
    clear H
    rotate_left
    rw [if_neg c26] at H
    have c26b0 : (t228 == t230) = false := beq_eq_false_iff_ne.mpr c26
    have c26b1 : (t228 != t230) = true := bne_iff_ne.mpr c26
    have H' := Aside0.mk H
    clear H
    rotate_left
    rw [if_neg c25] at H
    have c25b0 : (t222.toList == t224.toList) = false := beq_eq_false_iff_ne.mpr c25
    have c25b1 : (t222.toList != t224.toList) = true := bne_iff_ne.mpr c25
    have H' := Aside0.mk H
    clear H
    rotate_left
    ·go_wp2_with (first | (go_at_call 17; (with_reducible refine (impl_GroupNames.calls _ _ A32.out).mono ?_); rintro e w35 ⟨v240, rfl, ho0, hb⟩; have HO241 := asd (Kd.R_lower ho0 (bsz0 HB)); replace HB := bS0 HB hb; (try clear hb); (try clear hb2); (try clear hk); (try clear hi); (try clear ho0)) | (go_at_call 18; (with_reducible refine (spec_GroupNames.calls _ _ A33.out).mono ?_); rintro e w36 ⟨v243, rfl, ho0, hb⟩; have HO244 := asd (Kd.R_lower (Kd.R_new' ho0 (Kd.R_lt (kr HO241))) (bsz0 HB)); replace HO241 := asd (Kd.R_elder' (kr HO241) (Kd.R_base ho0) hb); replace HB := bS0 HB hb; (try clear hb); (try clear hb2); (try clear hk); (try clear hi); (try clear ho0); obtain ⟨Ao37, co37, eo37⟩ := Kd.R_slice HO241.out; subst eo37; obtain ⟨Ao38, co38, eo38⟩ := Kd.R_slice HO244.out; subst eo38) | (go_at_call 16; (with_reducible refine (laws_likeTexts9.calls _ _ _ _ _ _ _ _ _ ?side1 ?side2 ?side3 ?side4 A34.out).mono ?_); (case side1 => exact ks (Kd.R_reads' HO241.out).2.2); (case side2 => exact (Kd.R_reads' HO241.out).2.1); (case side3 => exact ks (Kd.R_reads' HO244.out).2.2); (case side4 => exact (Kd.R_reads' HO244.out).2.1); rintro e w' ⟨rfl, ⟨nd, rfl⟩⟩))
     go_meet
     case rel => exact ⟨_, (!t245), (by first | rfl | (simp; done) | (simp [*]; done)), H', ⟨by first | omega | exact Nat.le_refl _⟩, ⟨bbw0 HB⟩⟩
    rotate_left 7
    all_goals
     go_wp2
     go_meet
     case rel => exact ⟨_, (true), (by first | rfl | (simp; done) | (simp [*]; done)), H', ⟨by first | omega | exact Nat.le_refl _⟩, ⟨bbw0 HB⟩⟩
   ·rw [if_neg c24] at H
    have c24b0 : (t223 == t225) = false := beq_eq_false_iff_ne.mpr c24
    have c24b1 : (t223 != t225) = true := bne_iff_ne.mpr c24
    (first | rw [c24b0] | (simp only [i64_w, i32_w]; rw [c24b0]) | skip)
    have H' := Aside0.mk H
    clear H
    go_wp2
    go_meet
    case rel => exact ⟨_, (true), (by first | rfl | (simp; done) | (simp [*]; done)), H', ⟨by first | omega | exact Nat.le_refl _⟩, ⟨bbw0 HB⟩⟩
  case rest =>
   clear HC14
   try clear c1
   try clear c2
   try clear p2
   try clear c3
   try clear c5
   try clear c6
   try clear c7
   try clear c8
   try clear c9
   try clear c10
   try clear c11
   try clear c12
   try clear c13
   try clear c14
   try clear c15
   try clear c24
   try clear c24b0
   try clear c24b1
   try clear c25
   try clear c25b0
   try clear c25b1
   try clear c26
   try clear c26b0
   try clear c26b1
   try clear c27
   try clear c27b0
   try clear c27b1
   try clear c28
   try clear c28b0
   try clear c28b1
   try clear c29
   try clear c29b0
   try clear c29b1
   try clear c30
   try clear c30b0
   try clear c30b1
   try clear c31
   try clear c31b0
   try clear c31b1
   obtain ⟨kq, x114_13, rfl, HA, HJ13, HB⟩ := hcut
   cases kq with
   | zero => exact absurd HA.out (by simp [laws_FnSignatures.j0])
   | succ kj13 =>
    have H := HA.out
    clear HA
    simp only [laws_FnSignatures.j0] at H
    by_cases c39 : x114_13 = true
    ·subst c39
     replace H := ifT H
     exact absurd H (by simp)
    ·replace c39 := Bool.eq_false_iff.mpr c39
     subst c39
     replace H := ifF H
     by_cases c40 : t223 = 0
     ·rw [if_pos c40] at H
      have c40b0 : (t223 == 0) = true := beq_iff_eq.mpr c40
      have c40b1 : (t223 != 0) = false := bne_eq_false_iff_eq.mpr c40
      clear c40
      obtain ⟨⟨t246, t247⟩, A41, H⟩ := ob H
      try dsimp only at H
      obtain ⟨⟨t248, t249⟩, A42, H⟩ := ob H
      try dsimp only at H
      by_cases c43 : t247 = 0
      ·rw [if_pos c43] at H
       have c43b0 : (t247 == 0) = true := beq_iff_eq.mpr c43
       have c43b1 : (t247 != 0) = false := bne_eq_false_iff_eq.mpr c43
       clear c43
       by_cases c44 : t246 = 48
       ·rw [if_pos c44] at H
        have c44b0 : (t246 == 48) = true := beq_iff_eq.mpr c44
        have c44b1 : (t246 != 48) = false := bne_eq_false_iff_eq.mpr c44
        clear c44
        by_cases c45 : t249 = 0
        ·rw [if_pos c45] at H
         have c45b0 : (t249 == 0) = true := beq_iff_eq.mpr c45
         have c45b1 : (t249 != 0) = false := bne_eq_false_iff_eq.mpr c45
         clear c45
         replace H := Option.some.inj H
         go_wp2_with (first | ((with_reducible refine gate_callee (f := 10) rfl ?_); refine gl 119 Try.func10 #[.string t222] ?_; (with_reducible refine (impl_SignatureCost.calls _ _ _ _ _ A41.out).mono ?_); rintro e w' ⟨rfl, ⟨nd, rfl⟩⟩; refine ⟨_, rfl, ?_⟩) | ((with_reducible refine gate_callee (f := 12) rfl ?_); refine gl 124 Try.func12 #[.string t222] ?_; (with_reducible refine (impl_NameOfSignature.calls _ _ _ _ _ A42.out).mono ?_); rintro e w46 ⟨rfl, hb⟩; refine ⟨_, rfl, ?_⟩; replace HB := bS0 HB hb; (try clear hb)))
         go_ret
         exact er (bbw0 HB)
        ·rw [if_neg c45] at H
         have c45b0 : (t249 == 0) = false := beq_eq_false_iff_ne.mpr c45
         have c45b1 : (t249 != 0) = true := bne_iff_ne.mpr c45
         exact absurd H (by simp)
       ·rw [if_neg c44] at H
        have c44b0 : (t246 == 48) = false := beq_eq_false_iff_ne.mpr c44
        have c44b1 : (t246 != 48) = true := bne_iff_ne.mpr c44
        exact absurd H (by simp)
      ·rw [if_neg c43] at H
       have c43b0 : (t247 == 0) = false := beq_eq_false_iff_ne.mpr c43
       have c43b1 : (t247 != 0) = true := bne_iff_ne.mpr c43
       exact absurd H (by simp)
     ·rw [if_neg c40] at H
      have c40b0 : (t223 == 0) = false := beq_eq_false_iff_ne.mpr c40
      have c40b1 : (t223 != 0) = true := bne_iff_ne.mpr c40
      clear H
      go_wp2
      go_ret
      exact er (bbw0 HB)

/-- The one plain statement of laws_FnSignatures. -/
def laws_FnSignatures.Pure : Prop := ∀ (l0 : List Int), l0.length ≤ maxLen → (∀ x ∈ l0, (Lit.int .u8 x).wf = true) → ∃ k, laws_FnSignatures.f k l0 = some true
end Go.Proofs.Ytfkdcngpjppnbaa.PA
