/- Walks written by program: each Go function that the law reaches comes to the plain function beside it. -/
import Derived.Test.YtfhbhjlgepjlfaaDoorPRx0
import Derived.Test.YtfhbhjlgepjlfaaDoorPRx2
import Derived.Test.YtfhbhjlgepjlfaaDoorPRx3
namespace Go.Proofs.YtfhbhjlgepjlfaaDoor.PR
open Go.RowKit Go.Proofs.YtfhbhjlgepjlfaaDoorW.PrintWords Go.Proofs.YtfhbhjlgepjlfaaDoorW.PrintLast Go.Proofs.YtfhbhjlgepjlfaaDoorW.PrintMore
attribute [local go_sem] max2_int min2_int max_two min_two max_three min_three max_four min_four   -- for this text's walks alone
set_option linter.unusedVariables false
set_option linter.unusedSimpArgs false

/-! ### impl_ReadPattern: function 15 -/
def impl_ReadPattern.f (k : Nat) (a0 : ByteArray) : Option (Int × Int × Int × Int × List Int × Int) := (strings_Split.f a0 (⟨#[32]⟩ : ByteArray)).bind fun t244 => (if (t244.length : Int) = 3 then (if 1 < (t244.length : Int) then ((impl_ReadLattice.f k (rdOf ByteArray.empty t244 1)).bind fun bt248 => (if 2 < (t244.length : Int) then ((impl_readDigits.f k (rdOf ByteArray.empty t244 2)).bind fun bt254 => (if 0 < (t244.length : Int) then ((strings_Index.f (⟨#[83, 72]⟩ : ByteArray) (rdOf ByteArray.empty t244 0)).bind fun t259 => (if bt248.2.2.2 = true then (if bt254.2 = true then ((impl_IsPattern.f t259 bt248.1 bt248.2.1 bt248.2.2.1 bt254.1).bind fun t261 => (if t261 = true then ((impl_patternText.f k t259 bt248.1 bt248.2.1 bt248.2.2.1 bt254.1).bind fun t262 => (if t262.toList = a0.toList then (some (t259, bt248.1, bt248.2.1, bt248.2.2.1, bt254.1, 0)) else (some (0, 0, 0, 0, ([] : List Int), 6)))) else (some (0, 0, 0, 0, ([] : List Int), 6)))) else (some (0, 0, 0, 0, ([] : List Int), 6))) else (some (0, 0, 0, 0, ([] : List Int), 6)))) else (none))) else (none))) else (none)) else (some (0, 0, 0, 0, ([] : List Int), 6)))
def impl_ReadPattern.T6 : Bool × List (List Nat × List Nat) := (true, [([], []), ([0], [0]), ([1], [1]), ([2], [2]), ([], []), ([], []), ([3, 4, 5], [3, 4, 5]), ([], []), ([7, 6, 3, 0, 1, 2, 3, 4, 5, 6, 7], [6, 7])])
def impl_ReadPattern.B6 : List Nat := [0, 1, 3, 7, 0, 0, 63, 0, 255]
theorem impl_ReadPattern.tab6 : rtab .any (opsOf Tryd.f15 6) = impl_ReadPattern.T6 := by kernel_rfl
theorem impl_ReadPattern.bits6 : waitsOk impl_ReadPattern.T6.2 impl_ReadPattern.B6 = true := by kernel_rfl
set_option maxHeartbeats 8000000 in
set_option maxRecDepth 100000 in
theorem impl_ReadPattern.calls (k : Nat) (a0 : ByteArray) (r1 : Int) (r2 : Int) (r3 : Int) (r4 : Int) (r5 : List Int) (r6 : Int) (w : World) (htab : texts.Tab w) (h : impl_ReadPattern.f k a0 = some (r1, r2, r3, r4, r5, r6)) :
  Calls Tryd.prog 15 #[.string a0] w fun e w' => ∃ v4_ : Value, e = .returned (.tuple #[.agg #[.int .i64 r1, .int .i64 r2, .int .i64 r3, .int .i64 r4, v4_], .int .i64 r6]) ∧ Kd.R (Kd.int .i64) 2 w' w.heap.size (fun _ => True) v4_ r5 ∧ Below w.heap.size w w' := by
 have HTAB := Aside0.mk htab
 clear htab
 have hu42 := Tryd.underlying42
 have hu40 := Tryd.underlying40
 have HB := asd (Below.refl w.heap.size w)
 have H : ((strings_Split.f a0 (⟨#[32]⟩ : ByteArray)).bind fun t244 => (if (t244.length : Int) = 3 then (if 1 < (t244.length : Int) then ((impl_ReadLattice.f k (rdOf ByteArray.empty t244 1)).bind fun bt248 => (if 2 < (t244.length : Int) then ((impl_readDigits.f k (rdOf ByteArray.empty t244 2)).bind fun bt254 => (if 0 < (t244.length : Int) then ((strings_Index.f (⟨#[83, 72]⟩ : ByteArray) (rdOf ByteArray.empty t244 0)).bind fun t259 => (if bt248.2.2.2 = true then (if bt254.2 = true then ((impl_IsPattern.f t259 bt248.1 bt248.2.1 bt248.2.2.1 bt254.1).bind fun t261 => (if t261 = true then ((impl_patternText.f k t259 bt248.1 bt248.2.1 bt248.2.2.1 bt254.1).bind fun t262 => (if t262.toList = a0.toList then (some (t259, bt248.1, bt248.2.1, bt248.2.2.1, bt254.1, 0)) else (some (0, 0, 0, 0, ([] : List Int), 6)))) else (some (0, 0, 0, 0, ([] : List Int), 6)))) else (some (0, 0, 0, 0, ([] : List Int), 6))) else (some (0, 0, 0, 0, ([] : List Int), 6)))) else (none))) else (none))) else (none)) else (some (0, 0, 0, 0, ([] : List Int), 6)))) = some (r1, r2, r3, r4, r5, r6) := h
 clear h
 obtain ⟨t244, A2, H⟩ := ob H
 try dsimp only at H
 by_cases c3 : (t244.length : Int) = 3
 ·rw [if_pos c3] at H
  have c3b0 : ((t244.length : Int) == 3) = true := beq_iff_eq.mpr c3
  have c3b1 : ((t244.length : Int) != 3) = false := bne_eq_false_iff_eq.mpr c3
  clear c3
  by_cases c4 : 1 < (t244.length : Int)
  ·rw [if_pos c4] at H
   have c4b0 := decide_eq_true c4
   have c4b1 : decide (1 < t244.length) = true := decide_eq_true (by omega)
   clear c4
   obtain ⟨⟨t248, t249, t250, t251⟩, A5, H⟩ := ob H
   try dsimp only at H
   by_cases c6 : 2 < (t244.length : Int)
   ·rw [if_pos c6] at H
    have c6b0 := decide_eq_true c6
    have c6b1 : decide (2 < t244.length) = true := decide_eq_true (by omega)
    clear c6
    obtain ⟨⟨t254, t255⟩, A7, H⟩ := ob H
    try dsimp only at H
    by_cases c8 : 0 < (t244.length : Int)
    ·rw [if_pos c8] at H
     have c8b0 := decide_eq_true c8
     have c8b1 : decide (0 < t244.length) = true := decide_eq_true (by omega)
     clear c8
     obtain ⟨t259, A9, H⟩ := ob H
     try dsimp only at H
     by_cases c10 : t251 = true
     ·subst c10
      replace H := ifT H
      by_cases c11 : t255 = true
      ·subst c11
       replace H := ifT H
       obtain ⟨t261, A12, H⟩ := ob H
       try dsimp only at H
       by_cases c13 : t261 = true
       ·subst c13
        replace H := ifT H
        obtain ⟨t262, A14, H⟩ := ob H
        try dsimp only at H
        by_cases c15 : t262.toList = a0.toList
        ·rw [if_pos c15] at H
         have c15b0 : (t262.toList == a0.toList) = true := beq_iff_eq.mpr c15
         have c15b1 : (t262.toList != a0.toList) = false := bne_eq_false_iff_eq.mpr c15
         clear c15
         simp only [Option.some.injEq, Prod.mk.injEq] at H
         obtain ⟨rfl, rfl, rfl, rfl, rfl, rfl⟩ := H
         go_enter Tryd.func15, Tryd.ntmps15
         try go_wp2_with (first | ((with_reducible refine gd 2 rfl ?_); refine bx #[.int .i64 0, .int .i64 0, .int .i64 0, .int .i64 0, .slice none 0 0] 42 ?_; intro gb243 hg w16 BK243 hb; have GE243 := ngw0 hg HB; replace HB := bS0 HB hb; clear hb hg) | ((with_reducible refine gate_callee (f := 38) rfl ?_); refine gl 11 Tryd.func38 #[.string a0, .string (⟨#[32]⟩ : ByteArray)] ?_; (with_reducible refine (strings_Split.calls _ _ _ _ (texts.tabB HTAB.out (by repeat (first | (with_reducible first | exact HB.out | exact Below.refl _ _ | apply below_alloc | apply pw_below_drewN | apply below_drew1 | refine below_set ?_ GE243.out | refine below_set ?_ GE252.out | refine below_set ?_ GE260.out) | exact HB.out))) A2.out).mono ?_); rintro e w17 ⟨v245, rfl, ho0, hb⟩; refine ⟨_, rfl, ?_⟩; have HO246 := asd (Kd.R_lower ho0 (bsz1 HB GE243)); replace BK243 := bB BK243 hb; replace HB := bS1 HB GE243 hb; (try clear hb); (try clear hb2); (try clear hk); (try clear hi); (try clear ho0); obtain ⟨Ao18, co18, eo18⟩ := Kd.R_slice HO246.out; subst eo18; have p247 : 0 ≤ (1 : Int) := (by omega); have q247 : 1 < (t244.length : Int) := od; obtain ⟨ad247, e247, hx247_0⟩ := Kd.at_string (Kd.R_reads' HO246.out).2.2 1 p247 q247; cases e247; (try simp only [show (1 : Int).toNat = 1 from rfl, Nat.reduceMul, Nat.reduceEqDiff, Go.Addr.add, ↓reduceIte] at hx247_0); have qi247 : (1 < t244.length) = True := eq_true (by omega); (try rw [show ((1 : Int)).toNat = 1 from rfl] at hx247_0); replace p247 := eq_true p247; replace q247 := eq_true q247) | ((with_reducible refine gate_callee (f := 39) rfl ?_); refine gl 20 Tryd.func39 #[.string (rdOf ByteArray.empty t244 1)] ?_; (with_reducible refine (impl_ReadLattice.calls _ _ _ _ _ _ _ (texts.tabB HTAB.out (by repeat (first | (with_reducible first | exact HB.out | exact Below.refl _ _ | apply below_alloc | apply pw_below_drewN | apply below_drew1 | refine below_set ?_ GE243.out | refine below_set ?_ GE252.out | refine below_set ?_ GE260.out) | exact HB.out))) A5.out).mono ?_); rintro e w19 ⟨rfl, hb⟩; refine ⟨_, rfl, ?_⟩; replace HO246 := asd (Kd.R_below (kr HO246) hb); replace BK243 := bB BK243 hb; replace HB := bS1 HB GE243 hb; (try clear hb)) | ((with_reducible refine gd 5 rfl ?_); refine bx #[.int .i64 0, .int .i64 0, .int .i64 0] 40 ?_; intro gb252 hg w20 BK252 hb; replace HO246 := asd (Kd.R_below (kr HO246) hb); have GE252 := ngw1 hg HB GE243; replace HB := bS1 HB GE243 hb; have NB243_252 := nlt hg BK243; have NB252_243 := nsy (nlt hg BK243); replace BK243 := bB BK243 hb; clear hb hg; have hnb21 := NB252_243.out; have hnc21 := NB243_252.out; obtain ⟨hcz22_0, hcz22_1, hcz22_2, hfz22_0, hfz22_1, hfz22_2⟩ := bz3 BK252; have p253 : 0 ≤ (2 : Int) := (by omega); have q253 : 2 < (t244.length : Int) := od; obtain ⟨ad253, e253, hx253_0⟩ := Kd.at_string (Kd.R_reads' HO246.out).2.2 2 p253 q253; obtain rfl : ad247 = ad253 := (by injection e253); (try simp only [show (2 : Int).toNat = 2 from rfl, Nat.reduceMul, Nat.reduceEqDiff, Go.Addr.add, ↓reduceIte] at hx253_0); have qi253 : (2 < t244.length) = True := eq_true (by omega); (try rw [show ((2 : Int)).toNat = 2 from rfl] at hx253_0); have hn253_0 : ad247.block ≠ gb252 := Kd.own_blk (Kd.R_ne HO246.out BK252.out (by decide)); have hn253_1 : ad247.block ≠ gb252 := Kd.own_blk (Kd.R_ne HO246.out BK252.out (by decide)); have hn253_2 : ad247.block ≠ gb252 := Kd.own_blk (Kd.R_ne HO246.out BK252.out (by decide)); replace hx253_0 := cw3 (.int .i64 t248) (.int .i64 t249) (.int .i64 t250) hn253_0 hx253_0; clear hn253_0; clear hn253_1; clear hn253_2; replace p253 := eq_true p253; replace q253 := eq_true q253) | ((with_reducible refine gate_callee (f := 40) rfl ?_); refine gl 27 Tryd.func40 #[.string (rdOf ByteArray.empty t244 2)] ?_; (with_reducible refine (impl_readDigits.calls _ _ _ _ _ A7.out).mono ?_); rintro e w23 ⟨v256, rfl, ho0, hb⟩; refine ⟨_, rfl, ?_⟩; replace HO246 := asd (Kd.R_below (by (with_reducible repeat (first | apply Kd.R_alloc | apply Kd.R_drewN | apply Kd.R_drew)); exact (Kd.R_mono (rw3 (Kd.R_types HO246.out BK252.out (by decide))) (fun _ h_ => h_.1))) hb); have HO257 := asd (Kd.R_lower ho0 (bsz2 HB GE243 GE252)); replace BK243 := asd (blk_below (g := gb243) (o := .cells #[.int .i64 0, .int .i64 0, .int .i64 0, .int .i64 0, .slice none 0 0] 42 (0, 0)) (bq1 BK243 NB243_252) hb); replace BK252 := asd (blk_below (g := gb252) (o := .cells #[.int .i64 t248, .int .i64 t249, .int .i64 t250] 40 (0, 0)) (bq0 BK252) hb); replace HB := bS2 HB GE243 GE252 hb; (try clear hb); (try clear hb2); (try clear hk); (try clear hi); (try clear ho0)))
         replace HO246 := asd (Kd.R_drew HO246.out)
         replace HO257 := asd (Kd.R_drew HO257.out)
         replace BK243 := asd (blk_drew BK243.out)
         replace BK252 := asd (blk_drew BK252.out)
         replace HB := asd (below_drew1 HB.out)
         have p258 : 0 ≤ (0 : Int) := (by omega)
         have q258 : 0 < (t244.length : Int) := od
         obtain ⟨ad258, e258, hx258_0⟩ := Kd.at_string (Kd.R_reads' HO246.out).2.2 0 p258 q258
         obtain rfl : ad247 = ad258 := (by injection e258)
         have qi258 : (0 < t244.length) = True := eq_true (by omega)
         (try rw [show ((0 : Int)).toNat = 0 from rfl] at hx258_0)
         (try rw [Addr.add_zero'] at hx258_0)
         replace p258 := eq_true p258
         replace q258 := eq_true q258
         refine sh 9 (cb3 BK252 (e1 hx258_0)) (fun hHeld => ?_); refine with_tabW impl_ReadPattern.tab6 impl_ReadPattern.bits6 (fun HT_ HW_ => ?_)
         generalize w23.drew = w24 at HO246 HO257 BK243 BK252 HB hx258_0 hHeld ⊢
         refine pu 0 (some 30) (bT 9 1) HT_ ?_
         refine pu 1 (some 31) (bT 9 2) HT_ ?_
         refine pu 5 (some 35) (bs 9 35) HT_ ?_
         refine ta 2 (some 32) (bs 9 39) HT_ HW_ hHeld ?_
         refine ta 4 (some 34) (bs 9 55) HT_ HW_ hHeld ?_
         obtain ⟨Ao26, co26, eo26⟩ := Kd.R_slice HO257.out
         (first | subst eo26 | (injection eo26 with f1_ f2_ f3_; have f4_ := f1_.symm; have f5_ := f3_.symm; clear f1_ f2_ f3_; subst f4_; subst f5_))
         refine join_ (σ := Nat) 1 (bT 9 8) (fun s_ => [(33, .int .i64 t259), (9, .pointer (some ⟨s_, 0, none⟩)), (36, .agg #[.int .i64 t259, .int .i64 t248, .int .i64 t249, .int .i64 t250, .slice Ao26 t254.length co26])]) (fun s_ w' => (w'.cell? ⟨gb252, 0, none⟩ = some (.int .i64 t248) ∧ w'.cell? ⟨gb252, 1, none⟩ = some (.int .i64 t249) ∧ w'.cell? ⟨gb252, 2, none⟩ = some (.int .i64 t250) ∧ w'.cell? ad247 = some (.string (rdOf ByteArray.empty t244 0))) ∧ (Kd.R Kd.string 9 w' w.heap.size (fun _ => True) (.slice (some ad247) t244.length co18) t244) ∧ (Kd.R (Kd.int .i64) 2 w' w.heap.size (fun _ => True) (.slice Ao26 t254.length co26) t254) ∧ (w'.heap[gb243]? = some (.cells #[.int .i64 0, .int .i64 0, .int .i64 0, .int .i64 0, .slice none 0 0] 42 (0, 0))) ∧ (w'.heap[gb252]? = some (.cells #[.int .i64 t248, .int .i64 t249, .int .i64 t250] 40 (0, 0))) ∧ (w'.heap[s_]? = some (.cells #[.int .i64 0, .int .i64 0, .int .i64 0, .int .i64 0, .slice none 0 0] 42 (0, 0))) ∧ (w.heap.size ≤ s_) ∧ (w.heap.size ≤ s_) ∧ (gb243 ≠ s_) ∧ (s_ ≠ gb243) ∧ (gb252 ≠ s_) ∧ (s_ ≠ gb252) ∧ (Below w.heap.size w w')) ?_ ?_
         rotate_left
         ·intro hCont
          refine two_ (i := 3) (j := 7) (Ni := some 33) (Nj := some 9) (bT 9 6) (bs 9 183) rfl rfl rfl rfl (two_of HT_.out (by kernel_rfl)) (by decide) (by decide) (fun K hK => ?_) (fun K hK => ?_)
          ·skip
           refine gs Tryd.func41 #[.string (⟨#[83, 72]⟩ : ByteArray), .string (rdOf ByteArray.empty t244 0)] ?_
           with_reducible refine (strings_Index.calls _ _ _ _ (texts.tabB HTAB.out (by repeat (first | (with_reducible first | exact HB.out | exact Below.refl _ _ | apply below_alloc | apply pw_below_drewN | apply below_drew1 | refine below_set ?_ GE243.out | refine below_set ?_ GE252.out | refine below_set ?_ GE260.out) | exact HB.out))) A9.out).mono ?_
           rintro e w25 ⟨rfl, hb⟩
           have HS3_ := (hb.cell (World.block_lt_of_cell? _ _ (hHeld.2.2.2))).trans (hHeld.2.2.2)
           refine ⟨_, rfl, ?_⟩
           replace HO246 := asd (Kd.R_below (kr HO246) hb)
           replace HO257 := asd (Kd.R_below (kr HO257) hb)
           replace BK243 := bB BK243 hb
           replace BK252 := bB BK252 hb
           replace HB := bS2 HB GE243 GE252 hb
           (try clear hb)
           (try clear hb2)
           (try clear hk)
           (try clear hi)
           refine hK.out _ _ ⟨bcl BK252 0, bcl BK252 1, bcl BK252 2, HS3_⟩ (fun hHeld => ?_)
           clear hK K
           refine norm_ (a' := ?_) ?_ ?_
           rotate_left
           ·show Act.put _ (some 33) _ = _
            simp only [Act.put, sA, sB, sC, i64_w, i32_w]
            rfl
           refine pu 6 (some 36) (bT 9 7) HT_ ?_
           refine ro 7 (some 9) (bT 9 8) HT_ (fun K hK => ?_)
           refine box_step ?hg (N := 9) ?hd (cs := #[.int .i64 0, .int .i64 0, .int .i64 0, .int .i64 0, .slice none 0 0]) (t := 42) ?hr ?_; (case hd => rfl); (case hg => rfl); (case hr => first | (go_simp; done) | (go_simp; rfl))
           intro gb260 hg w27 hbox hb
           have HS3_ := (hb.cell (World.block_lt_of_cell? _ _ (hHeld.2.2.2))).trans (hHeld.2.2.2)
           replace HO246 := asd (Kd.R_below (kr HO246) hb)
           replace HO257 := asd (Kd.R_below (kr HO257) hb)
           have BK260 := asd (hbox)
           have GW260 := ngw2 hg HB GE243 GE252
           have GE260 := ngw2 hg HB GE243 GE252
           replace HB := bS2 HB GE243 GE252 hb
           have NB243_260 := nlt hg BK243
           have NB260_243 := nsy (nlt hg BK243)
           replace BK243 := bB BK243 hb
           have NB252_260 := nlt hg BK252
           have NB260_252 := nsy (nlt hg BK252)
           replace BK252 := bB BK252 hb
           clear hb hbox hg
           refine hK.out _ _ ⟨bcl BK252 0, bcl BK252 1, bcl BK252 2, HS3_⟩ (fun hHeld => ?_)
           clear hK K
           refine norm_ (a' := ?_) ?_ ?_
           rotate_left
           ·show Act.put _ (some 9) _ = _
            simp only [Act.put, sA, sB, sC, i64_w, i32_w]
            rfl
           exact norm_ (by simp only [putAll, Act.put, sA, sB, sC]) (hCont (gb260) _ ⟨hHeld, (kr HO246), (kr HO257), (bkp BK243), (bkp BK252), (bkp BK260), GW260.out, GE260.out, NB243_260.out, NB260_243.out, NB252_260.out, NB260_252.out, (bbw3 HB GE243 GE252 GE260)⟩)
          ·skip
           refine box_step ?hg (N := 9) ?hd (cs := #[.int .i64 0, .int .i64 0, .int .i64 0, .int .i64 0, .slice none 0 0]) (t := 42) ?hr ?_; (case hd => rfl); (case hg => rfl); (case hr => first | (go_simp; done) | (go_simp; rfl))
           intro gb260 hg w25 hbox hb
           have HS3_ := (hb.cell (World.block_lt_of_cell? _ _ (hHeld.2.2.2))).trans (hHeld.2.2.2)
           replace HO246 := asd (Kd.R_below (kr HO246) hb)
           replace HO257 := asd (Kd.R_below (kr HO257) hb)
           have BK260 := asd (hbox)
           have GW260 := ngw2 hg HB GE243 GE252
           have GE260 := ngw2 hg HB GE243 GE252
           replace HB := bS2 HB GE243 GE252 hb
           have NB243_260 := nlt hg BK243
           have NB260_243 := nsy (nlt hg BK243)
           replace BK243 := bB BK243 hb
           have NB252_260 := nlt hg BK252
           have NB260_252 := nsy (nlt hg BK252)
           replace BK252 := bB BK252 hb
           clear hb hbox hg
           refine hK.out _ _ ⟨bcl BK252 0, bcl BK252 1, bcl BK252 2, HS3_⟩ (fun hHeld => ?_)
           clear hK K
           refine norm_ (a' := ?_) ?_ ?_
           rotate_left
           ·show Act.put _ (some 9) _ = _
            simp only [Act.put, sA, sB, sC, i64_w, i32_w]
            rfl
           refine ro 3 (some 33) (bs 9 191) HT_ (fun K hK => ?_)
           refine gs Tryd.func41 #[.string (⟨#[83, 72]⟩ : ByteArray), .string (rdOf ByteArray.empty t244 0)] ?_
           with_reducible refine (strings_Index.calls _ _ _ _ (texts.tabB HTAB.out (by repeat (first | (with_reducible first | exact HB.out | exact Below.refl _ _ | apply below_alloc | apply pw_below_drewN | apply below_drew1 | refine below_set ?_ GE243.out | refine below_set ?_ GE252.out | refine below_set ?_ GE260.out) | exact HB.out))) A9.out).mono ?_
           rintro e w26 ⟨rfl, hb⟩
           have HS3_ := (hb.cell (World.block_lt_of_cell? _ _ (hHeld.2.2.2))).trans (hHeld.2.2.2)
           refine ⟨_, rfl, ?_⟩
           replace HO246 := asd (Kd.R_below (kr HO246) hb)
           replace HO257 := asd (Kd.R_below (kr HO257) hb)
           replace BK243 := bB BK243 hb
           replace BK252 := bB BK252 hb
           replace BK260 := bB BK260 hb
           replace HB := bS3 HB GE243 GE252 GE260 hb
           (try clear hb)
           (try clear hb2)
           (try clear hk)
           (try clear hi)
           refine hK.out _ _ ⟨bcl BK252 0, bcl BK252 1, bcl BK252 2, HS3_⟩ (fun hHeld => ?_)
           clear hK K
           refine norm_ (a' := ?_) ?_ ?_
           rotate_left
           ·show Act.put _ (some 33) _ = _
            simp only [Act.put, sA, sB, sC, i64_w, i32_w]
            rfl
           refine pu 6 (some 36) (bT 9 8) HT_ ?_
           exact norm_ (by simp only [putAll, Act.put, sA, sB, sC]) (hCont (gb260) _ ⟨hHeld, (kr HO246), (kr HO257), (bkp BK243), (bkp BK252), (bkp BK260), GW260.out, GE260.out, NB243_260.out, NB260_243.out, NB252_260.out, NB260_252.out, (bbw3 HB GE243 GE252 GE260)⟩)
         rintro gb260 w28 ⟨hS_, h0_, h1_, h2_, h3_, h4_, h5_, h6_, h7_, h8_, h9_, h10_, h11_⟩
         have n0_ : Aside0 (Kd.R Kd.string 9 w28 w.heap.size (fun _ => True) (.slice (some ad247) t244.length co18) t244) := ⟨h0_⟩
         have n1_ : Aside0 (Kd.R (Kd.int .i64) 2 w28 w.heap.size (fun _ => True) (.slice Ao26 t254.length co26) t254) := ⟨h1_⟩
         have n2_ : Aside0 (w28.heap[gb243]? = some (.cells #[.int .i64 0, .int .i64 0, .int .i64 0, .int .i64 0, .slice none 0 0] 42 (0, 0))) := ⟨h2_⟩
         have n3_ : Aside0 (w28.heap[gb252]? = some (.cells #[.int .i64 t248, .int .i64 t249, .int .i64 t250] 40 (0, 0))) := ⟨h3_⟩
         have n4_ : Aside0 (w28.heap[gb260]? = some (.cells #[.int .i64 0, .int .i64 0, .int .i64 0, .int .i64 0, .slice none 0 0] 42 (0, 0))) := ⟨h4_⟩
         have n5_ : Aside0 (w.heap.size ≤ gb260) := ⟨h5_⟩
         have n6_ : Aside0 (w.heap.size ≤ gb260) := ⟨h6_⟩
         have n7_ : Aside0 (gb243 ≠ gb260) := ⟨h7_⟩
         have n8_ : Aside0 (gb260 ≠ gb243) := ⟨h8_⟩
         have n9_ : Aside0 (gb252 ≠ gb260) := ⟨h9_⟩
         have n10_ : Aside0 (gb260 ≠ gb252) := ⟨h10_⟩
         have n11_ : Aside0 (Below w.heap.size w w28) := ⟨h11_⟩
         clear HO246
         clear HO257
         clear BK243
         clear BK252
         clear HB
         clear h0_ h1_ h2_ h3_ h4_ h5_ h6_ h7_ h8_ h9_ h10_ h11_
         have HO246 := n0_
         have HO257 := n1_
         have BK243 := n2_
         have BK252 := n3_
         have BK260 := n4_
         have GW260 := n5_
         have GE260 := n6_
         have NB243_260 := n7_
         have NB260_243 := n8_
         have NB252_260 := n9_
         have NB260_252 := n10_
         have HB := n11_
         clear n0_ n1_ n2_ n3_ n4_ n5_ n6_ n7_ n8_ n9_ n10_ n11_
         have hHeld : w28.cell? ⟨gb252, 0, none⟩ = some (.int .i64 t248) ∧ w28.cell? ⟨gb252, 1, none⟩ = some (.int .i64 t249) ∧ w28.cell? ⟨gb252, 2, none⟩ = some (.int .i64 t250) ∧ w28.cell? ad247 = some (.string (rdOf ByteArray.empty t244 0)) := hS_
         refine norm_ (a' := ?_) ?_ ?_
         rotate_left
         ·simp only [putAll, Act.put, sA, sB, sC]
          rfl
         refine ro 8 (none) (bT 9 9) HT_ (fun K hK => ?_)
         have hs29 : w28.cell? ⟨gb260, 0, none⟩ = some (.int .i64 0) := bcl BK260 0
         have hfs29 := blk_frozen BK260.out 0
         have hns29_0 := NB243_260.out
         have hns29_1 := NB252_260.out
         have hms29_0 := NB260_243.out
         have hms29_1 := NB260_252.out
         have hs30 : w28.cell? ⟨gb260, 1, none⟩ = some (.int .i64 0) := bcl BK260 1
         have hfs30 := blk_frozen BK260.out 1
         have hns30_0 := NB243_260.out
         have hns30_1 := NB252_260.out
         have hms30_0 := NB260_243.out
         have hms30_1 := NB260_252.out
         have hs31 : w28.cell? ⟨gb260, 2, none⟩ = some (.int .i64 0) := bcl BK260 2
         have hfs31 := blk_frozen BK260.out 2
         have hns31_0 := NB243_260.out
         have hns31_1 := NB252_260.out
         have hms31_0 := NB260_243.out
         have hms31_1 := NB260_252.out
         have hs32 : w28.cell? ⟨gb260, 3, none⟩ = some (.int .i64 0) := bcl BK260 3
         have hfs32 := blk_frozen BK260.out 3
         have hns32_0 := NB243_260.out
         have hns32_1 := NB252_260.out
         have hms32_0 := NB260_243.out
         have hms32_1 := NB260_252.out
         have hs33 : w28.cell? ⟨gb260, 4, none⟩ = some (.slice none 0 0) := bcl BK260 4
         have hfs33 := blk_frozen BK260.out 4
         have hns33_0 := NB243_260.out
         have hns33_1 := NB252_260.out
         have hms33_0 := NB260_243.out
         have hms33_1 := NB260_252.out
         refine skip_ (w1 := ?_) (by rfl) rfl ?_ ?_
         rotate_left
         ·go_simp
          rfl
         refine hK.out _ _ ⟨(cf NB252_260 ((cf NB252_260 ((cf NB252_260 ((cf NB252_260 ((cf NB252_260 (hHeld.1)))))))))), (cf NB252_260 ((cf NB252_260 ((cf NB252_260 ((cf NB252_260 ((cf NB252_260 (hHeld.2.1)))))))))), (cf NB252_260 ((cf NB252_260 ((cf NB252_260 ((cf NB252_260 ((cf NB252_260 (hHeld.2.2.1)))))))))), ((cell_far (p := ⟨gb260, _, none⟩) (by first | exact Kd.own_blk (Kd.R_ne HO246.out BK260.out (by decide)) | (rw [add_block]; exact Kd.own_blk (Kd.R_ne HO246.out BK260.out (by decide))) | (show (Addr.add _ _).block ≠ _; rw [add_block]; exact Kd.own_blk (Kd.R_ne HO246.out BK260.out (by decide))) | (dsimp only; exact Kd.own_blk (Kd.R_ne HO246.out BK260.out (by decide)))) _).trans (((cell_far (p := ⟨gb260, _, none⟩) (by first | exact Kd.own_blk (Kd.R_ne HO246.out BK260.out (by decide)) | (rw [add_block]; exact Kd.own_blk (Kd.R_ne HO246.out BK260.out (by decide))) | (show (Addr.add _ _).block ≠ _; rw [add_block]; exact Kd.own_blk (Kd.R_ne HO246.out BK260.out (by decide))) | (dsimp only; exact Kd.own_blk (Kd.R_ne HO246.out BK260.out (by decide)))) _).trans (((cell_far (p := ⟨gb260, _, none⟩) (by first | exact Kd.own_blk (Kd.R_ne HO246.out BK260.out (by decide)) | (rw [add_block]; exact Kd.own_blk (Kd.R_ne HO246.out BK260.out (by decide))) | (show (Addr.add _ _).block ≠ _; rw [add_block]; exact Kd.own_blk (Kd.R_ne HO246.out BK260.out (by decide))) | (dsimp only; exact Kd.own_blk (Kd.R_ne HO246.out BK260.out (by decide)))) _).trans (((cell_far (p := ⟨gb260, _, none⟩) (by first | exact Kd.own_blk (Kd.R_ne HO246.out BK260.out (by decide)) | (rw [add_block]; exact Kd.own_blk (Kd.R_ne HO246.out BK260.out (by decide))) | (show (Addr.add _ _).block ≠ _; rw [add_block]; exact Kd.own_blk (Kd.R_ne HO246.out BK260.out (by decide))) | (dsimp only; exact Kd.own_blk (Kd.R_ne HO246.out BK260.out (by decide)))) _).trans (((cell_far (p := ⟨gb260, _, none⟩) (by first | exact Kd.own_blk (Kd.R_ne HO246.out BK260.out (by decide)) | (rw [add_block]; exact Kd.own_blk (Kd.R_ne HO246.out BK260.out (by decide))) | (show (Addr.add _ _).block ≠ _; rw [add_block]; exact Kd.own_blk (Kd.R_ne HO246.out BK260.out (by decide))) | (dsimp only; exact Kd.own_blk (Kd.R_ne HO246.out BK260.out (by decide)))) _).trans (hHeld.2.2.2))))))))))⟩ (fun hHeld => ?_)
         clear hK K
         refine done_ (done_of HT_.out (by kernel_rfl)) ?_
         have hnb34 := NB260_243.out
         have hnc34 := NB243_260.out
         have hnb35 := NB260_252.out
         have hnc35 := NB252_260.out
         obtain ⟨hcz36_0, hcz36_1, hcz36_2, hcz36_3, hcz36_4, hfz36_0, hfz36_1, hfz36_2, hfz36_3, hfz36_4⟩ := bz5 BK260
         try go_wp2_with (first | (go_at_call 42; (with_reducible refine (impl_IsPattern.calls _ _ _ _ _ _ _ _ _ ?side1 ?side2 A12.out).mono ?_); (case side1 => refine (Kd.R_reads' (e := 2) (base := w.heap.size) (ok := fun k_ => True) (n := t254.length) (c := co26) ?_).2.2; exact (by (with_reducible repeat (first | apply Kd.R_alloc | apply Kd.R_drewN | apply Kd.R_drew)); exact (Kd.R_mono (rw5 (Kd.R_types HO257.out BK260.out (by decide))) (fun _ h_ => h_.1)))); (case side2 => exact (Kd.R_reads' HO257.out).2.1); rintro e w37 ⟨rfl, hb⟩; replace HO246 := asd (Kd.R_below (by (with_reducible repeat (first | apply Kd.R_alloc | apply Kd.R_drewN | apply Kd.R_drew)); exact (Kd.R_mono (rw5 (Kd.R_types HO246.out BK260.out (by decide))) (fun _ h_ => h_.1))) hb); replace HO257 := asd (Kd.R_below (by (with_reducible repeat (first | apply Kd.R_alloc | apply Kd.R_drewN | apply Kd.R_drew)); exact (Kd.R_mono (rw5 (Kd.R_types HO257.out BK260.out (by decide))) (fun _ h_ => h_.1))) hb); replace BK243 := asd (blk_below (g := gb243) (o := .cells #[.int .i64 0, .int .i64 0, .int .i64 0, .int .i64 0, .slice none 0 0] 42 (0, 0)) (bq1 BK243 NB243_260) hb); replace BK252 := asd (blk_below (g := gb252) (o := .cells #[.int .i64 t248, .int .i64 t249, .int .i64 t250] 40 (0, 0)) (bq1 BK252 NB252_260) hb); replace BK260 := asd (blk_below (g := gb260) (o := .cells #[.int .i64 t259, .int .i64 t248, .int .i64 t249, .int .i64 t250, .slice Ao26 t254.length co26] 42 (0, 0)) (bq0 BK260) hb); replace HB := bS3 HB GE243 GE252 GE260 hb; (try clear hb); obtain ⟨hcz38_0, hcz38_1, hcz38_2, hcz38_3, hcz38_4, hfz38_0, hfz38_1, hfz38_2, hfz38_3, hfz38_4⟩ := bz5 BK260) | (go_at_call 43; (with_reducible refine (impl_patternText.calls _ _ _ _ _ _ _ _ _ _ ?side1 ?side2 (texts.tabB HTAB.out (by repeat (first | (with_reducible first | exact HB.out | exact Below.refl _ _ | apply below_alloc | apply pw_below_drewN | apply below_drew1 | refine below_set ?_ GE243.out | refine below_set ?_ GE252.out | refine below_set ?_ GE260.out) | exact HB.out))) A14.out).mono ?_); (case side1 => exact ks (Kd.R_reads' HO257.out).2.2); (case side2 => exact (Kd.R_reads' HO257.out).2.1); rintro e w39 ⟨rfl, hb⟩; replace HO246 := asd (Kd.R_below (kr HO246) hb); replace HO257 := asd (Kd.R_below (kr HO257) hb); replace BK243 := bB BK243 hb; replace BK252 := bB BK252 hb; replace BK260 := bB BK260 hb; replace HB := bS3 HB GE243 GE252 GE260 hb; (try clear hb); obtain ⟨hcz40_0, hcz40_1, hcz40_2, hcz40_3, hcz40_4, hfz40_0, hfz40_1, hfz40_2, hfz40_3, hfz40_4⟩ := bz5 BK260; obtain ⟨hcz41_0, hcz41_1, hcz41_2, hcz41_3, hcz41_4, hfz41_0, hfz41_1, hfz41_2, hfz41_3, hfz41_4⟩ := bz5 BK243))
         refine bodyPost_ret (results_ct rfl _ _ gb243 42 #[.int .i64 t259, .int .i64 t248, .int .i64 t249, .int .i64 t250, .slice Ao26 t254.length co26] (0, 0) _ rfl (bq0 BK243) Tryd.underlying42 rfl (by kernel_rfl)) rfl ?_
         exact ⟨_, by first | rfl | (simp [errW_none, errW_some] <;> rfl) | (simp [*, errW_none, errW_some] <;> rfl), by (with_reducible repeat (first | apply Kd.R_alloc | apply Kd.R_drewN | apply Kd.R_drew)); exact Kd.R_mono (rw5 (Kd.R_types HO257.out BK243.out (by decide))) (fun _ hk => trivial), bbw3 HB GE243 GE252 GE260⟩
        ·rw [if_neg c15] at H
         have c15b0 : (t262.toList == a0.toList) = false := beq_eq_false_iff_ne.mpr c15
         have c15b1 : (t262.toList != a0.toList) = true := bne_iff_ne.mpr c15
         simp only [Option.some.injEq, Prod.mk.injEq] at H
         obtain ⟨rfl, rfl, rfl, rfl, rfl, rfl⟩ := H
         go_enter Tryd.func15, Tryd.ntmps15
         try go_wp2_with (first | ((with_reducible refine gd 2 rfl ?_); refine bx #[.int .i64 0, .int .i64 0, .int .i64 0, .int .i64 0, .slice none 0 0] 42 ?_; intro gb243 hg w42 BK243 hb; have GE243 := ngw0 hg HB; replace HB := bS0 HB hb; clear hb hg) | ((with_reducible refine gate_callee (f := 38) rfl ?_); refine gl 11 Tryd.func38 #[.string a0, .string (⟨#[32]⟩ : ByteArray)] ?_; (with_reducible refine (strings_Split.calls _ _ _ _ (texts.tabB HTAB.out (by repeat (first | (with_reducible first | exact HB.out | exact Below.refl _ _ | apply below_alloc | apply pw_below_drewN | apply below_drew1 | refine below_set ?_ GE243.out | refine below_set ?_ GE252.out | refine below_set ?_ GE260.out) | exact HB.out))) A2.out).mono ?_); rintro e w43 ⟨v245, rfl, ho0, hb⟩; refine ⟨_, rfl, ?_⟩; have HO246 := asd (Kd.R_lower ho0 (bsz1 HB GE243)); replace BK243 := bB BK243 hb; replace HB := bS1 HB GE243 hb; (try clear hb); (try clear hb2); (try clear hk); (try clear hi); (try clear ho0); obtain ⟨Ao44, co44, eo44⟩ := Kd.R_slice HO246.out; subst eo44; have p247 : 0 ≤ (1 : Int) := (by omega); have q247 : 1 < (t244.length : Int) := od; obtain ⟨ad247, e247, hx247_0⟩ := Kd.at_string (Kd.R_reads' HO246.out).2.2 1 p247 q247; cases e247; (try simp only [show (1 : Int).toNat = 1 from rfl, Nat.reduceMul, Nat.reduceEqDiff, Go.Addr.add, ↓reduceIte] at hx247_0); have qi247 : (1 < t244.length) = True := eq_true (by omega); (try rw [show ((1 : Int)).toNat = 1 from rfl] at hx247_0); replace p247 := eq_true p247; replace q247 := eq_true q247) | ((with_reducible refine gate_callee (f := 39) rfl ?_); refine gl 20 Tryd.func39 #[.string (rdOf ByteArray.empty t244 1)] ?_; (with_reducible refine (impl_ReadLattice.calls _ _ _ _ _ _ _ (texts.tabB HTAB.out (by repeat (first | (with_reducible first | exact HB.out | exact Below.refl _ _ | apply below_alloc | apply pw_below_drewN | apply below_drew1 | refine below_set ?_ GE243.out | refine below_set ?_ GE252.out | refine below_set ?_ GE260.out) | exact HB.out))) A5.out).mono ?_); rintro e w45 ⟨rfl, hb⟩; refine ⟨_, rfl, ?_⟩; replace HO246 := asd (Kd.R_below (kr HO246) hb); replace BK243 := bB BK243 hb; replace HB := bS1 HB GE243 hb; (try clear hb)) | ((with_reducible refine gd 5 rfl ?_); refine bx #[.int .i64 0, .int .i64 0, .int .i64 0] 40 ?_; intro gb252 hg w46 BK252 hb; replace HO246 := asd (Kd.R_below (kr HO246) hb); have GE252 := ngw1 hg HB GE243; replace HB := bS1 HB GE243 hb; have NB243_252 := nlt hg BK243; have NB252_243 := nsy (nlt hg BK243); replace BK243 := bB BK243 hb; clear hb hg; have hnb47 := NB252_243.out; have hnc47 := NB243_252.out; obtain ⟨hcz48_0, hcz48_1, hcz48_2, hfz48_0, hfz48_1, hfz48_2⟩ := bz3 BK252; have p253 : 0 ≤ (2 : Int) := (by omega); have q253 : 2 < (t244.length : Int) := od; obtain ⟨ad253, e253, hx253_0⟩ := Kd.at_string (Kd.R_reads' HO246.out).2.2 2 p253 q253; obtain rfl : ad247 = ad253 := (by injection e253); (try simp only [show (2 : Int).toNat = 2 from rfl, Nat.reduceMul, Nat.reduceEqDiff, Go.Addr.add, ↓reduceIte] at hx253_0); have qi253 : (2 < t244.length) = True := eq_true (by omega); (try rw [show ((2 : Int)).toNat = 2 from rfl] at hx253_0); have hn253_0 : ad247.block ≠ gb252 := Kd.own_blk (Kd.R_ne HO246.out BK252.out (by decide)); have hn253_1 : ad247.block ≠ gb252 := Kd.own_blk (Kd.R_ne HO246.out BK252.out (by decide)); have hn253_2 : ad247.block ≠ gb252 := Kd.own_blk (Kd.R_ne HO246.out BK252.out (by decide)); replace hx253_0 := cw3 (.int .i64 t248) (.int .i64 t249) (.int .i64 t250) hn253_0 hx253_0; clear hn253_0; clear hn253_1; clear hn253_2; replace p253 := eq_true p253; replace q253 := eq_true q253) | ((with_reducible refine gate_callee (f := 40) rfl ?_); refine gl 27 Tryd.func40 #[.string (rdOf ByteArray.empty t244 2)] ?_; (with_reducible refine (impl_readDigits.calls _ _ _ _ _ A7.out).mono ?_); rintro e w49 ⟨v256, rfl, ho0, hb⟩; refine ⟨_, rfl, ?_⟩; replace HO246 := asd (Kd.R_below (by (with_reducible repeat (first | apply Kd.R_alloc | apply Kd.R_drewN | apply Kd.R_drew)); exact (Kd.R_mono (rw3 (Kd.R_types HO246.out BK252.out (by decide))) (fun _ h_ => h_.1))) hb); have HO257 := asd (Kd.R_lower ho0 (bsz2 HB GE243 GE252)); replace BK243 := asd (blk_below (g := gb243) (o := .cells #[.int .i64 0, .int .i64 0, .int .i64 0, .int .i64 0, .slice none 0 0] 42 (0, 0)) (bq1 BK243 NB243_252) hb); replace BK252 := asd (blk_below (g := gb252) (o := .cells #[.int .i64 t248, .int .i64 t249, .int .i64 t250] 40 (0, 0)) (bq0 BK252) hb); replace HB := bS2 HB GE243 GE252 hb; (try clear hb); (try clear hb2); (try clear hk); (try clear hi); (try clear ho0)))
         replace HO246 := asd (Kd.R_drew HO246.out)
         replace HO257 := asd (Kd.R_drew HO257.out)
         replace BK243 := asd (blk_drew BK243.out)
         replace BK252 := asd (blk_drew BK252.out)
         replace HB := asd (below_drew1 HB.out)
         have p258 : 0 ≤ (0 : Int) := (by omega)
         have q258 : 0 < (t244.length : Int) := od
         obtain ⟨ad258, e258, hx258_0⟩ := Kd.at_string (Kd.R_reads' HO246.out).2.2 0 p258 q258
         obtain rfl : ad247 = ad258 := (by injection e258)
         have qi258 : (0 < t244.length) = True := eq_true (by omega)
         (try rw [show ((0 : Int)).toNat = 0 from rfl] at hx258_0)
         (try rw [Addr.add_zero'] at hx258_0)
         replace p258 := eq_true p258
         replace q258 := eq_true q258
         refine sh 9 (cb3 BK252 (e1 hx258_0)) (fun hHeld => ?_); refine with_tabW impl_ReadPattern.tab6 impl_ReadPattern.bits6 (fun HT_ HW_ => ?_)
         generalize w49.drew = w50 at HO246 HO257 BK243 BK252 HB hx258_0 hHeld ⊢
         refine pu 0 (some 30) (bT 9 1) HT_ ?_
         refine pu 1 (some 31) (bT 9 2) HT_ ?_
         refine pu 5 (some 35) (bs 9 35) HT_ ?_
         refine ta 2 (some 32) (bs 9 39) HT_ HW_ hHeld ?_
         refine ta 4 (some 34) (bs 9 55) HT_ HW_ hHeld ?_
         obtain ⟨Ao52, co52, eo52⟩ := Kd.R_slice HO257.out
         (first | subst eo52 | (injection eo52 with f1_ f2_ f3_; have f4_ := f1_.symm; have f5_ := f3_.symm; clear f1_ f2_ f3_; subst f4_; subst f5_))
         refine join_ (σ := Nat) 1 (bT 9 8) (fun s_ => [(33, .int .i64 t259), (9, .pointer (some ⟨s_, 0, none⟩)), (36, .agg #[.int .i64 t259, .int .i64 t248, .int .i64 t249, .int .i64 t250, .slice Ao52 t254.length co52])]) (fun s_ w' => (w'.cell? ⟨gb252, 0, none⟩ = some (.int .i64 t248) ∧ w'.cell? ⟨gb252, 1, none⟩ = some (.int .i64 t249) ∧ w'.cell? ⟨gb252, 2, none⟩ = some (.int .i64 t250) ∧ w'.cell? ad247 = some (.string (rdOf ByteArray.empty t244 0))) ∧ (Kd.R Kd.string 9 w' w.heap.size (fun _ => True) (.slice (some ad247) t244.length co44) t244) ∧ (Kd.R (Kd.int .i64) 2 w' w.heap.size (fun _ => True) (.slice Ao52 t254.length co52) t254) ∧ (w'.heap[gb243]? = some (.cells #[.int .i64 0, .int .i64 0, .int .i64 0, .int .i64 0, .slice none 0 0] 42 (0, 0))) ∧ (w'.heap[gb252]? = some (.cells #[.int .i64 t248, .int .i64 t249, .int .i64 t250] 40 (0, 0))) ∧ (w'.heap[s_]? = some (.cells #[.int .i64 0, .int .i64 0, .int .i64 0, .int .i64 0, .slice none 0 0] 42 (0, 0))) ∧ (w.heap.size ≤ s_) ∧ (w.heap.size ≤ s_) ∧ (gb243 ≠ s_) ∧ (s_ ≠ gb243) ∧ (gb252 ≠ s_) ∧ (s_ ≠ gb252) ∧ (Below w.heap.size w w')) ?_ ?_
         rotate_left
         ·intro hCont
          refine two_ (i := 3) (j := 7) (Ni := some 33) (Nj := some 9) (bT 9 6) (bs 9 183) rfl rfl rfl rfl (two_of HT_.out (by kernel_rfl)) (by decide) (by decide) (fun K hK => ?_) (fun K hK => ?_)
          ·skip
           refine gs Tryd.func41 #[.string (⟨#[83, 72]⟩ : ByteArray), .string (rdOf ByteArray.empty t244 0)] ?_
           with_reducible refine (strings_Index.calls _ _ _ _ (texts.tabB HTAB.out (by repeat (first | (with_reducible first | exact HB.out | exact Below.refl _ _ | apply below_alloc | apply pw_below_drewN | apply below_drew1 | refine below_set ?_ GE243.out | refine below_set ?_ GE252.out | refine below_set ?_ GE260.out) | exact HB.out))) A9.out).mono ?_
           rintro e w51 ⟨rfl, hb⟩
           have HS3_ := (hb.cell (World.block_lt_of_cell? _ _ (hHeld.2.2.2))).trans (hHeld.2.2.2)
           refine ⟨_, rfl, ?_⟩
           replace HO246 := asd (Kd.R_below (kr HO246) hb)
           replace HO257 := asd (Kd.R_below (kr HO257) hb)
           replace BK243 := bB BK243 hb
           replace BK252 := bB BK252 hb
           replace HB := bS2 HB GE243 GE252 hb
           (try clear hb)
           (try clear hb2)
           (try clear hk)
           (try clear hi)
           refine hK.out _ _ ⟨bcl BK252 0, bcl BK252 1, bcl BK252 2, HS3_⟩ (fun hHeld => ?_)
           clear hK K
           refine norm_ (a' := ?_) ?_ ?_
           rotate_left
           ·show Act.put _ (some 33) _ = _
            simp only [Act.put, sA, sB, sC, i64_w, i32_w]
            rfl
           refine pu 6 (some 36) (bT 9 7) HT_ ?_
           refine ro 7 (some 9) (bT 9 8) HT_ (fun K hK => ?_)
           refine box_step ?hg (N := 9) ?hd (cs := #[.int .i64 0, .int .i64 0, .int .i64 0, .int .i64 0, .slice none 0 0]) (t := 42) ?hr ?_; (case hd => rfl); (case hg => rfl); (case hr => first | (go_simp; done) | (go_simp; rfl))
           intro gb260 hg w53 hbox hb
           have HS3_ := (hb.cell (World.block_lt_of_cell? _ _ (hHeld.2.2.2))).trans (hHeld.2.2.2)
           replace HO246 := asd (Kd.R_below (kr HO246) hb)
           replace HO257 := asd (Kd.R_below (kr HO257) hb)
           have BK260 := asd (hbox)
           have GW260 := ngw2 hg HB GE243 GE252
           have GE260 := ngw2 hg HB GE243 GE252
           replace HB := bS2 HB GE243 GE252 hb
           have NB243_260 := nlt hg BK243
           have NB260_243 := nsy (nlt hg BK243)
           replace BK243 := bB BK243 hb
           have NB252_260 := nlt hg BK252
           have NB260_252 := nsy (nlt hg BK252)
           replace BK252 := bB BK252 hb
           clear hb hbox hg
           refine hK.out _ _ ⟨bcl BK252 0, bcl BK252 1, bcl BK252 2, HS3_⟩ (fun hHeld => ?_)
           clear hK K
           refine norm_ (a' := ?_) ?_ ?_
           rotate_left
           ·show Act.put _ (some 9) _ = _
            simp only [Act.put, sA, sB, sC, i64_w, i32_w]
            rfl
           exact norm_ (by simp only [putAll, Act.put, sA, sB, sC]) (hCont (gb260) _ ⟨hHeld, (kr HO246), (kr HO257), (bkp BK243), (bkp BK252), (bkp BK260), GW260.out, GE260.out, NB243_260.out, NB260_243.out, NB252_260.out, NB260_252.out, (bbw3 HB GE243 GE252 GE260)⟩)
          ·skip
           refine box_step ?hg (N := 9) ?hd (cs := #[.int .i64 0, .int .i64 0, .int .i64 0, .int .i64 0, .slice none 0 0]) (t := 42) ?hr ?_; (case hd => rfl); (case hg => rfl); (case hr => first | (go_simp; done) | (go_simp; rfl))
           intro gb260 hg w51 hbox hb
           have HS3_ := (hb.cell (World.block_lt_of_cell? _ _ (hHeld.2.2.2))).trans (hHeld.2.2.2)
           replace HO246 := asd (Kd.R_below (kr HO246) hb)
           replace HO257 := asd (Kd.R_below (kr HO257) hb)
           have BK260 := asd (hbox)
           have GW260 := ngw2 hg HB GE243 GE252
           have GE260 := ngw2 hg HB GE243 GE252
           replace HB := bS2 HB GE243 GE252 hb
           have NB243_260 := nlt hg BK243
           have NB260_243 := nsy (nlt hg BK243)
           replace BK243 := bB BK243 hb
           have NB252_260 := nlt hg BK252
           have NB260_252 := nsy (nlt hg BK252)
           replace BK252 := bB BK252 hb
           clear hb hbox hg
           refine hK.out _ _ ⟨bcl BK252 0, bcl BK252 1, bcl BK252 2, HS3_⟩ (fun hHeld => ?_)
           clear hK K
           refine norm_ (a' := ?_) ?_ ?_
           rotate_left
           ·show Act.put _ (some 9) _ = _
            simp only [Act.put, sA, sB, sC, i64_w, i32_w]
            rfl
           refine ro 3 (some 33) (bs 9 191) HT_ (fun K hK => ?_)
           refine gs Tryd.func41 #[.string (⟨#[83, 72]⟩ : ByteArray), .string (rdOf ByteArray.empty t244 0)] ?_
           with_reducible refine (strings_Index.calls _ _ _ _ (texts.tabB HTAB.out (by repeat (first | (with_reducible first | exact HB.out | exact Below.refl _ _ | apply below_alloc | apply pw_below_drewN | apply below_drew1 | refine below_set ?_ GE243.out | refine below_set ?_ GE252.out | refine below_set ?_ GE260.out) | exact HB.out))) A9.out).mono ?_
           rintro e w52 ⟨rfl, hb⟩
           have HS3_ := (hb.cell (World.block_lt_of_cell? _ _ (hHeld.2.2.2))).trans (hHeld.2.2.2)
           refine ⟨_, rfl, ?_⟩
           replace HO246 := asd (Kd.R_below (kr HO246) hb)
           replace HO257 := asd (Kd.R_below (kr HO257) hb)
           replace BK243 := bB BK243 hb
           replace BK252 := bB BK252 hb
           replace BK260 := bB BK260 hb
           replace HB := bS3 HB GE243 GE252 GE260 hb
           (try clear hb)
           (try clear hb2)
           (try clear hk)
           (try clear hi)
           refine hK.out _ _ ⟨bcl BK252 0, bcl BK252 1, bcl BK252 2, HS3_⟩ (fun hHeld => ?_)
           clear hK K
           refine norm_ (a' := ?_) ?_ ?_
           rotate_left
           ·show Act.put _ (some 33) _ = _
            simp only [Act.put, sA, sB, sC, i64_w, i32_w]
            rfl
           refine pu 6 (some 36) (bT 9 8) HT_ ?_
           exact norm_ (by simp only [putAll, Act.put, sA, sB, sC]) (hCont (gb260) _ ⟨hHeld, (kr HO246), (kr HO257), (bkp BK243), (bkp BK252), (bkp BK260), GW260.out, GE260.out, NB243_260.out, NB260_243.out, NB252_260.out, NB260_252.out, (bbw3 HB GE243 GE252 GE260)⟩)
         rintro gb260 w54 ⟨hS_, h0_, h1_, h2_, h3_, h4_, h5_, h6_, h7_, h8_, h9_, h10_, h11_⟩
         have n0_ : Aside0 (Kd.R Kd.string 9 w54 w.heap.size (fun _ => True) (.slice (some ad247) t244.length co44) t244) := ⟨h0_⟩
         have n1_ : Aside0 (Kd.R (Kd.int .i64) 2 w54 w.heap.size (fun _ => True) (.slice Ao52 t254.length co52) t254) := ⟨h1_⟩
         have n2_ : Aside0 (w54.heap[gb243]? = some (.cells #[.int .i64 0, .int .i64 0, .int .i64 0, .int .i64 0, .slice none 0 0] 42 (0, 0))) := ⟨h2_⟩
         have n3_ : Aside0 (w54.heap[gb252]? = some (.cells #[.int .i64 t248, .int .i64 t249, .int .i64 t250] 40 (0, 0))) := ⟨h3_⟩
         have n4_ : Aside0 (w54.heap[gb260]? = some (.cells #[.int .i64 0, .int .i64 0, .int .i64 0, .int .i64 0, .slice none 0 0] 42 (0, 0))) := ⟨h4_⟩
         have n5_ : Aside0 (w.heap.size ≤ gb260) := ⟨h5_⟩
         have n6_ : Aside0 (w.heap.size ≤ gb260) := ⟨h6_⟩
         have n7_ : Aside0 (gb243 ≠ gb260) := ⟨h7_⟩
         have n8_ : Aside0 (gb260 ≠ gb243) := ⟨h8_⟩
         have n9_ : Aside0 (gb252 ≠ gb260) := ⟨h9_⟩
         have n10_ : Aside0 (gb260 ≠ gb252) := ⟨h10_⟩
         have n11_ : Aside0 (Below w.heap.size w w54) := ⟨h11_⟩
         clear HO246
         clear HO257
         clear BK243
         clear BK252
         clear HB
         clear h0_ h1_ h2_ h3_ h4_ h5_ h6_ h7_ h8_ h9_ h10_ h11_
         have HO246 := n0_
         have HO257 := n1_
         have BK243 := n2_
         have BK252 := n3_
         have BK260 := n4_
         have GW260 := n5_
         have GE260 := n6_
         have NB243_260 := n7_
         have NB260_243 := n8_
         have NB252_260 := n9_
         have NB260_252 := n10_
         have HB := n11_
         clear n0_ n1_ n2_ n3_ n4_ n5_ n6_ n7_ n8_ n9_ n10_ n11_
         have hHeld : w54.cell? ⟨gb252, 0, none⟩ = some (.int .i64 t248) ∧ w54.cell? ⟨gb252, 1, none⟩ = some (.int .i64 t249) ∧ w54.cell? ⟨gb252, 2, none⟩ = some (.int .i64 t250) ∧ w54.cell? ad247 = some (.string (rdOf ByteArray.empty t244 0)) := hS_
         refine norm_ (a' := ?_) ?_ ?_
         rotate_left
         ·simp only [putAll, Act.put, sA, sB, sC]
          rfl
         refine ro 8 (none) (bT 9 9) HT_ (fun K hK => ?_)
         have hs55 : w54.cell? ⟨gb260, 0, none⟩ = some (.int .i64 0) := bcl BK260 0
         have hfs55 := blk_frozen BK260.out 0
         have hns55_0 := NB243_260.out
         have hns55_1 := NB252_260.out
         have hms55_0 := NB260_243.out
         have hms55_1 := NB260_252.out
         have hs56 : w54.cell? ⟨gb260, 1, none⟩ = some (.int .i64 0) := bcl BK260 1
         have hfs56 := blk_frozen BK260.out 1
         have hns56_0 := NB243_260.out
         have hns56_1 := NB252_260.out
         have hms56_0 := NB260_243.out
         have hms56_1 := NB260_252.out
         have hs57 : w54.cell? ⟨gb260, 2, none⟩ = some (.int .i64 0) := bcl BK260 2
         have hfs57 := blk_frozen BK260.out 2
         have hns57_0 := NB243_260.out
         have hns57_1 := NB252_260.out
         have hms57_0 := NB260_243.out
         have hms57_1 := NB260_252.out
         have hs58 : w54.cell? ⟨gb260, 3, none⟩ = some (.int .i64 0) := bcl BK260 3
         have hfs58 := blk_frozen BK260.out 3
         have hns58_0 := NB243_260.out
         have hns58_1 := NB252_260.out
         have hms58_0 := NB260_243.out
         have hms58_1 := NB260_252.out
         have hs59 : w54.cell? ⟨gb260, 4, none⟩ = some (.slice none 0 0) := bcl BK260 4
         have hfs59 := blk_frozen BK260.out 4
         have hns59_0 := NB243_260.out
         have hns59_1 := NB252_260.out
         have hms59_0 := NB260_243.out
         have hms59_1 := NB260_252.out
         refine skip_ (w1 := ?_) (by rfl) rfl ?_ ?_
         rotate_left
         ·go_simp
          rfl
         refine hK.out _ _ ⟨(cf NB252_260 ((cf NB252_260 ((cf NB252_260 ((cf NB252_260 ((cf NB252_260 (hHeld.1)))))))))), (cf NB252_260 ((cf NB252_260 ((cf NB252_260 ((cf NB252_260 ((cf NB252_260 (hHeld.2.1)))))))))), (cf NB252_260 ((cf NB252_260 ((cf NB252_260 ((cf NB252_260 ((cf NB252_260 (hHeld.2.2.1)))))))))), ((cell_far (p := ⟨gb260, _, none⟩) (by first | exact Kd.own_blk (Kd.R_ne HO246.out BK260.out (by decide)) | (rw [add_block]; exact Kd.own_blk (Kd.R_ne HO246.out BK260.out (by decide))) | (show (Addr.add _ _).block ≠ _; rw [add_block]; exact Kd.own_blk (Kd.R_ne HO246.out BK260.out (by decide))) | (dsimp only; exact Kd.own_blk (Kd.R_ne HO246.out BK260.out (by decide)))) _).trans (((cell_far (p := ⟨gb260, _, none⟩) (by first | exact Kd.own_blk (Kd.R_ne HO246.out BK260.out (by decide)) | (rw [add_block]; exact Kd.own_blk (Kd.R_ne HO246.out BK260.out (by decide))) | (show (Addr.add _ _).block ≠ _; rw [add_block]; exact Kd.own_blk (Kd.R_ne HO246.out BK260.out (by decide))) | (dsimp only; exact Kd.own_blk (Kd.R_ne HO246.out BK260.out (by decide)))) _).trans (((cell_far (p := ⟨gb260, _, none⟩) (by first | exact Kd.own_blk (Kd.R_ne HO246.out BK260.out (by decide)) | (rw [add_block]; exact Kd.own_blk (Kd.R_ne HO246.out BK260.out (by decide))) | (show (Addr.add _ _).block ≠ _; rw [add_block]; exact Kd.own_blk (Kd.R_ne HO246.out BK260.out (by decide))) | (dsimp only; exact Kd.own_blk (Kd.R_ne HO246.out BK260.out (by decide)))) _).trans (((cell_far (p := ⟨gb260, _, none⟩) (by first | exact Kd.own_blk (Kd.R_ne HO246.out BK260.out (by decide)) | (rw [add_block]; exact Kd.own_blk (Kd.R_ne HO246.out BK260.out (by decide))) | (show (Addr.add _ _).block ≠ _; rw [add_block]; exact Kd.own_blk (Kd.R_ne HO246.out BK260.out (by decide))) | (dsimp only; exact Kd.own_blk (Kd.R_ne HO246.out BK260.out (by decide)))) _).trans (((cell_far (p := ⟨gb260, _, none⟩) (by first | exact Kd.own_blk (Kd.R_ne HO246.out BK260.out (by decide)) | (rw [add_block]; exact Kd.own_blk (Kd.R_ne HO246.out BK260.out (by decide))) | (show (Addr.add _ _).block ≠ _; rw [add_block]; exact Kd.own_blk (Kd.R_ne HO246.out BK260.out (by decide))) | (dsimp only; exact Kd.own_blk (Kd.R_ne HO246.out BK260.out (by decide)))) _).trans (hHeld.2.2.2))))))))))⟩ (fun hHeld => ?_)
         clear hK K
         refine done_ (done_of HT_.out (by kernel_rfl)) ?_
         have hnb60 := NB260_243.out
         have hnc60 := NB243_260.out
         have hnb61 := NB260_252.out
         have hnc61 := NB252_260.out
         obtain ⟨hcz62_0, hcz62_1, hcz62_2, hcz62_3, hcz62_4, hfz62_0, hfz62_1, hfz62_2, hfz62_3, hfz62_4⟩ := bz5 BK260
         try go_wp2_with (first | (go_at_call 42; (with_reducible refine (impl_IsPattern.calls _ _ _ _ _ _ _ _ _ ?side1 ?side2 A12.out).mono ?_); (case side1 => refine (Kd.R_reads' (e := 2) (base := w.heap.size) (ok := fun k_ => True) (n := t254.length) (c := co52) ?_).2.2; exact (by (with_reducible repeat (first | apply Kd.R_alloc | apply Kd.R_drewN | apply Kd.R_drew)); exact (Kd.R_mono (rw5 (Kd.R_types HO257.out BK260.out (by decide))) (fun _ h_ => h_.1)))); (case side2 => exact (Kd.R_reads' HO257.out).2.1); rintro e w63 ⟨rfl, hb⟩; replace HO246 := asd (Kd.R_below (by (with_reducible repeat (first | apply Kd.R_alloc | apply Kd.R_drewN | apply Kd.R_drew)); exact (Kd.R_mono (rw5 (Kd.R_types HO246.out BK260.out (by decide))) (fun _ h_ => h_.1))) hb); replace HO257 := asd (Kd.R_below (by (with_reducible repeat (first | apply Kd.R_alloc | apply Kd.R_drewN | apply Kd.R_drew)); exact (Kd.R_mono (rw5 (Kd.R_types HO257.out BK260.out (by decide))) (fun _ h_ => h_.1))) hb); replace BK243 := asd (blk_below (g := gb243) (o := .cells #[.int .i64 0, .int .i64 0, .int .i64 0, .int .i64 0, .slice none 0 0] 42 (0, 0)) (bq1 BK243 NB243_260) hb); replace BK252 := asd (blk_below (g := gb252) (o := .cells #[.int .i64 t248, .int .i64 t249, .int .i64 t250] 40 (0, 0)) (bq1 BK252 NB252_260) hb); replace BK260 := asd (blk_below (g := gb260) (o := .cells #[.int .i64 t259, .int .i64 t248, .int .i64 t249, .int .i64 t250, .slice Ao52 t254.length co52] 42 (0, 0)) (bq0 BK260) hb); replace HB := bS3 HB GE243 GE252 GE260 hb; (try clear hb); obtain ⟨hcz64_0, hcz64_1, hcz64_2, hcz64_3, hcz64_4, hfz64_0, hfz64_1, hfz64_2, hfz64_3, hfz64_4⟩ := bz5 BK260) | (go_at_call 43; (with_reducible refine (impl_patternText.calls _ _ _ _ _ _ _ _ _ _ ?side1 ?side2 (texts.tabB HTAB.out (by repeat (first | (with_reducible first | exact HB.out | exact Below.refl _ _ | apply below_alloc | apply pw_below_drewN | apply below_drew1 | refine below_set ?_ GE243.out | refine below_set ?_ GE252.out | refine below_set ?_ GE260.out) | exact HB.out))) A14.out).mono ?_); (case side1 => exact ks (Kd.R_reads' HO257.out).2.2); (case side2 => exact (Kd.R_reads' HO257.out).2.1); rintro e w65 ⟨rfl, hb⟩; replace HO246 := asd (Kd.R_below (kr HO246) hb); replace HO257 := asd (Kd.R_below (kr HO257) hb); replace BK243 := bB BK243 hb; replace BK252 := bB BK252 hb; replace BK260 := bB BK260 hb; replace HB := bS3 HB GE243 GE252 GE260 hb; (try clear hb); obtain ⟨hcz66_0, hcz66_1, hcz66_2, hcz66_3, hcz66_4, hfz66_0, hfz66_1, hfz66_2, hfz66_3, hfz66_4⟩ := bz5 BK243))
         refine bodyPost_ret (results_ct rfl _ _ gb243 42 #[.int .i64 0, .int .i64 0, .int .i64 0, .int .i64 0, .slice none 0 0] (0, 0) _ rfl (bq0 BK243) Tryd.underlying42 rfl (by kernel_rfl)) rfl ?_
         exact ⟨_, by first | rfl | (simp [errW_none, errW_some] <;> rfl) | (simp [*, errW_none, errW_some] <;> rfl), by first | exact Kd.R_nil _ _ _ _ _ | exact Kd.N_nil _ _ _ _ _ | exact Kd.V_nil _ _ _ _ _ | exact Kd.Q_nil _ _ _ _ _ | exact Kd.S_nil _ _ _ _ _, bbw3 HB GE243 GE252 GE260⟩
       ·replace c13 := Bool.eq_false_iff.mpr c13
        subst c13
        replace H := ifF H
        simp only [Option.some.injEq, Prod.mk.injEq] at H
        obtain ⟨rfl, rfl, rfl, rfl, rfl, rfl⟩ := H
        go_enter Tryd.func15, Tryd.ntmps15
        try go_wp2_with (first | ((with_reducible refine gd 2 rfl ?_); refine bx #[.int .i64 0, .int .i64 0, .int .i64 0, .int .i64 0, .slice none 0 0] 42 ?_; intro gb243 hg w67 BK243 hb; have GE243 := ngw0 hg HB; replace HB := bS0 HB hb; clear hb hg) | ((with_reducible refine gate_callee (f := 38) rfl ?_); refine gl 11 Tryd.func38 #[.string a0, .string (⟨#[32]⟩ : ByteArray)] ?_; (with_reducible refine (strings_Split.calls _ _ _ _ (texts.tabB HTAB.out (by repeat (first | (with_reducible first | exact HB.out | exact Below.refl _ _ | apply below_alloc | apply pw_below_drewN | apply below_drew1 | refine below_set ?_ GE243.out | refine below_set ?_ GE252.out | refine below_set ?_ GE260.out) | exact HB.out))) A2.out).mono ?_); rintro e w68 ⟨v245, rfl, ho0, hb⟩; refine ⟨_, rfl, ?_⟩; have HO246 := asd (Kd.R_lower ho0 (bsz1 HB GE243)); replace BK243 := bB BK243 hb; replace HB := bS1 HB GE243 hb; (try clear hb); (try clear hb2); (try clear hk); (try clear hi); (try clear ho0); obtain ⟨Ao69, co69, eo69⟩ := Kd.R_slice HO246.out; subst eo69; have p247 : 0 ≤ (1 : Int) := (by omega); have q247 : 1 < (t244.length : Int) := od; obtain ⟨ad247, e247, hx247_0⟩ := Kd.at_string (Kd.R_reads' HO246.out).2.2 1 p247 q247; cases e247; (try simp only [show (1 : Int).toNat = 1 from rfl, Nat.reduceMul, Nat.reduceEqDiff, Go.Addr.add, ↓reduceIte] at hx247_0); have qi247 : (1 < t244.length) = True := eq_true (by omega); (try rw [show ((1 : Int)).toNat = 1 from rfl] at hx247_0); replace p247 := eq_true p247; replace q247 := eq_true q247) | ((with_reducible refine gate_callee (f := 39) rfl ?_); refine gl 20 Tryd.func39 #[.string (rdOf ByteArray.empty t244 1)] ?_; (with_reducible refine (impl_ReadLattice.calls _ _ _ _ _ _ _ (texts.tabB HTAB.out (by repeat (first | (with_reducible first | exact HB.out | exact Below.refl _ _ | apply below_alloc | apply pw_below_drewN | apply below_drew1 | refine below_set ?_ GE243.out | refine below_set ?_ GE252.out | refine below_set ?_ GE260.out) | exact HB.out))) A5.out).mono ?_); rintro e w70 ⟨rfl, hb⟩; refine ⟨_, rfl, ?_⟩; replace HO246 := asd (Kd.R_below (kr HO246) hb); replace BK243 := bB BK243 hb; replace HB := bS1 HB GE243 hb; (try clear hb)) | ((with_reducible refine gd 5 rfl ?_); refine bx #[.int .i64 0, .int .i64 0, .int .i64 0] 40 ?_; intro gb252 hg w71 BK252 hb; replace HO246 := asd (Kd.R_below (kr HO246) hb); have GE252 := ngw1 hg HB GE243; replace HB := bS1 HB GE243 hb; have NB243_252 := nlt hg BK243; have NB252_243 := nsy (nlt hg BK243); replace BK243 := bB BK243 hb; clear hb hg; have hnb72 := NB252_243.out; have hnc72 := NB243_252.out; obtain ⟨hcz73_0, hcz73_1, hcz73_2, hfz73_0, hfz73_1, hfz73_2⟩ := bz3 BK252; have p253 : 0 ≤ (2 : Int) := (by omega); have q253 : 2 < (t244.length : Int) := od; obtain ⟨ad253, e253, hx253_0⟩ := Kd.at_string (Kd.R_reads' HO246.out).2.2 2 p253 q253; obtain rfl : ad247 = ad253 := (by injection e253); (try simp only [show (2 : Int).toNat = 2 from rfl, Nat.reduceMul, Nat.reduceEqDiff, Go.Addr.add, ↓reduceIte] at hx253_0); have qi253 : (2 < t244.length) = True := eq_true (by omega); (try rw [show ((2 : Int)).toNat = 2 from rfl] at hx253_0); have hn253_0 : ad247.block ≠ gb252 := Kd.own_blk (Kd.R_ne HO246.out BK252.out (by decide)); have hn253_1 : ad247.block ≠ gb252 := Kd.own_blk (Kd.R_ne HO246.out BK252.out (by decide)); have hn253_2 : ad247.block ≠ gb252 := Kd.own_blk (Kd.R_ne HO246.out BK252.out (by decide)); replace hx253_0 := cw3 (.int .i64 t248) (.int .i64 t249) (.int .i64 t250) hn253_0 hx253_0; clear hn253_0; clear hn253_1; clear hn253_2; replace p253 := eq_true p253; replace q253 := eq_true q253) | ((with_reducible refine gate_callee (f := 40) rfl ?_); refine gl 27 Tryd.func40 #[.string (rdOf ByteArray.empty t244 2)] ?_; (with_reducible refine (impl_readDigits.calls _ _ _ _ _ A7.out).mono ?_); rintro e w74 ⟨v256, rfl, ho0, hb⟩; refine ⟨_, rfl, ?_⟩; replace HO246 := asd (Kd.R_below (by (with_reducible repeat (first | apply Kd.R_alloc | apply Kd.R_drewN | apply Kd.R_drew)); exact (Kd.R_mono (rw3 (Kd.R_types HO246.out BK252.out (by decide))) (fun _ h_ => h_.1))) hb); have HO257 := asd (Kd.R_lower ho0 (bsz2 HB GE243 GE252)); replace BK243 := asd (blk_below (g := gb243) (o := .cells #[.int .i64 0, .int .i64 0, .int .i64 0, .int .i64 0, .slice none 0 0] 42 (0, 0)) (bq1 BK243 NB243_252) hb); replace BK252 := asd (blk_below (g := gb252) (o := .cells #[.int .i64 t248, .int .i64 t249, .int .i64 t250] 40 (0, 0)) (bq0 BK252) hb); replace HB := bS2 HB GE243 GE252 hb; (try clear hb); (try clear hb2); (try clear hk); (try clear hi); (try clear ho0)))
        replace HO246 := asd (Kd.R_drew HO246.out)
        replace HO257 := asd (Kd.R_drew HO257.out)
        replace BK243 := asd (blk_drew BK243.out)
        replace BK252 := asd (blk_drew BK252.out)
        replace HB := asd (below_drew1 HB.out)
        have p258 : 0 ≤ (0 : Int) := (by omega)
        have q258 : 0 < (t244.length : Int) := od
        obtain ⟨ad258, e258, hx258_0⟩ := Kd.at_string (Kd.R_reads' HO246.out).2.2 0 p258 q258
        obtain rfl : ad247 = ad258 := (by injection e258)
        have qi258 : (0 < t244.length) = True := eq_true (by omega)
        (try rw [show ((0 : Int)).toNat = 0 from rfl] at hx258_0)
        (try rw [Addr.add_zero'] at hx258_0)
        replace p258 := eq_true p258
        replace q258 := eq_true q258
        refine sh 9 (cb3 BK252 (e1 hx258_0)) (fun hHeld => ?_); refine with_tabW impl_ReadPattern.tab6 impl_ReadPattern.bits6 (fun HT_ HW_ => ?_)
        generalize w74.drew = w75 at HO246 HO257 BK243 BK252 HB hx258_0 hHeld ⊢
        refine pu 0 (some 30) (bT 9 1) HT_ ?_
        refine pu 1 (some 31) (bT 9 2) HT_ ?_
        refine pu 5 (some 35) (bs 9 35) HT_ ?_
        refine ta 2 (some 32) (bs 9 39) HT_ HW_ hHeld ?_
        refine ta 4 (some 34) (bs 9 55) HT_ HW_ hHeld ?_
        obtain ⟨Ao77, co77, eo77⟩ := Kd.R_slice HO257.out
        (first | subst eo77 | (injection eo77 with f1_ f2_ f3_; have f4_ := f1_.symm; have f5_ := f3_.symm; clear f1_ f2_ f3_; subst f4_; subst f5_))
        refine join_ (σ := Nat) 1 (bT 9 8) (fun s_ => [(33, .int .i64 t259), (9, .pointer (some ⟨s_, 0, none⟩)), (36, .agg #[.int .i64 t259, .int .i64 t248, .int .i64 t249, .int .i64 t250, .slice Ao77 t254.length co77])]) (fun s_ w' => (w'.cell? ⟨gb252, 0, none⟩ = some (.int .i64 t248) ∧ w'.cell? ⟨gb252, 1, none⟩ = some (.int .i64 t249) ∧ w'.cell? ⟨gb252, 2, none⟩ = some (.int .i64 t250) ∧ w'.cell? ad247 = some (.string (rdOf ByteArray.empty t244 0))) ∧ (Kd.R Kd.string 9 w' w.heap.size (fun _ => True) (.slice (some ad247) t244.length co69) t244) ∧ (Kd.R (Kd.int .i64) 2 w' w.heap.size (fun _ => True) (.slice Ao77 t254.length co77) t254) ∧ (w'.heap[gb243]? = some (.cells #[.int .i64 0, .int .i64 0, .int .i64 0, .int .i64 0, .slice none 0 0] 42 (0, 0))) ∧ (w'.heap[gb252]? = some (.cells #[.int .i64 t248, .int .i64 t249, .int .i64 t250] 40 (0, 0))) ∧ (w'.heap[s_]? = some (.cells #[.int .i64 0, .int .i64 0, .int .i64 0, .int .i64 0, .slice none 0 0] 42 (0, 0))) ∧ (w.heap.size ≤ s_) ∧ (w.heap.size ≤ s_) ∧ (gb243 ≠ s_) ∧ (s_ ≠ gb243) ∧ (gb252 ≠ s_) ∧ (s_ ≠ gb252) ∧ (Below w.heap.size w w')) ?_ ?_
        rotate_left
        ·intro hCont
         refine two_ (i := 3) (j := 7) (Ni := some 33) (Nj := some 9) (bT 9 6) (bs 9 183) rfl rfl rfl rfl (two_of HT_.out (by kernel_rfl)) (by decide) (by decide) (fun K hK => ?_) (fun K hK => ?_)
         ·skip
          refine gs Tryd.func41 #[.string (⟨#[83, 72]⟩ : ByteArray), .string (rdOf ByteArray.empty t244 0)] ?_
          with_reducible refine (strings_Index.calls _ _ _ _ (texts.tabB HTAB.out (by repeat (first | (with_reducible first | exact HB.out | exact Below.refl _ _ | apply below_alloc | apply pw_below_drewN | apply below_drew1 | refine below_set ?_ GE243.out | refine below_set ?_ GE252.out | refine below_set ?_ GE260.out) | exact HB.out))) A9.out).mono ?_
          rintro e w76 ⟨rfl, hb⟩
          have HS3_ := (hb.cell (World.block_lt_of_cell? _ _ (hHeld.2.2.2))).trans (hHeld.2.2.2)
          refine ⟨_, rfl, ?_⟩
          replace HO246 := asd (Kd.R_below (kr HO246) hb)
          replace HO257 := asd (Kd.R_below (kr HO257) hb)
          replace BK243 := bB BK243 hb
          replace BK252 := bB BK252 hb
          replace HB := bS2 HB GE243 GE252 hb
          (try clear hb)
          (try clear hb2)
          (try clear hk)
          (try clear hi)
          refine hK.out _ _ ⟨bcl BK252 0, bcl BK252 1, bcl BK252 2, HS3_⟩ (fun hHeld => ?_)
          clear hK K
          refine norm_ (a' := ?_) ?_ ?_
          rotate_left
          ·show Act.put _ (some 33) _ = _
           simp only [Act.put, sA, sB, sC, i64_w, i32_w]
           rfl
          refine pu 6 (some 36) (bT 9 7) HT_ ?_
          refine ro 7 (some 9) (bT 9 8) HT_ (fun K hK => ?_)
          refine box_step ?hg (N := 9) ?hd (cs := #[.int .i64 0, .int .i64 0, .int .i64 0, .int .i64 0, .slice none 0 0]) (t := 42) ?hr ?_; (case hd => rfl); (case hg => rfl); (case hr => first | (go_simp; done) | (go_simp; rfl))
          intro gb260 hg w78 hbox hb
          have HS3_ := (hb.cell (World.block_lt_of_cell? _ _ (hHeld.2.2.2))).trans (hHeld.2.2.2)
          replace HO246 := asd (Kd.R_below (kr HO246) hb)
          replace HO257 := asd (Kd.R_below (kr HO257) hb)
          have BK260 := asd (hbox)
          have GW260 := ngw2 hg HB GE243 GE252
          have GE260 := ngw2 hg HB GE243 GE252
          replace HB := bS2 HB GE243 GE252 hb
          have NB243_260 := nlt hg BK243
          have NB260_243 := nsy (nlt hg BK243)
          replace BK243 := bB BK243 hb
          have NB252_260 := nlt hg BK252
          have NB260_252 := nsy (nlt hg BK252)
          replace BK252 := bB BK252 hb
          clear hb hbox hg
          refine hK.out _ _ ⟨bcl BK252 0, bcl BK252 1, bcl BK252 2, HS3_⟩ (fun hHeld => ?_)
          clear hK K
          refine norm_ (a' := ?_) ?_ ?_
          rotate_left
          ·show Act.put _ (some 9) _ = _
           simp only [Act.put, sA, sB, sC, i64_w, i32_w]
           rfl
          exact norm_ (by simp only [putAll, Act.put, sA, sB, sC]) (hCont (gb260) _ ⟨hHeld, (kr HO246), (kr HO257), (bkp BK243), (bkp BK252), (bkp BK260), GW260.out, GE260.out, NB243_260.out, NB260_243.out, NB252_260.out, NB260_252.out, (bbw3 HB GE243 GE252 GE260)⟩)
         ·skip
          refine box_step ?hg (N := 9) ?hd (cs := #[.int .i64 0, .int .i64 0, .int .i64 0, .int .i64 0, .slice none 0 0]) (t := 42) ?hr ?_; (case hd => rfl); (case hg => rfl); (case hr => first | (go_simp; done) | (go_simp; rfl))
          intro gb260 hg w76 hbox hb
          have HS3_ := (hb.cell (World.block_lt_of_cell? _ _ (hHeld.2.2.2))).trans (hHeld.2.2.2)
          replace HO246 := asd (Kd.R_below (kr HO246) hb)
          replace HO257 := asd (Kd.R_below (kr HO257) hb)
          have BK260 := asd (hbox)
          have GW260 := ngw2 hg HB GE243 GE252
          have GE260 := ngw2 hg HB GE243 GE252
          replace HB := bS2 HB GE243 GE252 hb
          have NB243_260 := nlt hg BK243
          have NB260_243 := nsy (nlt hg BK243)
          replace BK243 := bB BK243 hb
          have NB252_260 := nlt hg BK252
          have NB260_252 := nsy (nlt hg BK252)
          replace BK252 := bB BK252 hb
          clear hb hbox hg
          refine hK.out _ _ ⟨bcl BK252 0, bcl BK252 1, bcl BK252 2, HS3_⟩ (fun hHeld => ?_)
          clear hK K
          refine norm_ (a' := ?_) ?_ ?_
          rotate_left
          ·show Act.put _ (some 9) _ = _
           simp only [Act.put, sA, sB, sC, i64_w, i32_w]
           rfl
          refine ro 3 (some 33) (bs 9 191) HT_ (fun K hK => ?_)
          refine gs Tryd.func41 #[.string (⟨#[83, 72]⟩ : ByteArray), .string (rdOf ByteArray.empty t244 0)] ?_
          with_reducible refine (strings_Index.calls _ _ _ _ (texts.tabB HTAB.out (by repeat (first | (with_reducible first | exact HB.out | exact Below.refl _ _ | apply below_alloc | apply pw_below_drewN | apply below_drew1 | refine below_set ?_ GE243.out | refine below_set ?_ GE252.out | refine below_set ?_ GE260.out) | exact HB.out))) A9.out).mono ?_
          rintro e w77 ⟨rfl, hb⟩
          have HS3_ := (hb.cell (World.block_lt_of_cell? _ _ (hHeld.2.2.2))).trans (hHeld.2.2.2)
          refine ⟨_, rfl, ?_⟩
          replace HO246 := asd (Kd.R_below (kr HO246) hb)
          replace HO257 := asd (Kd.R_below (kr HO257) hb)
          replace BK243 := bB BK243 hb
          replace BK252 := bB BK252 hb
          replace BK260 := bB BK260 hb
          replace HB := bS3 HB GE243 GE252 GE260 hb
          (try clear hb)
          (try clear hb2)
          (try clear hk)
          (try clear hi)
          refine hK.out _ _ ⟨bcl BK252 0, bcl BK252 1, bcl BK252 2, HS3_⟩ (fun hHeld => ?_)
          clear hK K
          refine norm_ (a' := ?_) ?_ ?_
          rotate_left
          ·show Act.put _ (some 33) _ = _
           simp only [Act.put, sA, sB, sC, i64_w, i32_w]
           rfl
          refine pu 6 (some 36) (bT 9 8) HT_ ?_
          exact norm_ (by simp only [putAll, Act.put, sA, sB, sC]) (hCont (gb260) _ ⟨hHeld, (kr HO246), (kr HO257), (bkp BK243), (bkp BK252), (bkp BK260), GW260.out, GE260.out, NB243_260.out, NB260_243.out, NB252_260.out, NB260_252.out, (bbw3 HB GE243 GE252 GE260)⟩)
        rintro gb260 w79 ⟨hS_, h0_, h1_, h2_, h3_, h4_, h5_, h6_, h7_, h8_, h9_, h10_, h11_⟩
        have n0_ : Aside0 (Kd.R Kd.string 9 w79 w.heap.size (fun _ => True) (.slice (some ad247) t244.length co69) t244) := ⟨h0_⟩
        have n1_ : Aside0 (Kd.R (Kd.int .i64) 2 w79 w.heap.size (fun _ => True) (.slice Ao77 t254.length co77) t254) := ⟨h1_⟩
        have n2_ : Aside0 (w79.heap[gb243]? = some (.cells #[.int .i64 0, .int .i64 0, .int .i64 0, .int .i64 0, .slice none 0 0] 42 (0, 0))) := ⟨h2_⟩
        have n3_ : Aside0 (w79.heap[gb252]? = some (.cells #[.int .i64 t248, .int .i64 t249, .int .i64 t250] 40 (0, 0))) := ⟨h3_⟩
        have n4_ : Aside0 (w79.heap[gb260]? = some (.cells #[.int .i64 0, .int .i64 0, .int .i64 0, .int .i64 0, .slice none 0 0] 42 (0, 0))) := ⟨h4_⟩
        have n5_ : Aside0 (w.heap.size ≤ gb260) := ⟨h5_⟩
        have n6_ : Aside0 (w.heap.size ≤ gb260) := ⟨h6_⟩
        have n7_ : Aside0 (gb243 ≠ gb260) := ⟨h7_⟩
        have n8_ : Aside0 (gb260 ≠ gb243) := ⟨h8_⟩
        have n9_ : Aside0 (gb252 ≠ gb260) := ⟨h9_⟩
        have n10_ : Aside0 (gb260 ≠ gb252) := ⟨h10_⟩
        have n11_ : Aside0 (Below w.heap.size w w79) := ⟨h11_⟩
        clear HO246
        clear HO257
        clear BK243
        clear BK252
        clear HB
        clear h0_ h1_ h2_ h3_ h4_ h5_ h6_ h7_ h8_ h9_ h10_ h11_
        have HO246 := n0_
        have HO257 := n1_
        have BK243 := n2_
        have BK252 := n3_
        have BK260 := n4_
        have GW260 := n5_
        have GE260 := n6_
        have NB243_260 := n7_
        have NB260_243 := n8_
        have NB252_260 := n9_
        have NB260_252 := n10_
        have HB := n11_
        clear n0_ n1_ n2_ n3_ n4_ n5_ n6_ n7_ n8_ n9_ n10_ n11_
        have hHeld : w79.cell? ⟨gb252, 0, none⟩ = some (.int .i64 t248) ∧ w79.cell? ⟨gb252, 1, none⟩ = some (.int .i64 t249) ∧ w79.cell? ⟨gb252, 2, none⟩ = some (.int .i64 t250) ∧ w79.cell? ad247 = some (.string (rdOf ByteArray.empty t244 0)) := hS_
        refine norm_ (a' := ?_) ?_ ?_
        rotate_left
        ·simp only [putAll, Act.put, sA, sB, sC]
         rfl
        refine ro 8 (none) (bT 9 9) HT_ (fun K hK => ?_)
        have hs80 : w79.cell? ⟨gb260, 0, none⟩ = some (.int .i64 0) := bcl BK260 0
        have hfs80 := blk_frozen BK260.out 0
        have hns80_0 := NB243_260.out
        have hns80_1 := NB252_260.out
        have hms80_0 := NB260_243.out
        have hms80_1 := NB260_252.out
        have hs81 : w79.cell? ⟨gb260, 1, none⟩ = some (.int .i64 0) := bcl BK260 1
        have hfs81 := blk_frozen BK260.out 1
        have hns81_0 := NB243_260.out
        have hns81_1 := NB252_260.out
        have hms81_0 := NB260_243.out
        have hms81_1 := NB260_252.out
        have hs82 : w79.cell? ⟨gb260, 2, none⟩ = some (.int .i64 0) := bcl BK260 2
        have hfs82 := blk_frozen BK260.out 2
        have hns82_0 := NB243_260.out
        have hns82_1 := NB252_260.out
        have hms82_0 := NB260_243.out
        have hms82_1 := NB260_252.out
        have hs83 : w79.cell? ⟨gb260, 3, none⟩ = some (.int .i64 0) := bcl BK260 3
        have hfs83 := blk_frozen BK260.out 3
        have hns83_0 := NB243_260.out
        have hns83_1 := NB252_260.out
        have hms83_0 := NB260_243.out
        have hms83_1 := NB260_252.out
        have hs84 : w79.cell? ⟨gb260, 4, none⟩ = some (.slice none 0 0) := bcl BK260 4
        have hfs84 := blk_frozen BK260.out 4
        have hns84_0 := NB243_260.out
        have hns84_1 := NB252_260.out
        have hms84_0 := NB260_243.out
        have hms84_1 := NB260_252.out
        refine skip_ (w1 := ?_) (by rfl) rfl ?_ ?_
        rotate_left
        ·go_simp
         rfl
        refine hK.out _ _ ⟨(cf NB252_260 ((cf NB252_260 ((cf NB252_260 ((cf NB252_260 ((cf NB252_260 (hHeld.1)))))))))), (cf NB252_260 ((cf NB252_260 ((cf NB252_260 ((cf NB252_260 ((cf NB252_260 (hHeld.2.1)))))))))), (cf NB252_260 ((cf NB252_260 ((cf NB252_260 ((cf NB252_260 ((cf NB252_260 (hHeld.2.2.1)))))))))), ((cell_far (p := ⟨gb260, _, none⟩) (by first | exact Kd.own_blk (Kd.R_ne HO246.out BK260.out (by decide)) | (rw [add_block]; exact Kd.own_blk (Kd.R_ne HO246.out BK260.out (by decide))) | (show (Addr.add _ _).block ≠ _; rw [add_block]; exact Kd.own_blk (Kd.R_ne HO246.out BK260.out (by decide))) | (dsimp only; exact Kd.own_blk (Kd.R_ne HO246.out BK260.out (by decide)))) _).trans (((cell_far (p := ⟨gb260, _, none⟩) (by first | exact Kd.own_blk (Kd.R_ne HO246.out BK260.out (by decide)) | (rw [add_block]; exact Kd.own_blk (Kd.R_ne HO246.out BK260.out (by decide))) | (show (Addr.add _ _).block ≠ _; rw [add_block]; exact Kd.own_blk (Kd.R_ne HO246.out BK260.out (by decide))) | (dsimp only; exact Kd.own_blk (Kd.R_ne HO246.out BK260.out (by decide)))) _).trans (((cell_far (p := ⟨gb260, _, none⟩) (by first | exact Kd.own_blk (Kd.R_ne HO246.out BK260.out (by decide)) | (rw [add_block]; exact Kd.own_blk (Kd.R_ne HO246.out BK260.out (by decide))) | (show (Addr.add _ _).block ≠ _; rw [add_block]; exact Kd.own_blk (Kd.R_ne HO246.out BK260.out (by decide))) | (dsimp only; exact Kd.own_blk (Kd.R_ne HO246.out BK260.out (by decide)))) _).trans (((cell_far (p := ⟨gb260, _, none⟩) (by first | exact Kd.own_blk (Kd.R_ne HO246.out BK260.out (by decide)) | (rw [add_block]; exact Kd.own_blk (Kd.R_ne HO246.out BK260.out (by decide))) | (show (Addr.add _ _).block ≠ _; rw [add_block]; exact Kd.own_blk (Kd.R_ne HO246.out BK260.out (by decide))) | (dsimp only; exact Kd.own_blk (Kd.R_ne HO246.out BK260.out (by decide)))) _).trans (((cell_far (p := ⟨gb260, _, none⟩) (by first | exact Kd.own_blk (Kd.R_ne HO246.out BK260.out (by decide)) | (rw [add_block]; exact Kd.own_blk (Kd.R_ne HO246.out BK260.out (by decide))) | (show (Addr.add _ _).block ≠ _; rw [add_block]; exact Kd.own_blk (Kd.R_ne HO246.out BK260.out (by decide))) | (dsimp only; exact Kd.own_blk (Kd.R_ne HO246.out BK260.out (by decide)))) _).trans (hHeld.2.2.2))))))))))⟩ (fun hHeld => ?_)
        clear hK K
        refine done_ (done_of HT_.out (by kernel_rfl)) ?_
        have hnb85 := NB260_243.out
        have hnc85 := NB243_260.out
        have hnb86 := NB260_252.out
        have hnc86 := NB252_260.out
        obtain ⟨hcz87_0, hcz87_1, hcz87_2, hcz87_3, hcz87_4, hfz87_0, hfz87_1, hfz87_2, hfz87_3, hfz87_4⟩ := bz5 BK260
        try go_wp2_with (first | (go_at_call 42; (with_reducible refine (impl_IsPattern.calls _ _ _ _ _ _ _ _ _ ?side1 ?side2 A12.out).mono ?_); (case side1 => refine (Kd.R_reads' (e := 2) (base := w.heap.size) (ok := fun k_ => True) (n := t254.length) (c := co77) ?_).2.2; exact (by (with_reducible repeat (first | apply Kd.R_alloc | apply Kd.R_drewN | apply Kd.R_drew)); exact (Kd.R_mono (rw5 (Kd.R_types HO257.out BK260.out (by decide))) (fun _ h_ => h_.1)))); (case side2 => exact (Kd.R_reads' HO257.out).2.1); rintro e w88 ⟨rfl, hb⟩; replace HO246 := asd (Kd.R_below (by (with_reducible repeat (first | apply Kd.R_alloc | apply Kd.R_drewN | apply Kd.R_drew)); exact (Kd.R_mono (rw5 (Kd.R_types HO246.out BK260.out (by decide))) (fun _ h_ => h_.1))) hb); replace HO257 := asd (Kd.R_below (by (with_reducible repeat (first | apply Kd.R_alloc | apply Kd.R_drewN | apply Kd.R_drew)); exact (Kd.R_mono (rw5 (Kd.R_types HO257.out BK260.out (by decide))) (fun _ h_ => h_.1))) hb); replace BK243 := asd (blk_below (g := gb243) (o := .cells #[.int .i64 0, .int .i64 0, .int .i64 0, .int .i64 0, .slice none 0 0] 42 (0, 0)) (bq1 BK243 NB243_260) hb); replace BK252 := asd (blk_below (g := gb252) (o := .cells #[.int .i64 t248, .int .i64 t249, .int .i64 t250] 40 (0, 0)) (bq1 BK252 NB252_260) hb); replace BK260 := asd (blk_below (g := gb260) (o := .cells #[.int .i64 t259, .int .i64 t248, .int .i64 t249, .int .i64 t250, .slice Ao77 t254.length co77] 42 (0, 0)) (bq0 BK260) hb); replace HB := bS3 HB GE243 GE252 GE260 hb; (try clear hb); obtain ⟨hcz89_0, hcz89_1, hcz89_2, hcz89_3, hcz89_4, hfz89_0, hfz89_1, hfz89_2, hfz89_3, hfz89_4⟩ := bz5 BK243))
        refine bodyPost_ret (results_ct rfl _ _ gb243 42 #[.int .i64 0, .int .i64 0, .int .i64 0, .int .i64 0, .slice none 0 0] (0, 0) _ rfl (bq0 BK243) Tryd.underlying42 rfl (by kernel_rfl)) rfl ?_
        exact ⟨_, by first | rfl | (simp [errW_none, errW_some] <;> rfl) | (simp [*, errW_none, errW_some] <;> rfl), by first | exact Kd.R_nil _ _ _ _ _ | exact Kd.N_nil _ _ _ _ _ | exact Kd.V_nil _ _ _ _ _ | exact Kd.Q_nil _ _ _ _ _ | exact Kd.S_nil _ _ _ _ _, bbw3 HB GE243 GE252 GE260⟩
      ·replace c11 := Bool.eq_false_iff.mpr c11
       subst c11
       replace H := ifF H
       simp only [Option.some.injEq, Prod.mk.injEq] at H
       obtain ⟨rfl, rfl, rfl, rfl, rfl, rfl⟩ := H
       go_enter Tryd.func15, Tryd.ntmps15
       try go_wp2_with (first | ((with_reducible refine gd 2 rfl ?_); refine bx #[.int .i64 0, .int .i64 0, .int .i64 0, .int .i64 0, .slice none 0 0] 42 ?_; intro gb243 hg w90 BK243 hb; have GE243 := ngw0 hg HB; replace HB := bS0 HB hb; clear hb hg) | ((with_reducible refine gate_callee (f := 38) rfl ?_); refine gl 11 Tryd.func38 #[.string a0, .string (⟨#[32]⟩ : ByteArray)] ?_; (with_reducible refine (strings_Split.calls _ _ _ _ (texts.tabB HTAB.out (by repeat (first | (with_reducible first | exact HB.out | exact Below.refl _ _ | apply below_alloc | apply pw_below_drewN | apply below_drew1 | refine below_set ?_ GE243.out | refine below_set ?_ GE252.out | refine below_set ?_ GE260.out) | exact HB.out))) A2.out).mono ?_); rintro e w91 ⟨v245, rfl, ho0, hb⟩; refine ⟨_, rfl, ?_⟩; have HO246 := asd (Kd.R_lower ho0 (bsz1 HB GE243)); replace BK243 := bB BK243 hb; replace HB := bS1 HB GE243 hb; (try clear hb); (try clear hb2); (try clear hk); (try clear hi); (try clear ho0); obtain ⟨Ao92, co92, eo92⟩ := Kd.R_slice HO246.out; subst eo92; have p247 : 0 ≤ (1 : Int) := (by omega); have q247 : 1 < (t244.length : Int) := od; obtain ⟨ad247, e247, hx247_0⟩ := Kd.at_string (Kd.R_reads' HO246.out).2.2 1 p247 q247; cases e247; (try simp only [show (1 : Int).toNat = 1 from rfl, Nat.reduceMul, Nat.reduceEqDiff, Go.Addr.add, ↓reduceIte] at hx247_0); have qi247 : (1 < t244.length) = True := eq_true (by omega); (try rw [show ((1 : Int)).toNat = 1 from rfl] at hx247_0); replace p247 := eq_true p247; replace q247 := eq_true q247) | ((with_reducible refine gate_callee (f := 39) rfl ?_); refine gl 20 Tryd.func39 #[.string (rdOf ByteArray.empty t244 1)] ?_; (with_reducible refine (impl_ReadLattice.calls _ _ _ _ _ _ _ (texts.tabB HTAB.out (by repeat (first | (with_reducible first | exact HB.out | exact Below.refl _ _ | apply below_alloc | apply pw_below_drewN | apply below_drew1 | refine below_set ?_ GE243.out | refine below_set ?_ GE252.out | refine below_set ?_ GE260.out) | exact HB.out))) A5.out).mono ?_); rintro e w93 ⟨rfl, hb⟩; refine ⟨_, rfl, ?_⟩; replace HO246 := asd (Kd.R_below (kr HO246) hb); replace BK243 := bB BK243 hb; replace HB := bS1 HB GE243 hb; (try clear hb)) | ((with_reducible refine gd 5 rfl ?_); refine bx #[.int .i64 0, .int .i64 0, .int .i64 0] 40 ?_; intro gb252 hg w94 BK252 hb; replace HO246 := asd (Kd.R_below (kr HO246) hb); have GE252 := ngw1 hg HB GE243; replace HB := bS1 HB GE243 hb; have NB243_252 := nlt hg BK243; have NB252_243 := nsy (nlt hg BK243); replace BK243 := bB BK243 hb; clear hb hg; have hnb95 := NB252_243.out; have hnc95 := NB243_252.out; obtain ⟨hcz96_0, hcz96_1, hcz96_2, hfz96_0, hfz96_1, hfz96_2⟩ := bz3 BK252; have p253 : 0 ≤ (2 : Int) := (by omega); have q253 : 2 < (t244.length : Int) := od; obtain ⟨ad253, e253, hx253_0⟩ := Kd.at_string (Kd.R_reads' HO246.out).2.2 2 p253 q253; obtain rfl : ad247 = ad253 := (by injection e253); (try simp only [show (2 : Int).toNat = 2 from rfl, Nat.reduceMul, Nat.reduceEqDiff, Go.Addr.add, ↓reduceIte] at hx253_0); have qi253 : (2 < t244.length) = True := eq_true (by omega); (try rw [show ((2 : Int)).toNat = 2 from rfl] at hx253_0); have hn253_0 : ad247.block ≠ gb252 := Kd.own_blk (Kd.R_ne HO246.out BK252.out (by decide)); have hn253_1 : ad247.block ≠ gb252 := Kd.own_blk (Kd.R_ne HO246.out BK252.out (by decide)); have hn253_2 : ad247.block ≠ gb252 := Kd.own_blk (Kd.R_ne HO246.out BK252.out (by decide)); replace hx253_0 := cw3 (.int .i64 t248) (.int .i64 t249) (.int .i64 t250) hn253_0 hx253_0; clear hn253_0; clear hn253_1; clear hn253_2; replace p253 := eq_true p253; replace q253 := eq_true q253) | ((with_reducible refine gate_callee (f := 40) rfl ?_); refine gl 27 Tryd.func40 #[.string (rdOf ByteArray.empty t244 2)] ?_; (with_reducible refine (impl_readDigits.calls _ _ _ _ _ A7.out).mono ?_); rintro e w97 ⟨v256, rfl, ho0, hb⟩; refine ⟨_, rfl, ?_⟩; replace HO246 := asd (Kd.R_below (by (with_reducible repeat (first | apply Kd.R_alloc | apply Kd.R_drewN | apply Kd.R_drew)); exact (Kd.R_mono (rw3 (Kd.R_types HO246.out BK252.out (by decide))) (fun _ h_ => h_.1))) hb); have HO257 := asd (Kd.R_lower ho0 (bsz2 HB GE243 GE252)); replace BK243 := asd (blk_below (g := gb243) (o := .cells #[.int .i64 0, .int .i64 0, .int .i64 0, .int .i64 0, .slice none 0 0] 42 (0, 0)) (bq1 BK243 NB243_252) hb); replace BK252 := asd (blk_below (g := gb252) (o := .cells #[.int .i64 t248, .int .i64 t249, .int .i64 t250] 40 (0, 0)) (bq0 BK252) hb); replace HB := bS2 HB GE243 GE252 hb; (try clear hb); (try clear hb2); (try clear hk); (try clear hi); (try clear ho0)))
       replace HO246 := asd (Kd.R_drew HO246.out)
       replace HO257 := asd (Kd.R_drew HO257.out)
       replace BK243 := asd (blk_drew BK243.out)
       replace BK252 := asd (blk_drew BK252.out)
       replace HB := asd (below_drew1 HB.out)
       have p258 : 0 ≤ (0 : Int) := (by omega)
       have q258 : 0 < (t244.length : Int) := od
       obtain ⟨ad258, e258, hx258_0⟩ := Kd.at_string (Kd.R_reads' HO246.out).2.2 0 p258 q258
       obtain rfl : ad247 = ad258 := (by injection e258)
       have qi258 : (0 < t244.length) = True := eq_true (by omega)
       (try rw [show ((0 : Int)).toNat = 0 from rfl] at hx258_0)
       (try rw [Addr.add_zero'] at hx258_0)
       replace p258 := eq_true p258
       replace q258 := eq_true q258
       refine sh 9 (cb3 BK252 (e1 hx258_0)) (fun hHeld => ?_); refine with_tabW impl_ReadPattern.tab6 impl_ReadPattern.bits6 (fun HT_ HW_ => ?_)
       generalize w97.drew = w98 at HO246 HO257 BK243 BK252 HB hx258_0 hHeld ⊢
       refine pu 0 (some 30) (bT 9 1) HT_ ?_
       refine pu 1 (some 31) (bT 9 2) HT_ ?_
       refine pu 5 (some 35) (bs 9 35) HT_ ?_
       refine ta 2 (some 32) (bs 9 39) HT_ HW_ hHeld ?_
       refine ta 4 (some 34) (bs 9 55) HT_ HW_ hHeld ?_
       obtain ⟨Ao100, co100, eo100⟩ := Kd.R_slice HO257.out
       (first | subst eo100 | (injection eo100 with f1_ f2_ f3_; have f4_ := f1_.symm; have f5_ := f3_.symm; clear f1_ f2_ f3_; subst f4_; subst f5_))
       refine join_ (σ := Nat) 1 (bT 9 8) (fun s_ => [(33, .int .i64 t259), (9, .pointer (some ⟨s_, 0, none⟩)), (36, .agg #[.int .i64 t259, .int .i64 t248, .int .i64 t249, .int .i64 t250, .slice Ao100 t254.length co100])]) (fun s_ w' => (w'.cell? ⟨gb252, 0, none⟩ = some (.int .i64 t248) ∧ w'.cell? ⟨gb252, 1, none⟩ = some (.int .i64 t249) ∧ w'.cell? ⟨gb252, 2, none⟩ = some (.int .i64 t250) ∧ w'.cell? ad247 = some (.string (rdOf ByteArray.empty t244 0))) ∧ (Kd.R Kd.string 9 w' w.heap.size (fun _ => True) (.slice (some ad247) t244.length co92) t244) ∧ (Kd.R (Kd.int .i64) 2 w' w.heap.size (fun _ => True) (.slice Ao100 t254.length co100) t254) ∧ (w'.heap[gb243]? = some (.cells #[.int .i64 0, .int .i64 0, .int .i64 0, .int .i64 0, .slice none 0 0] 42 (0, 0))) ∧ (w'.heap[gb252]? = some (.cells #[.int .i64 t248, .int .i64 t249, .int .i64 t250] 40 (0, 0))) ∧ (w'.heap[s_]? = some (.cells #[.int .i64 0, .int .i64 0, .int .i64 0, .int .i64 0, .slice none 0 0] 42 (0, 0))) ∧ (w.heap.size ≤ s_) ∧ (w.heap.size ≤ s_) ∧ (gb243 ≠ s_) ∧ (s_ ≠ gb243) ∧ (gb252 ≠ s_) ∧ (s_ ≠ gb252) ∧ (Below w.heap.size w w')) ?_ ?_
       rotate_left
       ·intro hCont
        refine two_ (i := 3) (j := 7) (Ni := some 33) (Nj := some 9) (bT 9 6) (bs 9 183) rfl rfl rfl rfl (two_of HT_.out (by kernel_rfl)) (by decide) (by decide) (fun K hK => ?_) (fun K hK => ?_)
        ·skip
         refine gs Tryd.func41 #[.string (⟨#[83, 72]⟩ : ByteArray), .string (rdOf ByteArray.empty t244 0)] ?_
         with_reducible refine (strings_Index.calls _ _ _ _ (texts.tabB HTAB.out (by repeat (first | (with_reducible first | exact HB.out | exact Below.refl _ _ | apply below_alloc | apply pw_below_drewN | apply below_drew1 | refine below_set ?_ GE243.out | refine below_set ?_ GE252.out | refine below_set ?_ GE260.out) | exact HB.out))) A9.out).mono ?_
         rintro e w99 ⟨rfl, hb⟩
         have HS3_ := (hb.cell (World.block_lt_of_cell? _ _ (hHeld.2.2.2))).trans (hHeld.2.2.2)
         refine ⟨_, rfl, ?_⟩
         replace HO246 := asd (Kd.R_below (kr HO246) hb)
         replace HO257 := asd (Kd.R_below (kr HO257) hb)
         replace BK243 := bB BK243 hb
         replace BK252 := bB BK252 hb
         replace HB := bS2 HB GE243 GE252 hb
         (try clear hb)
         (try clear hb2)
         (try clear hk)
         (try clear hi)
         refine hK.out _ _ ⟨bcl BK252 0, bcl BK252 1, bcl BK252 2, HS3_⟩ (fun hHeld => ?_)
         clear hK K
         refine norm_ (a' := ?_) ?_ ?_
         rotate_left
         ·show Act.put _ (some 33) _ = _
          simp only [Act.put, sA, sB, sC, i64_w, i32_w]
          rfl
         refine pu 6 (some 36) (bT 9 7) HT_ ?_
         refine ro 7 (some 9) (bT 9 8) HT_ (fun K hK => ?_)
         refine box_step ?hg (N := 9) ?hd (cs := #[.int .i64 0, .int .i64 0, .int .i64 0, .int .i64 0, .slice none 0 0]) (t := 42) ?hr ?_; (case hd => rfl); (case hg => rfl); (case hr => first | (go_simp; done) | (go_simp; rfl))
         intro gb260 hg w101 hbox hb
         have HS3_ := (hb.cell (World.block_lt_of_cell? _ _ (hHeld.2.2.2))).trans (hHeld.2.2.2)
         replace HO246 := asd (Kd.R_below (kr HO246) hb)
         replace HO257 := asd (Kd.R_below (kr HO257) hb)
         have BK260 := asd (hbox)
         have GW260 := ngw2 hg HB GE243 GE252
         have GE260 := ngw2 hg HB GE243 GE252
         replace HB := bS2 HB GE243 GE252 hb
         have NB243_260 := nlt hg BK243
         have NB260_243 := nsy (nlt hg BK243)
         replace BK243 := bB BK243 hb
         have NB252_260 := nlt hg BK252
         have NB260_252 := nsy (nlt hg BK252)
         replace BK252 := bB BK252 hb
         clear hb hbox hg
         refine hK.out _ _ ⟨bcl BK252 0, bcl BK252 1, bcl BK252 2, HS3_⟩ (fun hHeld => ?_)
         clear hK K
         refine norm_ (a' := ?_) ?_ ?_
         rotate_left
         ·show Act.put _ (some 9) _ = _
          simp only [Act.put, sA, sB, sC, i64_w, i32_w]
          rfl
         exact norm_ (by simp only [putAll, Act.put, sA, sB, sC]) (hCont (gb260) _ ⟨hHeld, (kr HO246), (kr HO257), (bkp BK243), (bkp BK252), (bkp BK260), GW260.out, GE260.out, NB243_260.out, NB260_243.out, NB252_260.out, NB260_252.out, (bbw3 HB GE243 GE252 GE260)⟩)
        ·skip
         refine box_step ?hg (N := 9) ?hd (cs := #[.int .i64 0, .int .i64 0, .int .i64 0, .int .i64 0, .slice none 0 0]) (t := 42) ?hr ?_; (case hd => rfl); (case hg => rfl); (case hr => first | (go_simp; done) | (go_simp; rfl))
         intro gb260 hg w99 hbox hb
         have HS3_ := (hb.cell (World.block_lt_of_cell? _ _ (hHeld.2.2.2))).trans (hHeld.2.2.2)
         replace HO246 := asd (Kd.R_below (kr HO246) hb)
         replace HO257 := asd (Kd.R_below (kr HO257) hb)
         have BK260 := asd (hbox)
         have GW260 := ngw2 hg HB GE243 GE252
         have GE260 := ngw2 hg HB GE243 GE252
         replace HB := bS2 HB GE243 GE252 hb
         have NB243_260 := nlt hg BK243
         have NB260_243 := nsy (nlt hg BK243)
         replace BK243 := bB BK243 hb
         have NB252_260 := nlt hg BK252
         have NB260_252 := nsy (nlt hg BK252)
         replace BK252 := bB BK252 hb
         clear hb hbox hg
         refine hK.out _ _ ⟨bcl BK252 0, bcl BK252 1, bcl BK252 2, HS3_⟩ (fun hHeld => ?_)
         clear hK K
         refine norm_ (a' := ?_) ?_ ?_
         rotate_left
         ·show Act.put _ (some 9) _ = _
          simp only [Act.put, sA, sB, sC, i64_w, i32_w]
          rfl
         refine ro 3 (some 33) (bs 9 191) HT_ (fun K hK => ?_)
         refine gs Tryd.func41 #[.string (⟨#[83, 72]⟩ : ByteArray), .string (rdOf ByteArray.empty t244 0)] ?_
         with_reducible refine (strings_Index.calls _ _ _ _ (texts.tabB HTAB.out (by repeat (first | (with_reducible first | exact HB.out | exact Below.refl _ _ | apply below_alloc | apply pw_below_drewN | apply below_drew1 | refine below_set ?_ GE243.out | refine below_set ?_ GE252.out | refine below_set ?_ GE260.out) | exact HB.out))) A9.out).mono ?_
         rintro e w100 ⟨rfl, hb⟩
         have HS3_ := (hb.cell (World.block_lt_of_cell? _ _ (hHeld.2.2.2))).trans (hHeld.2.2.2)
         refine ⟨_, rfl, ?_⟩
         replace HO246 := asd (Kd.R_below (kr HO246) hb)
         replace HO257 := asd (Kd.R_below (kr HO257) hb)
         replace BK243 := bB BK243 hb
         replace BK252 := bB BK252 hb
         replace BK260 := bB BK260 hb
         replace HB := bS3 HB GE243 GE252 GE260 hb
         (try clear hb)
         (try clear hb2)
         (try clear hk)
         (try clear hi)
         refine hK.out _ _ ⟨bcl BK252 0, bcl BK252 1, bcl BK252 2, HS3_⟩ (fun hHeld => ?_)
         clear hK K
         refine norm_ (a' := ?_) ?_ ?_
         rotate_left
         ·show Act.put _ (some 33) _ = _
          simp only [Act.put, sA, sB, sC, i64_w, i32_w]
          rfl
         refine pu 6 (some 36) (bT 9 8) HT_ ?_
         exact norm_ (by simp only [putAll, Act.put, sA, sB, sC]) (hCont (gb260) _ ⟨hHeld, (kr HO246), (kr HO257), (bkp BK243), (bkp BK252), (bkp BK260), GW260.out, GE260.out, NB243_260.out, NB260_243.out, NB252_260.out, NB260_252.out, (bbw3 HB GE243 GE252 GE260)⟩)
       rintro gb260 w102 ⟨hS_, h0_, h1_, h2_, h3_, h4_, h5_, h6_, h7_, h8_, h9_, h10_, h11_⟩
       have n0_ : Aside0 (Kd.R Kd.string 9 w102 w.heap.size (fun _ => True) (.slice (some ad247) t244.length co92) t244) := ⟨h0_⟩
       have n1_ : Aside0 (Kd.R (Kd.int .i64) 2 w102 w.heap.size (fun _ => True) (.slice Ao100 t254.length co100) t254) := ⟨h1_⟩
       have n2_ : Aside0 (w102.heap[gb243]? = some (.cells #[.int .i64 0, .int .i64 0, .int .i64 0, .int .i64 0, .slice none 0 0] 42 (0, 0))) := ⟨h2_⟩
       have n3_ : Aside0 (w102.heap[gb252]? = some (.cells #[.int .i64 t248, .int .i64 t249, .int .i64 t250] 40 (0, 0))) := ⟨h3_⟩
       have n4_ : Aside0 (w102.heap[gb260]? = some (.cells #[.int .i64 0, .int .i64 0, .int .i64 0, .int .i64 0, .slice none 0 0] 42 (0, 0))) := ⟨h4_⟩
       have n5_ : Aside0 (w.heap.size ≤ gb260) := ⟨h5_⟩
       have n6_ : Aside0 (w.heap.size ≤ gb260) := ⟨h6_⟩
       have n7_ : Aside0 (gb243 ≠ gb260) := ⟨h7_⟩
       have n8_ : Aside0 (gb260 ≠ gb243) := ⟨h8_⟩
       have n9_ : Aside0 (gb252 ≠ gb260) := ⟨h9_⟩
       have n10_ : Aside0 (gb260 ≠ gb252) := ⟨h10_⟩
       have n11_ : Aside0 (Below w.heap.size w w102) := ⟨h11_⟩
       clear HO246
       clear HO257
       clear BK243
       clear BK252
       clear HB
       clear h0_ h1_ h2_ h3_ h4_ h5_ h6_ h7_ h8_ h9_ h10_ h11_
       have HO246 := n0_
       have HO257 := n1_
       have BK243 := n2_
       have BK252 := n3_
       have BK260 := n4_
       have GW260 := n5_
       have GE260 := n6_
       have NB243_260 := n7_
       have NB260_243 := n8_
       have NB252_260 := n9_
       have NB260_252 := n10_
       have HB := n11_
       clear n0_ n1_ n2_ n3_ n4_ n5_ n6_ n7_ n8_ n9_ n10_ n11_
       have hHeld : w102.cell? ⟨gb252, 0, none⟩ = some (.int .i64 t248) ∧ w102.cell? ⟨gb252, 1, none⟩ = some (.int .i64 t249) ∧ w102.cell? ⟨gb252, 2, none⟩ = some (.int .i64 t250) ∧ w102.cell? ad247 = some (.string (rdOf ByteArray.empty t244 0)) := hS_
       refine norm_ (a' := ?_) ?_ ?_
       rotate_left
       ·simp only [putAll, Act.put, sA, sB, sC]
        rfl
       refine ro 8 (none) (bT 9 9) HT_ (fun K hK => ?_)
       have hs103 : w102.cell? ⟨gb260, 0, none⟩ = some (.int .i64 0) := bcl BK260 0
       have hfs103 := blk_frozen BK260.out 0
       have hns103_0 := NB243_260.out
       have hns103_1 := NB252_260.out
       have hms103_0 := NB260_243.out
       have hms103_1 := NB260_252.out
       have hs104 : w102.cell? ⟨gb260, 1, none⟩ = some (.int .i64 0) := bcl BK260 1
       have hfs104 := blk_frozen BK260.out 1
       have hns104_0 := NB243_260.out
       have hns104_1 := NB252_260.out
       have hms104_0 := NB260_243.out
       have hms104_1 := NB260_252.out
       have hs105 : w102.cell? ⟨gb260, 2, none⟩ = some (.int .i64 0) := bcl BK260 2
       have hfs105 := blk_frozen BK260.out 2
       have hns105_0 := NB243_260.out
       have hns105_1 := NB252_260.out
       have hms105_0 := NB260_243.out
       have hms105_1 := NB260_252.out
       have hs106 : w102.cell? ⟨gb260, 3, none⟩ = some (.int .i64 0) := bcl BK260 3
       have hfs106 := blk_frozen BK260.out 3
       have hns106_0 := NB243_260.out
       have hns106_1 := NB252_260.out
       have hms106_0 := NB260_243.out
       have hms106_1 := NB260_252.out
       have hs107 : w102.cell? ⟨gb260, 4, none⟩ = some (.slice none 0 0) := bcl BK260 4
       have hfs107 := blk_frozen BK260.out 4
       have hns107_0 := NB243_260.out
       have hns107_1 := NB252_260.out
       have hms107_0 := NB260_243.out
       have hms107_1 := NB260_252.out
       refine skip_ (w1 := ?_) (by rfl) rfl ?_ ?_
       rotate_left
       ·go_simp
        rfl
       refine hK.out _ _ ⟨(cf NB252_260 ((cf NB252_260 ((cf NB252_260 ((cf NB252_260 ((cf NB252_260 (hHeld.1)))))))))), (cf NB252_260 ((cf NB252_260 ((cf NB252_260 ((cf NB252_260 ((cf NB252_260 (hHeld.2.1)))))))))), (cf NB252_260 ((cf NB252_260 ((cf NB252_260 ((cf NB252_260 ((cf NB252_260 (hHeld.2.2.1)))))))))), ((cell_far (p := ⟨gb260, _, none⟩) (by first | exact Kd.own_blk (Kd.R_ne HO246.out BK260.out (by decide)) | (rw [add_block]; exact Kd.own_blk (Kd.R_ne HO246.out BK260.out (by decide))) | (show (Addr.add _ _).block ≠ _; rw [add_block]; exact Kd.own_blk (Kd.R_ne HO246.out BK260.out (by decide))) | (dsimp only; exact Kd.own_blk (Kd.R_ne HO246.out BK260.out (by decide)))) _).trans (((cell_far (p := ⟨gb260, _, none⟩) (by first | exact Kd.own_blk (Kd.R_ne HO246.out BK260.out (by decide)) | (rw [add_block]; exact Kd.own_blk (Kd.R_ne HO246.out BK260.out (by decide))) | (show (Addr.add _ _).block ≠ _; rw [add_block]; exact Kd.own_blk (Kd.R_ne HO246.out BK260.out (by decide))) | (dsimp only; exact Kd.own_blk (Kd.R_ne HO246.out BK260.out (by decide)))) _).trans (((cell_far (p := ⟨gb260, _, none⟩) (by first | exact Kd.own_blk (Kd.R_ne HO246.out BK260.out (by decide)) | (rw [add_block]; exact Kd.own_blk (Kd.R_ne HO246.out BK260.out (by decide))) | (show (Addr.add _ _).block ≠ _; rw [add_block]; exact Kd.own_blk (Kd.R_ne HO246.out BK260.out (by decide))) | (dsimp only; exact Kd.own_blk (Kd.R_ne HO246.out BK260.out (by decide)))) _).trans (((cell_far (p := ⟨gb260, _, none⟩) (by first | exact Kd.own_blk (Kd.R_ne HO246.out BK260.out (by decide)) | (rw [add_block]; exact Kd.own_blk (Kd.R_ne HO246.out BK260.out (by decide))) | (show (Addr.add _ _).block ≠ _; rw [add_block]; exact Kd.own_blk (Kd.R_ne HO246.out BK260.out (by decide))) | (dsimp only; exact Kd.own_blk (Kd.R_ne HO246.out BK260.out (by decide)))) _).trans (((cell_far (p := ⟨gb260, _, none⟩) (by first | exact Kd.own_blk (Kd.R_ne HO246.out BK260.out (by decide)) | (rw [add_block]; exact Kd.own_blk (Kd.R_ne HO246.out BK260.out (by decide))) | (show (Addr.add _ _).block ≠ _; rw [add_block]; exact Kd.own_blk (Kd.R_ne HO246.out BK260.out (by decide))) | (dsimp only; exact Kd.own_blk (Kd.R_ne HO246.out BK260.out (by decide)))) _).trans (hHeld.2.2.2))))))))))⟩ (fun hHeld => ?_)
       clear hK K
       refine done_ (done_of HT_.out (by kernel_rfl)) ?_
       have hnb108 := NB243_260.out
       have hnc108 := NB260_243.out
       obtain ⟨hcz109_0, hcz109_1, hcz109_2, hcz109_3, hcz109_4, hfz109_0, hfz109_1, hfz109_2, hfz109_3, hfz109_4⟩ := bz5 BK243
       try go_wp2
       refine bodyPost_ret (results_ct rfl _ _ gb243 42 #[.int .i64 0, .int .i64 0, .int .i64 0, .int .i64 0, .slice none 0 0] (0, 0) _ rfl (bq1 BK243 NB243_260) Tryd.underlying42 rfl (by kernel_rfl)) rfl ?_
       exact ⟨_, by first | rfl | (simp [errW_none, errW_some] <;> rfl) | (simp [*, errW_none, errW_some] <;> rfl), by first | exact Kd.R_nil _ _ _ _ _ | exact Kd.N_nil _ _ _ _ _ | exact Kd.V_nil _ _ _ _ _ | exact Kd.Q_nil _ _ _ _ _ | exact Kd.S_nil _ _ _ _ _, bbw3 HB GE243 GE252 GE260⟩
     ·replace c10 := Bool.eq_false_iff.mpr c10
      subst c10
      replace H := ifF H
      simp only [Option.some.injEq, Prod.mk.injEq] at H
      obtain ⟨rfl, rfl, rfl, rfl, rfl, rfl⟩ := H
      go_enter Tryd.func15, Tryd.ntmps15
      try go_wp2_with (first | ((with_reducible refine gd 2 rfl ?_); refine bx #[.int .i64 0, .int .i64 0, .int .i64 0, .int .i64 0, .slice none 0 0] 42 ?_; intro gb243 hg w110 BK243 hb; have GE243 := ngw0 hg HB; replace HB := bS0 HB hb; clear hb hg) | ((with_reducible refine gate_callee (f := 38) rfl ?_); refine gl 11 Tryd.func38 #[.string a0, .string (⟨#[32]⟩ : ByteArray)] ?_; (with_reducible refine (strings_Split.calls _ _ _ _ (texts.tabB HTAB.out (by repeat (first | (with_reducible first | exact HB.out | exact Below.refl _ _ | apply below_alloc | apply pw_below_drewN | apply below_drew1 | refine below_set ?_ GE243.out | refine below_set ?_ GE252.out | refine below_set ?_ GE260.out) | exact HB.out))) A2.out).mono ?_); rintro e w111 ⟨v245, rfl, ho0, hb⟩; refine ⟨_, rfl, ?_⟩; have HO246 := asd (Kd.R_lower ho0 (bsz1 HB GE243)); replace BK243 := bB BK243 hb; replace HB := bS1 HB GE243 hb; (try clear hb); (try clear hb2); (try clear hk); (try clear hi); (try clear ho0); obtain ⟨Ao112, co112, eo112⟩ := Kd.R_slice HO246.out; subst eo112; have p247 : 0 ≤ (1 : Int) := (by omega); have q247 : 1 < (t244.length : Int) := od; obtain ⟨ad247, e247, hx247_0⟩ := Kd.at_string (Kd.R_reads' HO246.out).2.2 1 p247 q247; cases e247; (try simp only [show (1 : Int).toNat = 1 from rfl, Nat.reduceMul, Nat.reduceEqDiff, Go.Addr.add, ↓reduceIte] at hx247_0); have qi247 : (1 < t244.length) = True := eq_true (by omega); (try rw [show ((1 : Int)).toNat = 1 from rfl] at hx247_0); replace p247 := eq_true p247; replace q247 := eq_true q247) | ((with_reducible refine gate_callee (f := 39) rfl ?_); refine gl 20 Tryd.func39 #[.string (rdOf ByteArray.empty t244 1)] ?_; (with_reducible refine (impl_ReadLattice.calls _ _ _ _ _ _ _ (texts.tabB HTAB.out (by repeat (first | (with_reducible first | exact HB.out | exact Below.refl _ _ | apply below_alloc | apply pw_below_drewN | apply below_drew1 | refine below_set ?_ GE243.out | refine below_set ?_ GE252.out | refine below_set ?_ GE260.out) | exact HB.out))) A5.out).mono ?_); rintro e w113 ⟨rfl, hb⟩; refine ⟨_, rfl, ?_⟩; replace HO246 := asd (Kd.R_below (kr HO246) hb); replace BK243 := bB BK243 hb; replace HB := bS1 HB GE243 hb; (try clear hb)) | ((with_reducible refine gd 5 rfl ?_); refine bx #[.int .i64 0, .int .i64 0, .int .i64 0] 40 ?_; intro gb252 hg w114 BK252 hb; replace HO246 := asd (Kd.R_below (kr HO246) hb); have GE252 := ngw1 hg HB GE243; replace HB := bS1 HB GE243 hb; have NB243_252 := nlt hg BK243; have NB252_243 := nsy (nlt hg BK243); replace BK243 := bB BK243 hb; clear hb hg; have hnb115 := NB252_243.out; have hnc115 := NB243_252.out; obtain ⟨hcz116_0, hcz116_1, hcz116_2, hfz116_0, hfz116_1, hfz116_2⟩ := bz3 BK252; have p253 : 0 ≤ (2 : Int) := (by omega); have q253 : 2 < (t244.length : Int) := od; obtain ⟨ad253, e253, hx253_0⟩ := Kd.at_string (Kd.R_reads' HO246.out).2.2 2 p253 q253; obtain rfl : ad247 = ad253 := (by injection e253); (try simp only [show (2 : Int).toNat = 2 from rfl, Nat.reduceMul, Nat.reduceEqDiff, Go.Addr.add, ↓reduceIte] at hx253_0); have qi253 : (2 < t244.length) = True := eq_true (by omega); (try rw [show ((2 : Int)).toNat = 2 from rfl] at hx253_0); have hn253_0 : ad247.block ≠ gb252 := Kd.own_blk (Kd.R_ne HO246.out BK252.out (by decide)); have hn253_1 : ad247.block ≠ gb252 := Kd.own_blk (Kd.R_ne HO246.out BK252.out (by decide)); have hn253_2 : ad247.block ≠ gb252 := Kd.own_blk (Kd.R_ne HO246.out BK252.out (by decide)); replace hx253_0 := cw3 (.int .i64 t248) (.int .i64 t249) (.int .i64 t250) hn253_0 hx253_0; clear hn253_0; clear hn253_1; clear hn253_2; replace p253 := eq_true p253; replace q253 := eq_true q253) | ((with_reducible refine gate_callee (f := 40) rfl ?_); refine gl 27 Tryd.func40 #[.string (rdOf ByteArray.empty t244 2)] ?_; (with_reducible refine (impl_readDigits.calls _ _ _ _ _ A7.out).mono ?_); rintro e w117 ⟨v256, rfl, ho0, hb⟩; refine ⟨_, rfl, ?_⟩; replace HO246 := asd (Kd.R_below (by (with_reducible repeat (first | apply Kd.R_alloc | apply Kd.R_drewN | apply Kd.R_drew)); exact (Kd.R_mono (rw3 (Kd.R_types HO246.out BK252.out (by decide))) (fun _ h_ => h_.1))) hb); have HO257 := asd (Kd.R_lower ho0 (bsz2 HB GE243 GE252)); replace BK243 := asd (blk_below (g := gb243) (o := .cells #[.int .i64 0, .int .i64 0, .int .i64 0, .int .i64 0, .slice none 0 0] 42 (0, 0)) (bq1 BK243 NB243_252) hb); replace BK252 := asd (blk_below (g := gb252) (o := .cells #[.int .i64 t248, .int .i64 t249, .int .i64 t250] 40 (0, 0)) (bq0 BK252) hb); replace HB := bS2 HB GE243 GE252 hb; (try clear hb); (try clear hb2); (try clear hk); (try clear hi); (try clear ho0)))
      replace HO246 := asd (Kd.R_drew HO246.out)
      replace HO257 := asd (Kd.R_drew HO257.out)
      replace BK243 := asd (blk_drew BK243.out)
      replace BK252 := asd (blk_drew BK252.out)
      replace HB := asd (below_drew1 HB.out)
      have p258 : 0 ≤ (0 : Int) := (by omega)
      have q258 : 0 < (t244.length : Int) := od
      obtain ⟨ad258, e258, hx258_0⟩ := Kd.at_string (Kd.R_reads' HO246.out).2.2 0 p258 q258
      obtain rfl : ad247 = ad258 := (by injection e258)
      have qi258 : (0 < t244.length) = True := eq_true (by omega)
      (try rw [show ((0 : Int)).toNat = 0 from rfl] at hx258_0)
      (try rw [Addr.add_zero'] at hx258_0)
      replace p258 := eq_true p258
      replace q258 := eq_true q258
      refine sh 9 (cb3 BK252 (e1 hx258_0)) (fun hHeld => ?_); refine with_tabW impl_ReadPattern.tab6 impl_ReadPattern.bits6 (fun HT_ HW_ => ?_)
      generalize w117.drew = w118 at HO246 HO257 BK243 BK252 HB hx258_0 hHeld ⊢
      refine pu 0 (some 30) (bT 9 1) HT_ ?_
      refine pu 1 (some 31) (bT 9 2) HT_ ?_
      refine pu 5 (some 35) (bs 9 35) HT_ ?_
      refine ta 2 (some 32) (bs 9 39) HT_ HW_ hHeld ?_
      refine ta 4 (some 34) (bs 9 55) HT_ HW_ hHeld ?_
      obtain ⟨Ao120, co120, eo120⟩ := Kd.R_slice HO257.out
      (first | subst eo120 | (injection eo120 with f1_ f2_ f3_; have f4_ := f1_.symm; have f5_ := f3_.symm; clear f1_ f2_ f3_; subst f4_; subst f5_))
      refine join_ (σ := Nat) 1 (bT 9 8) (fun s_ => [(33, .int .i64 t259), (9, .pointer (some ⟨s_, 0, none⟩)), (36, .agg #[.int .i64 t259, .int .i64 t248, .int .i64 t249, .int .i64 t250, .slice Ao120 t254.length co120])]) (fun s_ w' => (w'.cell? ⟨gb252, 0, none⟩ = some (.int .i64 t248) ∧ w'.cell? ⟨gb252, 1, none⟩ = some (.int .i64 t249) ∧ w'.cell? ⟨gb252, 2, none⟩ = some (.int .i64 t250) ∧ w'.cell? ad247 = some (.string (rdOf ByteArray.empty t244 0))) ∧ (Kd.R Kd.string 9 w' w.heap.size (fun _ => True) (.slice (some ad247) t244.length co112) t244) ∧ (Kd.R (Kd.int .i64) 2 w' w.heap.size (fun _ => True) (.slice Ao120 t254.length co120) t254) ∧ (w'.heap[gb243]? = some (.cells #[.int .i64 0, .int .i64 0, .int .i64 0, .int .i64 0, .slice none 0 0] 42 (0, 0))) ∧ (w'.heap[gb252]? = some (.cells #[.int .i64 t248, .int .i64 t249, .int .i64 t250] 40 (0, 0))) ∧ (w'.heap[s_]? = some (.cells #[.int .i64 0, .int .i64 0, .int .i64 0, .int .i64 0, .slice none 0 0] 42 (0, 0))) ∧ (w.heap.size ≤ s_) ∧ (w.heap.size ≤ s_) ∧ (gb243 ≠ s_) ∧ (s_ ≠ gb243) ∧ (gb252 ≠ s_) ∧ (s_ ≠ gb252) ∧ (Below w.heap.size w w')) ?_ ?_
      rotate_left
      ·intro hCont
       refine two_ (i := 3) (j := 7) (Ni := some 33) (Nj := some 9) (bT 9 6) (bs 9 183) rfl rfl rfl rfl (two_of HT_.out (by kernel_rfl)) (by decide) (by decide) (fun K hK => ?_) (fun K hK => ?_)
       ·skip
        refine gs Tryd.func41 #[.string (⟨#[83, 72]⟩ : ByteArray), .string (rdOf ByteArray.empty t244 0)] ?_
        with_reducible refine (strings_Index.calls _ _ _ _ (texts.tabB HTAB.out (by repeat (first | (with_reducible first | exact HB.out | exact Below.refl _ _ | apply below_alloc | apply pw_below_drewN | apply below_drew1 | refine below_set ?_ GE243.out | refine below_set ?_ GE252.out | refine below_set ?_ GE260.out) | exact HB.out))) A9.out).mono ?_
        rintro e w119 ⟨rfl, hb⟩
        have HS3_ := (hb.cell (World.block_lt_of_cell? _ _ (hHeld.2.2.2))).trans (hHeld.2.2.2)
        refine ⟨_, rfl, ?_⟩
        replace HO246 := asd (Kd.R_below (kr HO246) hb)
        replace HO257 := asd (Kd.R_below (kr HO257) hb)
        replace BK243 := bB BK243 hb
        replace BK252 := bB BK252 hb
        replace HB := bS2 HB GE243 GE252 hb
        (try clear hb)
        (try clear hb2)
        (try clear hk)
        (try clear hi)
        refine hK.out _ _ ⟨bcl BK252 0, bcl BK252 1, bcl BK252 2, HS3_⟩ (fun hHeld => ?_)
        clear hK K
        refine norm_ (a' := ?_) ?_ ?_
        rotate_left
        ·show Act.put _ (some 33) _ = _
         simp only [Act.put, sA, sB, sC, i64_w, i32_w]
         rfl
        refine pu 6 (some 36) (bT 9 7) HT_ ?_
        refine ro 7 (some 9) (bT 9 8) HT_ (fun K hK => ?_)
        refine box_step ?hg (N := 9) ?hd (cs := #[.int .i64 0, .int .i64 0, .int .i64 0, .int .i64 0, .slice none 0 0]) (t := 42) ?hr ?_; (case hd => rfl); (case hg => rfl); (case hr => first | (go_simp; done) | (go_simp; rfl))
        intro gb260 hg w121 hbox hb
        have HS3_ := (hb.cell (World.block_lt_of_cell? _ _ (hHeld.2.2.2))).trans (hHeld.2.2.2)
        replace HO246 := asd (Kd.R_below (kr HO246) hb)
        replace HO257 := asd (Kd.R_below (kr HO257) hb)
        have BK260 := asd (hbox)
        have GW260 := ngw2 hg HB GE243 GE252
        have GE260 := ngw2 hg HB GE243 GE252
        replace HB := bS2 HB GE243 GE252 hb
        have NB243_260 := nlt hg BK243
        have NB260_243 := nsy (nlt hg BK243)
        replace BK243 := bB BK243 hb
        have NB252_260 := nlt hg BK252
        have NB260_252 := nsy (nlt hg BK252)
        replace BK252 := bB BK252 hb
        clear hb hbox hg
        refine hK.out _ _ ⟨bcl BK252 0, bcl BK252 1, bcl BK252 2, HS3_⟩ (fun hHeld => ?_)
        clear hK K
        refine norm_ (a' := ?_) ?_ ?_
        rotate_left
        ·show Act.put _ (some 9) _ = _
         simp only [Act.put, sA, sB, sC, i64_w, i32_w]
         rfl
        exact norm_ (by simp only [putAll, Act.put, sA, sB, sC]) (hCont (gb260) _ ⟨hHeld, (kr HO246), (kr HO257), (bkp BK243), (bkp BK252), (bkp BK260), GW260.out, GE260.out, NB243_260.out, NB260_243.out, NB252_260.out, NB260_252.out, (bbw3 HB GE243 GE252 GE260)⟩)
       ·skip
        refine box_step ?hg (N := 9) ?hd (cs := #[.int .i64 0, .int .i64 0, .int .i64 0, .int .i64 0, .slice none 0 0]) (t := 42) ?hr ?_; (case hd => rfl); (case hg => rfl); (case hr => first | (go_simp; done) | (go_simp; rfl))
        intro gb260 hg w119 hbox hb
        have HS3_ := (hb.cell (World.block_lt_of_cell? _ _ (hHeld.2.2.2))).trans (hHeld.2.2.2)
        replace HO246 := asd (Kd.R_below (kr HO246) hb)
        replace HO257 := asd (Kd.R_below (kr HO257) hb)
        have BK260 := asd (hbox)
        have GW260 := ngw2 hg HB GE243 GE252
        have GE260 := ngw2 hg HB GE243 GE252
        replace HB := bS2 HB GE243 GE252 hb
        have NB243_260 := nlt hg BK243
        have NB260_243 := nsy (nlt hg BK243)
        replace BK243 := bB BK243 hb
        have NB252_260 := nlt hg BK252
        have NB260_252 := nsy (nlt hg BK252)
        replace BK252 := bB BK252 hb
        clear hb hbox hg
        refine hK.out _ _ ⟨bcl BK252 0, bcl BK252 1, bcl BK252 2, HS3_⟩ (fun hHeld => ?_)
        clear hK K
        refine norm_ (a' := ?_) ?_ ?_
        rotate_left
        ·show Act.put _ (some 9) _ = _
         simp only [Act.put, sA, sB, sC, i64_w, i32_w]
         rfl
        refine ro 3 (some 33) (bs 9 191) HT_ (fun K hK => ?_)
        refine gs Tryd.func41 #[.string (⟨#[83, 72]⟩ : ByteArray), .string (rdOf ByteArray.empty t244 0)] ?_
        with_reducible refine (strings_Index.calls _ _ _ _ (texts.tabB HTAB.out (by repeat (first | (with_reducible first | exact HB.out | exact Below.refl _ _ | apply below_alloc | apply pw_below_drewN | apply below_drew1 | refine below_set ?_ GE243.out | refine below_set ?_ GE252.out | refine below_set ?_ GE260.out) | exact HB.out))) A9.out).mono ?_
        rintro e w120 ⟨rfl, hb⟩
        have HS3_ := (hb.cell (World.block_lt_of_cell? _ _ (hHeld.2.2.2))).trans (hHeld.2.2.2)
        refine ⟨_, rfl, ?_⟩
        replace HO246 := asd (Kd.R_below (kr HO246) hb)
        replace HO257 := asd (Kd.R_below (kr HO257) hb)
        replace BK243 := bB BK243 hb
        replace BK252 := bB BK252 hb
        replace BK260 := bB BK260 hb
        replace HB := bS3 HB GE243 GE252 GE260 hb
        (try clear hb)
        (try clear hb2)
        (try clear hk)
        (try clear hi)
        refine hK.out _ _ ⟨bcl BK252 0, bcl BK252 1, bcl BK252 2, HS3_⟩ (fun hHeld => ?_)
        clear hK K
        refine norm_ (a' := ?_) ?_ ?_
        rotate_left
        ·show Act.put _ (some 33) _ = _
         simp only [Act.put, sA, sB, sC, i64_w, i32_w]
         rfl
        refine pu 6 (some 36) (bT 9 8) HT_ ?_
        exact norm_ (by simp only [putAll, Act.put, sA, sB, sC]) (hCont (gb260) _ ⟨hHeld, (kr HO246), (kr HO257), (bkp BK243), (bkp BK252), (bkp BK260), GW260.out, GE260.out, NB243_260.out, NB260_243.out, NB252_260.out, NB260_252.out, (bbw3 HB GE243 GE252 GE260)⟩)
      rintro gb260 w122 ⟨hS_, h0_, h1_, h2_, h3_, h4_, h5_, h6_, h7_, h8_, h9_, h10_, h11_⟩
      have n0_ : Aside0 (Kd.R Kd.string 9 w122 w.heap.size (fun _ => True) (.slice (some ad247) t244.length co112) t244) := ⟨h0_⟩
      have n1_ : Aside0 (Kd.R (Kd.int .i64) 2 w122 w.heap.size (fun _ => True) (.slice Ao120 t254.length co120) t254) := ⟨h1_⟩
      have n2_ : Aside0 (w122.heap[gb243]? = some (.cells #[.int .i64 0, .int .i64 0, .int .i64 0, .int .i64 0, .slice none 0 0] 42 (0, 0))) := ⟨h2_⟩
      have n3_ : Aside0 (w122.heap[gb252]? = some (.cells #[.int .i64 t248, .int .i64 t249, .int .i64 t250] 40 (0, 0))) := ⟨h3_⟩
      have n4_ : Aside0 (w122.heap[gb260]? = some (.cells #[.int .i64 0, .int .i64 0, .int .i64 0, .int .i64 0, .slice none 0 0] 42 (0, 0))) := ⟨h4_⟩
      have n5_ : Aside0 (w.heap.size ≤ gb260) := ⟨h5_⟩
      have n6_ : Aside0 (w.heap.size ≤ gb260) := ⟨h6_⟩
      have n7_ : Aside0 (gb243 ≠ gb260) := ⟨h7_⟩
      have n8_ : Aside0 (gb260 ≠ gb243) := ⟨h8_⟩
      have n9_ : Aside0 (gb252 ≠ gb260) := ⟨h9_⟩
      have n10_ : Aside0 (gb260 ≠ gb252) := ⟨h10_⟩
      have n11_ : Aside0 (Below w.heap.size w w122) := ⟨h11_⟩
      clear HO246
      clear HO257
      clear BK243
      clear BK252
      clear HB
      clear h0_ h1_ h2_ h3_ h4_ h5_ h6_ h7_ h8_ h9_ h10_ h11_
      have HO246 := n0_
      have HO257 := n1_
      have BK243 := n2_
      have BK252 := n3_
      have BK260 := n4_
      have GW260 := n5_
      have GE260 := n6_
      have NB243_260 := n7_
      have NB260_243 := n8_
      have NB252_260 := n9_
      have NB260_252 := n10_
      have HB := n11_
      clear n0_ n1_ n2_ n3_ n4_ n5_ n6_ n7_ n8_ n9_ n10_ n11_
      have hHeld : w122.cell? ⟨gb252, 0, none⟩ = some (.int .i64 t248) ∧ w122.cell? ⟨gb252, 1, none⟩ = some (.int .i64 t249) ∧ w122.cell? ⟨gb252, 2, none⟩ = some (.int .i64 t250) ∧ w122.cell? ad247 = some (.string (rdOf ByteArray.empty t244 0)) := hS_
      refine norm_ (a' := ?_) ?_ ?_
      rotate_left
      ·simp only [putAll, Act.put, sA, sB, sC]
       rfl
      refine ro 8 (none) (bT 9 9) HT_ (fun K hK => ?_)
      have hs123 : w122.cell? ⟨gb260, 0, none⟩ = some (.int .i64 0) := bcl BK260 0
      have hfs123 := blk_frozen BK260.out 0
      have hns123_0 := NB243_260.out
      have hns123_1 := NB252_260.out
      have hms123_0 := NB260_243.out
      have hms123_1 := NB260_252.out
      have hs124 : w122.cell? ⟨gb260, 1, none⟩ = some (.int .i64 0) := bcl BK260 1
      have hfs124 := blk_frozen BK260.out 1
      have hns124_0 := NB243_260.out
      have hns124_1 := NB252_260.out
      have hms124_0 := NB260_243.out
      have hms124_1 := NB260_252.out
      have hs125 : w122.cell? ⟨gb260, 2, none⟩ = some (.int .i64 0) := bcl BK260 2
      have hfs125 := blk_frozen BK260.out 2
      have hns125_0 := NB243_260.out
      have hns125_1 := NB252_260.out
      have hms125_0 := NB260_243.out
      have hms125_1 := NB260_252.out
      have hs126 : w122.cell? ⟨gb260, 3, none⟩ = some (.int .i64 0) := bcl BK260 3
      have hfs126 := blk_frozen BK260.out 3
      have hns126_0 := NB243_260.out
      have hns126_1 := NB252_260.out
      have hms126_0 := NB260_243.out
      have hms126_1 := NB260_252.out
      have hs127 : w122.cell? ⟨gb260, 4, none⟩ = some (.slice none 0 0) := bcl BK260 4
      have hfs127 := blk_frozen BK260.out 4
      have hns127_0 := NB243_260.out
      have hns127_1 := NB252_260.out
      have hms127_0 := NB260_243.out
      have hms127_1 := NB260_252.out
      refine skip_ (w1 := ?_) (by rfl) rfl ?_ ?_
      rotate_left
      ·go_simp
       rfl
      refine hK.out _ _ ⟨(cf NB252_260 ((cf NB252_260 ((cf NB252_260 ((cf NB252_260 ((cf NB252_260 (hHeld.1)))))))))), (cf NB252_260 ((cf NB252_260 ((cf NB252_260 ((cf NB252_260 ((cf NB252_260 (hHeld.2.1)))))))))), (cf NB252_260 ((cf NB252_260 ((cf NB252_260 ((cf NB252_260 ((cf NB252_260 (hHeld.2.2.1)))))))))), ((cell_far (p := ⟨gb260, _, none⟩) (by first | exact Kd.own_blk (Kd.R_ne HO246.out BK260.out (by decide)) | (rw [add_block]; exact Kd.own_blk (Kd.R_ne HO246.out BK260.out (by decide))) | (show (Addr.add _ _).block ≠ _; rw [add_block]; exact Kd.own_blk (Kd.R_ne HO246.out BK260.out (by decide))) | (dsimp only; exact Kd.own_blk (Kd.R_ne HO246.out BK260.out (by decide)))) _).trans (((cell_far (p := ⟨gb260, _, none⟩) (by first | exact Kd.own_blk (Kd.R_ne HO246.out BK260.out (by decide)) | (rw [add_block]; exact Kd.own_blk (Kd.R_ne HO246.out BK260.out (by decide))) | (show (Addr.add _ _).block ≠ _; rw [add_block]; exact Kd.own_blk (Kd.R_ne HO246.out BK260.out (by decide))) | (dsimp only; exact Kd.own_blk (Kd.R_ne HO246.out BK260.out (by decide)))) _).trans (((cell_far (p := ⟨gb260, _, none⟩) (by first | exact Kd.own_blk (Kd.R_ne HO246.out BK260.out (by decide)) | (rw [add_block]; exact Kd.own_blk (Kd.R_ne HO246.out BK260.out (by decide))) | (show (Addr.add _ _).block ≠ _; rw [add_block]; exact Kd.own_blk (Kd.R_ne HO246.out BK260.out (by decide))) | (dsimp only; exact Kd.own_blk (Kd.R_ne HO246.out BK260.out (by decide)))) _).trans (((cell_far (p := ⟨gb260, _, none⟩) (by first | exact Kd.own_blk (Kd.R_ne HO246.out BK260.out (by decide)) | (rw [add_block]; exact Kd.own_blk (Kd.R_ne HO246.out BK260.out (by decide))) | (show (Addr.add _ _).block ≠ _; rw [add_block]; exact Kd.own_blk (Kd.R_ne HO246.out BK260.out (by decide))) | (dsimp only; exact Kd.own_blk (Kd.R_ne HO246.out BK260.out (by decide)))) _).trans (((cell_far (p := ⟨gb260, _, none⟩) (by first | exact Kd.own_blk (Kd.R_ne HO246.out BK260.out (by decide)) | (rw [add_block]; exact Kd.own_blk (Kd.R_ne HO246.out BK260.out (by decide))) | (show (Addr.add _ _).block ≠ _; rw [add_block]; exact Kd.own_blk (Kd.R_ne HO246.out BK260.out (by decide))) | (dsimp only; exact Kd.own_blk (Kd.R_ne HO246.out BK260.out (by decide)))) _).trans (hHeld.2.2.2))))))))))⟩ (fun hHeld => ?_)
      clear hK K
      refine done_ (done_of HT_.out (by kernel_rfl)) ?_
      have hnb128 := NB243_260.out
      have hnc128 := NB260_243.out
      obtain ⟨hcz129_0, hcz129_1, hcz129_2, hcz129_3, hcz129_4, hfz129_0, hfz129_1, hfz129_2, hfz129_3, hfz129_4⟩ := bz5 BK243
      try go_wp2
      refine bodyPost_ret (results_ct rfl _ _ gb243 42 #[.int .i64 0, .int .i64 0, .int .i64 0, .int .i64 0, .slice none 0 0] (0, 0) _ rfl (bq1 BK243 NB243_260) Tryd.underlying42 rfl (by kernel_rfl)) rfl ?_
      exact ⟨_, by first | rfl | (simp [errW_none, errW_some] <;> rfl) | (simp [*, errW_none, errW_some] <;> rfl), by first | exact Kd.R_nil _ _ _ _ _ | exact Kd.N_nil _ _ _ _ _ | exact Kd.V_nil _ _ _ _ _ | exact Kd.Q_nil _ _ _ _ _ | exact Kd.S_nil _ _ _ _ _, bbw3 HB GE243 GE252 GE260⟩
    ·rw [if_neg c8] at H
     exact absurd H (by simp)
   ·rw [if_neg c6] at H
    exact absurd H (by simp)
  ·rw [if_neg c4] at H
   exact absurd H (by simp)
 ·rw [if_neg c3] at H
  have c3b0 : ((t244.length : Int) == 3) = false := beq_eq_false_iff_ne.mpr c3
  have c3b1 : ((t244.length : Int) != 3) = true := bne_iff_ne.mpr c3
  simp only [Option.some.injEq, Prod.mk.injEq] at H
  obtain ⟨rfl, rfl, rfl, rfl, rfl, rfl⟩ := H
  go_enter Tryd.func15, Tryd.ntmps15
  go_wp2_with (first | ((with_reducible refine gd 2 rfl ?_); refine bx #[.int .i64 0, .int .i64 0, .int .i64 0, .int .i64 0, .slice none 0 0] 42 ?_; intro gb243 hg w130 BK243 hb; have GE243 := ngw0 hg HB; replace HB := bS0 HB hb; clear hb hg) | ((with_reducible refine gate_callee (f := 38) rfl ?_); refine gl 11 Tryd.func38 #[.string a0, .string (⟨#[32]⟩ : ByteArray)] ?_; (with_reducible refine (strings_Split.calls _ _ _ _ (texts.tabB HTAB.out (by repeat (first | (with_reducible first | exact HB.out | exact Below.refl _ _ | apply below_alloc | apply pw_below_drewN | apply below_drew1 | refine below_set ?_ GE243.out | refine below_set ?_ GE252.out | refine below_set ?_ GE260.out) | exact HB.out))) A2.out).mono ?_); rintro e w131 ⟨v245, rfl, ho0, hb⟩; refine ⟨_, rfl, ?_⟩; have HO246 := asd (Kd.R_lower ho0 (bsz1 HB GE243)); replace BK243 := bB BK243 hb; replace HB := bS1 HB GE243 hb; (try clear hb); (try clear hb2); (try clear hk); (try clear hi); (try clear ho0); obtain ⟨Ao132, co132, eo132⟩ := Kd.R_slice HO246.out; subst eo132; obtain ⟨hcz133_0, hcz133_1, hcz133_2, hcz133_3, hcz133_4, hfz133_0, hfz133_1, hfz133_2, hfz133_3, hfz133_4⟩ := bz5 BK243))
  refine bodyPost_ret (results_ct rfl _ _ gb243 42 #[.int .i64 0, .int .i64 0, .int .i64 0, .int .i64 0, .slice none 0 0] (0, 0) _ rfl (bq0 BK243) Tryd.underlying42 rfl (by kernel_rfl)) rfl ?_
  exact ⟨_, by first | rfl | (simp [errW_none, errW_some] <;> rfl) | (simp [*, errW_none, errW_some] <;> rfl), by first | exact Kd.R_nil _ _ _ _ _ | exact Kd.N_nil _ _ _ _ _ | exact Kd.V_nil _ _ _ _ _ | exact Kd.Q_nil _ _ _ _ _ | exact Kd.S_nil _ _ _ _ _, bbw1 HB GE243⟩
end Go.Proofs.YtfhbhjlgepjlfaaDoor.PR
