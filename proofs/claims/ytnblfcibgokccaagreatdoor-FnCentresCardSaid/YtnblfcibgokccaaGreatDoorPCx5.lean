/- Walks written by program: each Go function that the law reaches comes to the plain function beside it. -/
import Derived.Test.YtnblfcibgokccaaGreatDoorPCx0
import Derived.Test.YtnblfcibgokccaaGreatDoorPCx4
namespace Go.Proofs.YtnblfcibgokccaaGreatDoor.PC
open Go.RowKit Go.Proofs.YtnblfcibgokccaaGreatDoorW.PrintWords Go.Proofs.YtnblfcibgokccaaGreatDoorW.PrintLast Go.Proofs.YtnblfcibgokccaaGreatDoorW.PrintMore
attribute [local go_sem] max2_int min2_int max_two min_two max_three min_three max_four min_four   -- for this text's walks alone
set_option linter.unusedVariables false
set_option linter.unusedSimpArgs false

/-! ### spec_l02Draw: function 50 -/
def spec_l02Draw.l0 : Nat → Int → List Int → Int → Int → Int → Int → Int → Int → Option (Int × Int × Int × Int × Int × Int)
 | 0, _, _, _, _, _, _, _, _ => none
 | k + 1, x4, x1000, x1001, x1002, x176000, x176001, x176002, x176003 => if x4 > 0 then ((some (([(⟨1, 1, 0, 1⟩ : S25), (⟨1, 0, 1, 1⟩ : S25), (⟨1, (-2), 0, 1⟩ : S25), (⟨0, 1, 1, 0⟩ : S25), (⟨(-1), 0, 0, 1⟩ : S25)] : List (S25)) : List (S25))).bind fun y179 => ((spec_l01Next.f x1000 x1001 x1002 5).bind fun bt182 => (if 0 ≤ bt182.1 then (if bt182.1 < (y179.length : Int) then ((spec_l02Multiply.f x176000 x176001 x176002 x176003 ((rd_T25 y179 bt182.1).f0) ((rd_T25 y179 bt182.1).f1) ((rd_T25 y179 bt182.1).f2) ((rd_T25 y179 bt182.1).f3)).bind fun bt186 => (spec_l02Draw.l0 k (wrap64 (x4 - 1)) x1000 bt182.2.1 bt182.2.2 bt186.1 bt186.2.1 bt186.2.2.1 bt186.2.2.2)) else (none)) else (none)))) else ((spec_l01Next.f x1000 x1001 x1002 20).bind fun bt190 => (if bt190.1 = 0 then (some (wrap64 (x176000 + 1), x176001, x176002, x176003, bt190.2.1, bt190.2.2)) else (if bt190.1 = 1 then ((spec_l01Pick.f x1000 bt190.2.1 bt190.2.2 (([999, 1000, 1001] : List Int))).bind fun bt196 => (some (1, bt196.1, 0, 1, bt196.2.1, bt196.2.2))) else (some (x176000, x176001, x176002, x176003, bt190.2.1, bt190.2.2)))))
def spec_l02Draw.f (k : Nat) (s0_0 : List Int) (s0_1 : Int) (s0_2 : Int) : Option (Int × Int × Int × Int × Int × Int) := (spec_l01Next.f s0_0 s0_1 s0_2 3).bind fun bt162 => (if bt162.1 > 0 then ((spec_l02DrawFinite.f k s0_0 bt162.2.1 bt162.2.2).bind fun bt165 => (some (bt165.1, bt165.2.1, bt165.2.2.1, bt165.2.2.2.1, bt165.2.2.2.2.1, bt165.2.2.2.2.2))) else ((spec_l02Unit.f).bind fun bt171 => ((spec_l01Next.f s0_0 bt162.2.1 bt162.2.2 5).bind fun bt176 => (spec_l02Draw.l0 k bt176.1 s0_0 bt176.2.1 bt176.2.2 bt171.1 bt171.2.1 bt171.2.2.1 bt171.2.2.2))))
def spec_l02Draw.T7 : Bool × List (List Nat × List Nat) := (true, [([], []), ([], []), ([], []), ([], []), ([], []), ([], []), ([1, 2, 3, 4, 5], [1, 2, 3, 4, 5]), ([], []), ([7], [7]), ([6, 8], [6, 8]), ([9], [9]), ([0, 10, 8], [0, 10]), ([11, 11, 0, 1, 2, 3, 4, 5, 6, 7, 8, 9, 10, 11], [11])])
def spec_l02Draw.B7 : List Nat := [0, 0, 0, 0, 0, 0, 62, 0, 128, 510, 1022, 2047, 4095]
theorem spec_l02Draw.tab7 : rtab .any (opsOf Tryz.f50 7) = spec_l02Draw.T7 := by kernel_rfl
theorem spec_l02Draw.bits7 : waitsOk spec_l02Draw.T7.2 spec_l02Draw.B7 = true := by kernel_rfl
set_option maxHeartbeats 8000000 in
set_option maxRecDepth 100000 in
theorem spec_l02Draw.calls (k : Nat) (g : Nat) (s0_0 : List Int) (s0_1 : Int) (s0_2 : Int) (r1 : Int) (r2 : Int) (r3 : Int) (r4 : Int) (r5 : Int) (r6 : Int) (w0 w : World) (hI : IsS106 w0 w g s0_0 s0_1 s0_2) (hB : Below w0.heap.size w0 w) (h : spec_l02Draw.f k s0_0 s0_1 s0_2 = some (r1, r2, r3, r4, r5, r6)) :
  Calls Tryz.prog 50 #[.pointer (some ⟨g, 0, none⟩)] w fun e w' => e = .returned (.agg #[.int .i64 r1, .int .i64 r2, .int .i64 r3, .int .i64 r4]) ∧ IsS106 w0 w' g s0_0 r5 r6 ∧ Below w0.heap.size w0 w' ∧ KeepBut w w' g none := by
 have hu25 := Tryz.underlying25
 have HI0 := Aside0.mk hI
 have HK := asd (KeepBut.refl w g none)
 have HL := Aside0.mk hB.size
 clear hI
 have HW0 := Aside0.mk hB.size
 have HB := Aside0.mk hB
 clear hB
 have H : ((spec_l01Next.f s0_0 s0_1 s0_2 3).bind fun bt162 => (if bt162.1 > 0 then ((spec_l02DrawFinite.f k s0_0 bt162.2.1 bt162.2.2).bind fun bt165 => (some (bt165.1, bt165.2.1, bt165.2.2.1, bt165.2.2.2.1, bt165.2.2.2.2.1, bt165.2.2.2.2.2))) else ((spec_l02Unit.f).bind fun bt171 => ((spec_l01Next.f s0_0 bt162.2.1 bt162.2.2 5).bind fun bt176 => (spec_l02Draw.l0 k bt176.1 s0_0 bt176.2.1 bt176.2.2 bt171.1 bt171.2.1 bt171.2.2.1 bt171.2.2.2))))) = some (r1, r2, r3, r4, r5, r6) := h
 clear h
 obtain ⟨⟨t162, t163, t164⟩, A2, H⟩ := ob H
 try dsimp only at H
 by_cases c3 : t162 > 0
 ·rw [if_pos c3] at H
  have c3b0 : decide (0 < t162) = true := decide_eq_true c3
  clear c3
  obtain ⟨⟨t165, t166, t167, t168, t169, t170⟩, A4, H⟩ := ob H
  try dsimp only at H
  simp only [Option.some.injEq, Prod.mk.injEq] at H
  obtain ⟨rfl, rfl, rfl, rfl, rfl, rfl⟩ := H
  go_enter Tryz.func50, Tryz.ntmps50
  go_wp2_with (first | ((with_reducible refine gd 2 rfl ?_); refine bx #[.int .i64 0, .int .i64 0, .int .i64 0, .int .i64 0] 25 ?_; intro gb161 hg w5 BK161 hb; replace HB := asd (below_step (by repeat (first | (with_reducible first | exact HB.out | apply below_alloc | apply pw_below_drewN | apply below_drew1 | refine below_set ?_ (IsS106.ge HI0.out)) | exact HB.out)) hb); have GW161 := asd ((by rw [hg]; exact (keep_size (w := w) (g := g) (row := none) (by repeat (first | (with_reducible first | exact HK.out | apply KeepBut.set_ | apply keep_drewN | apply keep_drew | apply keep_alloc) | exact HK.out))) : w.heap.size ≤ gb161)); have GE161 := asd ((Nat.le_trans HW0.out (by rw [hg]; exact (keep_size (w := w) (g := g) (row := none) (by repeat (first | (with_reducible first | exact HK.out | apply KeepBut.set_ | apply keep_drewN | apply keep_drew | apply keep_alloc) | exact HK.out))) : w.heap.size ≤ gb161) : w0.heap.size ≤ gb161)); replace HK := asd (KeepBut.trans (by repeat (first | (with_reducible first | exact HK.out | apply KeepBut.set_ | apply keep_drewN | apply keep_drew | apply keep_alloc) | exact HK.out)) (KeepBut.of_below hb g none) (.inl rfl)); have NB0_161 := asd ((by rw [hg]; exact Nat.ne_of_lt (IsS106.lt (show IsS106 w0 _ g s0_0 s0_1 s0_2 from by repeat (first | (with_reducible first | exact HI0.out | apply IsS106.alloc | apply IsS106.drewN | apply IsS106.drew | apply IsS106.set_1 | apply IsS106.set_2) | exact HI0.out))) : g ≠ gb161)); have NB161_0 := asd ((by rw [hg]; exact Nat.ne_of_gt (IsS106.lt (show IsS106 w0 _ g s0_0 s0_1 s0_2 from by repeat (first | (with_reducible first | exact HI0.out | apply IsS106.alloc | apply IsS106.drewN | apply IsS106.drew | apply IsS106.set_1 | apply IsS106.set_2) | exact HI0.out))) : gb161 ≠ g)); replace HI0 := asd (IsS106.below (by repeat (first | (with_reducible first | exact HI0.out | apply IsS106.alloc | apply IsS106.drewN | apply IsS106.drew | apply IsS106.set_1 | apply IsS106.set_2) | exact HI0.out)) hb); clear hb hg) | ((with_reducible refine gate_callee (f := 45) rfl ?_); refine gl 6 Tryz.func45 #[.pointer (some ⟨g, 0, none⟩), .int .i64 3] ?_; (with_reducible refine (spec_l01Next.calls _ _ _ _ _ _ _ _ w0 _ ?side1 ?side2 A2.out).mono ?_); (case side1 => repeat (first | (with_reducible first | exact HI0.out | apply IsS106.alloc | apply IsS106.drewN | apply IsS106.drew | apply IsS106.set_1 | apply IsS106.set_2 | refine IsS106.far ?_ NB0_161.out _) | exact HI0.out)); (case side2 => repeat (first | (with_reducible first | exact HB.out | apply below_alloc | apply pw_below_drewN | apply below_drew1 | refine below_set ?_ (IsS106.ge HI0.out) | refine below_set ?_ GE161.out) | exact HB.out)); rintro e w6 ⟨rfl, hi, hb, hk⟩; refine ⟨_, rfl, ?_⟩; replace BK161 := asd (KeepBut.blk hk (g' := gb161) (o := .cells #[.int .i64 0, .int .i64 0, .int .i64 0, .int .i64 0] 25 (0, 0)) (bkp BK161) NB161_0.out (by simp)); replace HK := asd (KeepBut.trans (by repeat (first | (with_reducible first | exact HK.out | apply KeepBut.set_ | apply keep_drewN | apply keep_drew | apply keep_alloc | refine keep_far ?_ GW161.out _) | exact HK.out)) hk (.inl rfl)); replace HB := asd (hb); replace HI0 := asd (hi); (try clear hb); (try clear hb2); (try clear hk); (try clear hi)) | ((with_reducible refine gate_callee (f := 82) rfl ?_); refine gl 9 Tryz.func82 #[.pointer (some ⟨g, 0, none⟩)] ?_; (with_reducible refine (spec_l02DrawFinite.calls _ _ _ _ _ _ _ _ _ _ _ w0 _ ?side1 ?side2 A4.out).mono ?_); (case side1 => repeat (first | (with_reducible first | exact HI0.out | apply IsS106.alloc | apply IsS106.drewN | apply IsS106.drew | apply IsS106.set_1 | apply IsS106.set_2 | refine IsS106.far ?_ NB0_161.out _) | exact HI0.out)); (case side2 => repeat (first | (with_reducible first | exact HB.out | apply below_alloc | apply pw_below_drewN | apply below_drew1 | refine below_set ?_ (IsS106.ge HI0.out) | refine below_set ?_ GE161.out) | exact HB.out)); rintro e w7 ⟨rfl, hi, hb, hk⟩; refine ⟨_, rfl, ?_⟩; replace BK161 := asd (KeepBut.blk hk (g' := gb161) (o := .cells #[.int .i64 0, .int .i64 0, .int .i64 0, .int .i64 0] 25 (0, 0)) (bkp BK161) NB161_0.out (by simp)); replace HK := asd (KeepBut.trans (by repeat (first | (with_reducible first | exact HK.out | apply KeepBut.set_ | apply keep_drewN | apply keep_drew | apply keep_alloc | refine keep_far ?_ GW161.out _) | exact HK.out)) hk (.inl rfl)); replace HB := asd (hb); replace HI0 := asd (hi); (try clear hb); (try clear hb2); (try clear hk); (try clear hi); have hnb8 := NB161_0.out; have hnc8 := NB0_161.out; obtain ⟨hcz9_0, hcz9_1, hcz9_2, hcz9_3, hfz9_0, hfz9_1, hfz9_2, hfz9_3⟩ := bz4 BK161))
  refine bodyPost_ret (results_cell_row rfl _ _ gb161 25 #[.int .i64 t165, .int .i64 t166, .int .i64 t167, .int .i64 t168] (0, 0) _ rfl (bq0 BK161) Tryz.underlying25 rfl (by kernel_rfl)) rfl ?_
  exact ⟨by first | rfl | (simp [errW_none, errW_some] <;> rfl) | (simp [*, errW_none, errW_some] <;> rfl), by repeat (first | (with_reducible first | exact HI0.out | apply IsS106.alloc | apply IsS106.drewN | apply IsS106.drew | apply IsS106.set_1 | apply IsS106.set_2 | refine IsS106.far ?_ NB0_161.out _) | exact HI0.out), by repeat (first | (with_reducible first | exact HB.out | apply below_alloc | apply pw_below_drewN | apply below_drew1 | refine below_set ?_ (IsS106.ge HI0.out) | refine below_set ?_ GE161.out) | exact HB.out), by repeat (first | (with_reducible first | exact HK.out | apply KeepBut.set_ | apply keep_drewN | apply keep_drew | apply keep_alloc | refine keep_far ?_ GW161.out _) | exact HK.out)⟩
 ·rw [if_neg c3] at H
  have c3b0 : decide (0 < t162) = false := decide_eq_false c3
  clear c3
  obtain ⟨⟨t171, t172, t173, t174⟩, A10, H⟩ := ob H
  try dsimp only at H
  obtain ⟨⟨t176, t177, t178⟩, A11, H⟩ := ob H
  try dsimp only at H
  have H' := Aside0.mk H
  clear H
  go_enter Tryz.func50, Tryz.ntmps50
  go_wp2_with (first | ((with_reducible refine gd 2 rfl ?_); refine bx #[.int .i64 0, .int .i64 0, .int .i64 0, .int .i64 0] 25 ?_; intro gb161 hg w12 BK161 hb; replace HB := asd (below_step (by repeat (first | (with_reducible first | exact HB.out | apply below_alloc | apply pw_below_drewN | apply below_drew1 | refine below_set ?_ (IsS106.ge HI0.out)) | exact HB.out)) hb); have GW161 := asd ((by rw [hg]; exact (keep_size (w := w) (g := g) (row := none) (by repeat (first | (with_reducible first | exact HK.out | apply KeepBut.set_ | apply keep_drewN | apply keep_drew | apply keep_alloc) | exact HK.out))) : w.heap.size ≤ gb161)); have GE161 := asd ((Nat.le_trans HW0.out (by rw [hg]; exact (keep_size (w := w) (g := g) (row := none) (by repeat (first | (with_reducible first | exact HK.out | apply KeepBut.set_ | apply keep_drewN | apply keep_drew | apply keep_alloc) | exact HK.out))) : w.heap.size ≤ gb161) : w0.heap.size ≤ gb161)); replace HK := asd (KeepBut.trans (by repeat (first | (with_reducible first | exact HK.out | apply KeepBut.set_ | apply keep_drewN | apply keep_drew | apply keep_alloc) | exact HK.out)) (KeepBut.of_below hb g none) (.inl rfl)); have NB0_161 := asd ((by rw [hg]; exact Nat.ne_of_lt (IsS106.lt (show IsS106 w0 _ g s0_0 s0_1 s0_2 from by repeat (first | (with_reducible first | exact HI0.out | apply IsS106.alloc | apply IsS106.drewN | apply IsS106.drew | apply IsS106.set_1 | apply IsS106.set_2) | exact HI0.out))) : g ≠ gb161)); have NB161_0 := asd ((by rw [hg]; exact Nat.ne_of_gt (IsS106.lt (show IsS106 w0 _ g s0_0 s0_1 s0_2 from by repeat (first | (with_reducible first | exact HI0.out | apply IsS106.alloc | apply IsS106.drewN | apply IsS106.drew | apply IsS106.set_1 | apply IsS106.set_2) | exact HI0.out))) : gb161 ≠ g)); replace HI0 := asd (IsS106.below (by repeat (first | (with_reducible first | exact HI0.out | apply IsS106.alloc | apply IsS106.drewN | apply IsS106.drew | apply IsS106.set_1 | apply IsS106.set_2) | exact HI0.out)) hb); clear hb hg) | ((with_reducible refine gate_callee (f := 45) rfl ?_); refine gl 6 Tryz.func45 #[.pointer (some ⟨g, 0, none⟩), .int .i64 3] ?_; (with_reducible refine (spec_l01Next.calls _ _ _ _ _ _ _ _ w0 _ ?side1 ?side2 A2.out).mono ?_); (case side1 => repeat (first | (with_reducible first | exact HI0.out | apply IsS106.alloc | apply IsS106.drewN | apply IsS106.drew | apply IsS106.set_1 | apply IsS106.set_2 | refine IsS106.far ?_ NB0_161.out _) | exact HI0.out)); (case side2 => repeat (first | (with_reducible first | exact HB.out | apply below_alloc | apply pw_below_drewN | apply below_drew1 | refine below_set ?_ (IsS106.ge HI0.out) | refine below_set ?_ GE161.out) | exact HB.out)); rintro e w13 ⟨rfl, hi, hb, hk⟩; refine ⟨_, rfl, ?_⟩; replace BK161 := asd (KeepBut.blk hk (g' := gb161) (o := .cells #[.int .i64 0, .int .i64 0, .int .i64 0, .int .i64 0] 25 (0, 0)) (bkp BK161) NB161_0.out (by simp)); replace HK := asd (KeepBut.trans (by repeat (first | (with_reducible first | exact HK.out | apply KeepBut.set_ | apply keep_drewN | apply keep_drew | apply keep_alloc | refine keep_far ?_ GW161.out _) | exact HK.out)) hk (.inl rfl)); replace HB := asd (hb); replace HI0 := asd (hi); (try clear hb); (try clear hb2); (try clear hk); (try clear hi)) | ((with_reducible refine gate_callee (f := 81) rfl ?_); refine gl 10 Tryz.func81 #[] ?_; (with_reducible refine (spec_l02Unit.calls _ _ _ _ _ A10.out).mono ?_); rintro e w14 ⟨rfl, hb⟩; refine ⟨_, rfl, ?_⟩; replace BK161 := bB BK161 hb; replace HK := asd (KeepBut.trans (by repeat (first | (with_reducible first | exact HK.out | apply KeepBut.set_ | apply keep_drewN | apply keep_drew | apply keep_alloc | refine keep_far ?_ GW161.out _) | exact HK.out)) (KeepBut.of_below hb g none) (.inl rfl)); replace HB := asd (below_step (by repeat (first | (with_reducible first | exact HB.out | apply below_alloc | apply pw_below_drewN | apply below_drew1 | refine below_set ?_ (IsS106.ge HI0.out) | refine below_set ?_ GE161.out) | exact HB.out)) hb); replace HI0 := asd (IsS106.below (by repeat (first | (with_reducible first | exact HI0.out | apply IsS106.alloc | apply IsS106.drewN | apply IsS106.drew | apply IsS106.set_1 | apply IsS106.set_2 | refine IsS106.far ?_ NB0_161.out _) | exact HI0.out)) hb); (try clear hb)) | ((with_reducible refine gd 3 rfl ?_); refine bx #[.int .i64 0, .int .i64 0, .int .i64 0, .int .i64 0] 25 ?_; intro gb175 hg w15 BK175 hb; replace HB := asd (below_step (by repeat (first | (with_reducible first | exact HB.out | apply below_alloc | apply pw_below_drewN | apply below_drew1 | refine below_set ?_ (IsS106.ge HI0.out) | refine below_set ?_ GE161.out) | exact HB.out)) hb); have GW175 := asd ((by rw [hg]; exact (keep_size (w := w) (g := g) (row := none) (by repeat (first | (with_reducible first | exact HK.out | apply KeepBut.set_ | apply keep_drewN | apply keep_drew | apply keep_alloc | refine keep_far ?_ GW161.out _) | exact HK.out))) : w.heap.size ≤ gb175)); have GE175 := asd ((Nat.le_trans HW0.out (by rw [hg]; exact (keep_size (w := w) (g := g) (row := none) (by repeat (first | (with_reducible first | exact HK.out | apply KeepBut.set_ | apply keep_drewN | apply keep_drew | apply keep_alloc | refine keep_far ?_ GW161.out _) | exact HK.out))) : w.heap.size ≤ gb175) : w0.heap.size ≤ gb175)); replace HK := asd (KeepBut.trans (by repeat (first | (with_reducible first | exact HK.out | apply KeepBut.set_ | apply keep_drewN | apply keep_drew | apply keep_alloc | refine keep_far ?_ GW161.out _) | exact HK.out)) (KeepBut.of_below hb g none) (.inl rfl)); have NB161_175 := nlt hg BK161; have NB175_161 := nsy (nlt hg BK161); replace BK161 := bB BK161 hb; have NB0_175 := asd ((by rw [hg]; exact Nat.ne_of_lt (IsS106.lt (show IsS106 w0 _ g s0_0 t163 t164 from by repeat (first | (with_reducible first | exact HI0.out | apply IsS106.alloc | apply IsS106.drewN | apply IsS106.drew | apply IsS106.set_1 | apply IsS106.set_2 | refine IsS106.far ?_ NB0_161.out _) | exact HI0.out))) : g ≠ gb175)); have NB175_0 := asd ((by rw [hg]; exact Nat.ne_of_gt (IsS106.lt (show IsS106 w0 _ g s0_0 t163 t164 from by repeat (first | (with_reducible first | exact HI0.out | apply IsS106.alloc | apply IsS106.drewN | apply IsS106.drew | apply IsS106.set_1 | apply IsS106.set_2 | refine IsS106.far ?_ NB0_161.out _) | exact HI0.out))) : gb175 ≠ g)); replace HI0 := asd (IsS106.below (by repeat (first | (with_reducible first | exact HI0.out | apply IsS106.alloc | apply IsS106.drewN | apply IsS106.drew | apply IsS106.set_1 | apply IsS106.set_2 | refine IsS106.far ?_ NB0_161.out _) | exact HI0.out)) hb); clear hb hg; have hnb16 := NB175_161.out; have hnc16 := NB161_175.out; have hnb17 := NB175_0.out; have hnc17 := NB0_175.out; obtain ⟨hcz18_0, hcz18_1, hcz18_2, hcz18_3, hfz18_0, hfz18_1, hfz18_2, hfz18_3⟩ := bz4 BK175) | ((with_reducible refine gate_callee (f := 45) rfl ?_); refine gl 12 Tryz.func45 #[.pointer (some ⟨g, 0, none⟩), .int .i64 5] ?_; (with_reducible refine (spec_l01Next.calls _ _ _ _ _ _ _ _ w0 _ ?side1 ?side2 A11.out).mono ?_); (case side1 => repeat (first | (with_reducible first | exact HI0.out | apply IsS106.alloc | apply IsS106.drewN | apply IsS106.drew | apply IsS106.set_1 | apply IsS106.set_2 | refine IsS106.far ?_ NB0_161.out _ | refine IsS106.far ?_ NB0_175.out _) | exact HI0.out)); (case side2 => repeat (first | (with_reducible first | exact HB.out | apply below_alloc | apply pw_below_drewN | apply below_drew1 | refine below_set ?_ (IsS106.ge HI0.out) | refine below_set ?_ GE161.out | refine below_set ?_ GE175.out) | exact HB.out)); rintro e w19 ⟨rfl, hi, hb, hk⟩; refine ⟨_, rfl, ?_⟩; replace BK161 := asd (KeepBut.blk hk (g' := gb161) (o := .cells #[.int .i64 0, .int .i64 0, .int .i64 0, .int .i64 0] 25 (0, 0)) (bq1 BK161 NB161_175) NB161_0.out (by simp)); replace BK175 := asd (KeepBut.blk hk (g' := gb175) (o := .cells #[.int .i64 t171, .int .i64 t172, .int .i64 t173, .int .i64 t174] 25 (0, 0)) (bq0 BK175) NB175_0.out (by simp)); replace HK := asd (KeepBut.trans (by repeat (first | (with_reducible first | exact HK.out | apply KeepBut.set_ | apply keep_drewN | apply keep_drew | apply keep_alloc | refine keep_far ?_ GW161.out _ | refine keep_far ?_ GW175.out _) | exact HK.out)) hk (.inl rfl)); replace HB := asd (hb); replace HI0 := asd (hi); (try clear hb); (try clear hb2); (try clear hk); (try clear hi)))
  go_loopg [4] k (fun kq v4 w' => ∃ (x4_1 : Int) (x1001_1 : Int) (x1002_1 : Int) (x176000_1 : Int) (x176001_1 : Int) (x176002_1 : Int) (x176003_1 : Int), v4 = .int .i64 x4_1 ∧ Aside0 (spec_l02Draw.l0 kq x4_1 s0_0 x1001_1 x1002_1 x176000_1 x176001_1 x176002_1 x176003_1 = some (r1, r2, r3, r4, r5, r6)) ∧ Aside0 (kq ≤ k) ∧ Aside0 (w'.heap[gb161]? = some (.cells #[.int .i64 0, .int .i64 0, .int .i64 0, .int .i64 0] 25 (0, 0))) ∧ Aside0 (w'.heap[gb175]? = some (.cells #[.int .i64 x176000_1, .int .i64 x176001_1, .int .i64 x176002_1, .int .i64 x176003_1] 25 (0, 0))) ∧ Aside0 (IsS106 w0 w' g s0_0 x1001_1 x1002_1) ∧ Aside0 (KeepBut w w' g none) ∧ Aside0 (Below w0.heap.size w0 w'))
  case atStart => exact ⟨(t176), (t177), (t178), (t171), (t172), (t173), (t174), (by first | rfl | (simp; done) | (simp [*]; done)), H', ⟨Nat.le_refl _⟩, ⟨bkp BK161⟩, ⟨bkp BK175⟩, ⟨by repeat (first | (with_reducible first | exact HI0.out | apply IsS106.alloc | apply IsS106.drewN | apply IsS106.drew | apply IsS106.set_1 | apply IsS106.set_2 | refine IsS106.far ?_ NB0_161.out _ | refine IsS106.far ?_ NB0_175.out _) | exact HI0.out)⟩, ⟨by repeat (first | (with_reducible first | exact HK.out | apply KeepBut.set_ | apply keep_drewN | apply keep_drew | apply keep_alloc | refine keep_far ?_ GW161.out _ | refine keep_far ?_ GW175.out _) | exact HK.out)⟩, ⟨by repeat (first | (with_reducible first | exact HB.out | apply below_alloc | apply pw_below_drewN | apply below_drew1 | refine below_set ?_ (IsS106.ge HI0.out) | refine below_set ?_ GE161.out | refine below_set ?_ GE175.out) | exact HB.out)⟩⟩
  case round =>
   clear H'
   try clear c1
   try clear p2
   try clear c3
   try clear c3b0
   try clear c4
   try clear c5
   try clear c8
   try clear c16
   try clear c17
   try clear hcz18_0
   try clear hcz18_1
   try clear hcz18_2
   try clear hcz18_3
   try clear hcz9_0
   try clear hcz9_1
   try clear hcz9_2
   try clear hcz9_3
   try clear hfz18_0
   try clear hfz18_1
   try clear hfz18_2
   try clear hfz18_3
   try clear hfz9_0
   try clear hfz9_1
   try clear hfz9_2
   try clear hfz9_3
   obtain ⟨x4_1, x1001_1, x1002_1, x176000_1, x176001_1, x176002_1, x176003_1, rfl, HA, HK1, BK161, BK175, HI0, HK, HB⟩ := hrel
   cases gk with
   | zero => exact absurd HA.out (by simp [spec_l02Draw.l0])
   | succ k1 =>
    have H := HA.out
    clear HA
    simp only [spec_l02Draw.l0] at H
    by_cases c20 : x4_1 > 0
    ·rw [if_pos c20] at H
     have c20b0 : decide (0 < x4_1) = true := decide_eq_true c20
     clear c20
     obtain ⟨y179, hy179⟩ : ∃ y_ : List (S25), y_ = (([(⟨1, 1, 0, 1⟩ : S25), (⟨1, 0, 1, 1⟩ : S25), (⟨1, (-2), 0, 1⟩ : S25), (⟨0, 1, 1, 0⟩ : S25), (⟨(-1), 0, 0, 1⟩ : S25)] : List (S25))) := ⟨_, rfl⟩
     replace H : ((spec_l01Next.f s0_0 x1001_1 x1002_1 5).bind fun bt182 => (if 0 ≤ bt182.1 then (if bt182.1 < (y179.length : Int) then ((spec_l02Multiply.f x176000_1 x176001_1 x176002_1 x176003_1 ((rd_T25 y179 bt182.1).f0) ((rd_T25 y179 bt182.1).f1) ((rd_T25 y179 bt182.1).f2) ((rd_T25 y179 bt182.1).f3)).bind fun bt186 => (spec_l02Draw.l0 k1 (wrap64 (x4_1 - 1)) s0_0 bt182.2.1 bt182.2.2 bt186.1 bt186.2.1 bt186.2.2.1 bt186.2.2.2)) else (none)) else (none))) = some (r1, r2, r3, r4, r5, r6) := by first | (rw [hy179]; with_reducible exact H) | (have H2_ := (Option.bind_some _ _).symm.trans H; rw [hy179]; with_reducible exact H2_) | (have H2_ := (Option.bind_some _ _).symm.trans H; with_reducible exact H2_) | with_reducible exact H | (rw [hy179]; exact H) | exact H
     have Ny179 := Aside0.mk hy179
     clear hy179
     obtain ⟨⟨t182, t183, t184⟩, A21, H⟩ := ob H
     try dsimp only at H
     by_cases c22 : 0 ≤ t182
     ·rw [if_pos c22] at H
      have c22b0 := decide_eq_true c22
      clear c22
      by_cases c23 : t182 < (y179.length : Int)
      ·rw [if_pos c23] at H
       have c23b0 := decide_eq_true c23
       clear c23
       obtain ⟨⟨t186, t187, t188, t189⟩, A24, H⟩ := ob H
       try dsimp only at H
       have H' := Aside0.mk H
       clear H
       try go_wp2
       have pi185 : (0 ≤ (t182 : Int)) = True := eq_true (od)
       have qi185 : (t182 < (y179.length : Int)) = True := eq_true (od)
       replace BK161 := asd (blk_drew BK161.out)
       replace BK175 := asd (blk_drew BK175.out)
       replace HI0 := asd (IsS106.drew HI0.out)
       replace HK := asd (keep_drew HK.out)
       replace HB := asd (below_drew1 HB.out)
       refine start_ (n := 13) (S := fun w' => w'.cell? ⟨gb175, 0, none⟩ = some (.int .i64 x176000_1) ∧ w'.cell? ⟨gb175, 1, none⟩ = some (.int .i64 x176001_1) ∧ w'.cell? ⟨gb175, 2, none⟩ = some (.int .i64 x176002_1) ∧ w'.cell? ⟨gb175, 3, none⟩ = some (.int .i64 x176003_1)) (ds := [12]) (bT 13 0) (by kernel_rfl) rfl rfl ⟨bcl BK175 0, bcl BK175 1, bcl BK175 2, bcl BK175 3⟩ (fun hHeld => ?_); refine with_tabW spec_l02Draw.tab7 spec_l02Draw.bits7 (fun HT_ HW_ => ?_)
       generalize wr.drew = w25 at BK161 BK175 HI0 HK HB hHeld ⊢
       refine pu 1 (some 18) (bs 13 2) HT_ ?_
       refine pu 2 (some 19) (bs 13 6) HT_ ?_
       refine pu 3 (some 20) (bs 13 14) HT_ ?_
       refine pu 4 (some 21) (bs 13 30) HT_ ?_
       refine pu 5 (some 22) (bs 13 62) HT_ ?_
       refine pu 7 (some 24) (bs 13 190) HT_ ?_
       refine ta 0 (some 17) (bs 13 191) HT_ HW_ hHeld ?_
       refine join_ (σ := Value × Addr) 4 (bT 13 9) (fun s_ => [(23, s_.1), (25, .int .i64 t182)]) (fun s_ w' => (w'.cell? ⟨gb175, 0, none⟩ = some (.int .i64 x176000_1) ∧ w'.cell? ⟨gb175, 1, none⟩ = some (.int .i64 x176001_1) ∧ w'.cell? ⟨gb175, 2, none⟩ = some (.int .i64 x176002_1) ∧ w'.cell? ⟨gb175, 3, none⟩ = some (.int .i64 x176003_1)) ∧ (Kd.R k25 25 w' w.heap.size (fun k_ => k_ ≠ gb161 ∧ k_ ≠ gb175) s_.1 y179) ∧ (∃ c_, (s_.1 : Value) = .slice (some s_.2) y179.length c_) ∧ (w'.heap[gb161]? = some (.cells #[.int .i64 0, .int .i64 0, .int .i64 0, .int .i64 0] 25 (0, 0))) ∧ (w'.heap[gb175]? = some (.cells #[.int .i64 x176000_1, .int .i64 x176001_1, .int .i64 x176002_1, .int .i64 x176003_1] 25 (0, 0))) ∧ (IsS106 w0 w' g s0_0 t183 t184) ∧ (KeepBut w w' g none) ∧ (Below w0.heap.size w0 w')) ?_ ?_
       rotate_left
       ·intro hCont
        refine two_ (i := 6) (j := 8) (Ni := some 23) (Nj := some 25) (bT 13 8) (bs 13 447) rfl rfl rfl rfl (two_of HT_.out (by kernel_rfl)) (by decide) (by decide) (fun K hK => ?_) (fun K hK => ?_)
        ·skip
         refine Kd.R_lit_step k25 _ 25 ?hg (N := 23) ?hd (xs := ([(⟨1, 1, 0, 1⟩ : S25), (⟨1, 0, 1, 1⟩ : S25), (⟨1, (-2), 0, 1⟩ : S25), (⟨0, 1, 1, 0⟩ : S25), (⟨(-1), 0, 0, 1⟩ : S25)] : List (S25))) (inner := [.int .i64 1, .int .i64 1, .int .i64 0, .int .i64 1, .int .i64 1, .int .i64 0, .int .i64 1, .int .i64 1, .int .i64 1, .int .i64 (-2), .int .i64 0, .int .i64 1, .int .i64 0, .int .i64 1, .int .i64 1, .int .i64 0, .int .i64 (-1), .int .i64 0, .int .i64 0, .int .i64 1]) (ok := fun _ => True) (okp := fun _ => True) ?hr ?hp (fun _ hk => hk) trivial (Below.refl _ _) (Nat.le_refl _) (by simp) ?_; (case hd => rfl); (case hg => rfl); (case hr => first | (go_simp; done) | (go_simp; rfl)); (case hp => exact (Reps.c4 (show Kd.M k25 _ _ _ (⟨1, 1, 0, 1⟩ : S25) [.int .i64 1, .int .i64 1, .int .i64 0, .int .i64 1] from (k25_mkM _ _ _ (⟨1, 1, 0, 1⟩ : S25) )) (Reps.c4 (show Kd.M k25 _ _ _ (⟨1, 0, 1, 1⟩ : S25) [.int .i64 1, .int .i64 0, .int .i64 1, .int .i64 1] from (k25_mkM _ _ _ (⟨1, 0, 1, 1⟩ : S25) )) (Reps.c4 (show Kd.M k25 _ _ _ (⟨1, (-2), 0, 1⟩ : S25) [.int .i64 1, .int .i64 (-2), .int .i64 0, .int .i64 1] from (k25_mkM _ _ _ (⟨1, (-2), 0, 1⟩ : S25) )) (Reps.c4 (show Kd.M k25 _ _ _ (⟨0, 1, 1, 0⟩ : S25) [.int .i64 0, .int .i64 1, .int .i64 1, .int .i64 0] from (k25_mkM _ _ _ (⟨0, 1, 1, 0⟩ : S25) )) (Reps.c4 (show Kd.M k25 _ _ _ (⟨(-1), 0, 0, 1⟩ : S25) [.int .i64 (-1), .int .i64 0, .int .i64 0, .int .i64 1] from (k25_mkM _ _ _ (⟨(-1), 0, 0, 1⟩ : S25) )) (Reps.none _ _)))))))
         intro v180 w26 ho27 hb hg_ hnew_
         clear hg_ hnew_
         (first | rw [← Ny179.out] at ho27 | (simp only [Int.reduceToNat] at ho27; rw [← Ny179.out] at ho27))
         have HO181 := asd (Kd.R_lower (Kd.R_newB (Kd.R_newB ho27 (g := gb161) (o := .cells #[.int .i64 0, .int .i64 0, .int .i64 0, .int .i64 0] 25 (0, 0)) (bkp BK161)) (g := gb175) (o := .cells #[.int .i64 x176000_1, .int .i64 x176001_1, .int .i64 x176002_1, .int .i64 x176003_1] 25 (0, 0)) (bkp BK175)) (keep_size (w := w) (g := g) (row := none) (by repeat (first | (with_reducible first | exact HK.out | apply KeepBut.set_ | apply keep_drewN | apply keep_drew | apply keep_alloc | refine keep_far ?_ GW161.out _ | refine keep_far ?_ GW175.out _) | exact HK.out))))
         replace BK161 := bB BK161 hb
         replace BK175 := bB BK175 hb
         replace HK := asd (KeepBut.trans (by repeat (first | (with_reducible first | exact HK.out | apply KeepBut.set_ | apply keep_drewN | apply keep_drew | apply keep_alloc | refine keep_far ?_ GW161.out _ | refine keep_far ?_ GW175.out _) | exact HK.out)) (KeepBut.of_below hb g none) (.inl rfl))
         replace HB := asd (below_step (by repeat (first | (with_reducible first | exact HB.out | apply below_alloc | apply pw_below_drewN | apply below_drew1 | refine below_set ?_ (IsS106.ge HI0.out) | refine below_set ?_ GE161.out | refine below_set ?_ GE175.out) | exact HB.out)) hb)
         replace HI0 := asd (IsS106.below (by repeat (first | (with_reducible first | exact HI0.out | apply IsS106.alloc | apply IsS106.drewN | apply IsS106.drew | apply IsS106.set_1 | apply IsS106.set_2 | refine IsS106.far ?_ NB0_161.out _ | refine IsS106.far ?_ NB0_175.out _) | exact HI0.out)) hb)
         clear hb ho27
         obtain ⟨Ao28, co28, eo28⟩ := Kd.R_slice HO181.out
         subst eo28
         obtain ⟨ado28, fo28, _⟩ := at_T25 (Kd.R_reads' HO181.out).2.2 0 (by decide) (by rw [Ny179.out]; simp)
         cases fo28
         refine hK.out _ _ (eb4 BK175).out (fun hHeld => ?_)
         clear hK K
         refine norm_ (a' := ?_) ?_ ?_
         rotate_left
         ·show Act.put _ (some 23) _ = _
          simp only [Act.put, sA, sB, sC, i64_w, i32_w]
          rfl
         refine ro 8 (some 25) (bT 13 9) HT_ (fun K hK => ?_)
         refine gs Tryz.func45 #[.pointer (some ⟨g, 0, none⟩), .int .i64 5] ?_
         with_reducible refine (spec_l01Next.calls _ _ _ _ _ _ _ _ w0 _ ?side1 ?side2 A21.out).mono ?_
         (case side1 => repeat (first | (with_reducible first | exact HI0.out | apply IsS106.alloc | apply IsS106.drewN | apply IsS106.drew | apply IsS106.set_1 | apply IsS106.set_2 | refine IsS106.far ?_ NB0_161.out _ | refine IsS106.far ?_ NB0_175.out _) | exact HI0.out))
         (case side2 => repeat (first | (with_reducible first | exact HB.out | apply below_alloc | apply pw_below_drewN | apply below_drew1 | refine below_set ?_ (IsS106.ge HI0.out) | refine below_set ?_ GE161.out | refine below_set ?_ GE175.out) | exact HB.out))
         rintro e w29 ⟨rfl, hi, hb, hk⟩
         refine ⟨_, rfl, ?_⟩
         replace BK161 := asd (KeepBut.blk hk (g' := gb161) (o := .cells #[.int .i64 0, .int .i64 0, .int .i64 0, .int .i64 0] 25 (0, 0)) (bkp BK161) NB161_0.out (by simp))
         replace BK175 := asd (KeepBut.blk hk (g' := gb175) (o := .cells #[.int .i64 x176000_1, .int .i64 x176001_1, .int .i64 x176002_1, .int .i64 x176003_1] 25 (0, 0)) (bkp BK175) NB175_0.out (by simp))
         replace HO181 := asd (Kd.R_mono (Kd.R_keep (IsS106.apart (show IsS106 w0 _ g s0_0 x1001_1 x1002_1 from by repeat (first | (with_reducible first | exact HI0.out | apply IsS106.alloc | apply IsS106.drewN | apply IsS106.drew | apply IsS106.set_1 | apply IsS106.set_2 | refine IsS106.far ?_ NB0_161.out _ | refine IsS106.far ?_ NB0_175.out _) | exact HI0.out)) (kr HO181) (by decide)) hk (fun _ h => h.2)) (fun _ h => h.1))
         replace HK := asd (KeepBut.trans (by repeat (first | (with_reducible first | exact HK.out | apply KeepBut.set_ | apply keep_drewN | apply keep_drew | apply keep_alloc | refine keep_far ?_ GW161.out _ | refine keep_far ?_ GW175.out _) | exact HK.out)) hk (.inl rfl))
         replace HB := asd (hb)
         replace HI0 := asd (hi)
         (try clear hb)
         (try clear hb2)
         (try clear hk)
         (try clear hi)
         refine hK.out _ _ (eb4 BK175).out (fun hHeld => ?_)
         clear hK K
         refine norm_ (a' := ?_) ?_ ?_
         rotate_left
         ·show Act.put _ (some 25) _ = _
          simp only [Act.put, sA, sB, sC, i64_w, i32_w]
          rfl
         exact norm_ (by simp only [putAll, Act.put, sA, sB, sC]) (hCont (.slice (some ado28) y179.length co28, ado28) _ ⟨hHeld, (by (with_reducible repeat (first | apply Kd.R_alloc | apply Kd.R_drewN | apply Kd.R_drew)); exact Kd.R_mono HO181.out (fun _ hk => ⟨hk.1.2, hk.2⟩)), ⟨_, rfl⟩, (bkp BK161), (bkp BK175), (by repeat (first | (with_reducible first | exact HI0.out | apply IsS106.alloc | apply IsS106.drewN | apply IsS106.drew | apply IsS106.set_1 | apply IsS106.set_2 | refine IsS106.far ?_ NB0_161.out _ | refine IsS106.far ?_ NB0_175.out _) | exact HI0.out)), (by repeat (first | (with_reducible first | exact HK.out | apply KeepBut.set_ | apply keep_drewN | apply keep_drew | apply keep_alloc | refine keep_far ?_ GW161.out _ | refine keep_far ?_ GW175.out _) | exact HK.out)), (by repeat (first | (with_reducible first | exact HB.out | apply below_alloc | apply pw_below_drewN | apply below_drew1 | refine below_set ?_ (IsS106.ge HI0.out) | refine below_set ?_ GE161.out | refine below_set ?_ GE175.out) | exact HB.out))⟩)
        ·skip
         refine gs Tryz.func45 #[.pointer (some ⟨g, 0, none⟩), .int .i64 5] ?_
         with_reducible refine (spec_l01Next.calls _ _ _ _ _ _ _ _ w0 _ ?side1 ?side2 A21.out).mono ?_
         (case side1 => repeat (first | (with_reducible first | exact HI0.out | apply IsS106.alloc | apply IsS106.drewN | apply IsS106.drew | apply IsS106.set_1 | apply IsS106.set_2 | refine IsS106.far ?_ NB0_161.out _ | refine IsS106.far ?_ NB0_175.out _) | exact HI0.out))
         (case side2 => repeat (first | (with_reducible first | exact HB.out | apply below_alloc | apply pw_below_drewN | apply below_drew1 | refine below_set ?_ (IsS106.ge HI0.out) | refine below_set ?_ GE161.out | refine below_set ?_ GE175.out) | exact HB.out))
         rintro e w26 ⟨rfl, hi, hb, hk⟩
         refine ⟨_, rfl, ?_⟩
         replace BK161 := asd (KeepBut.blk hk (g' := gb161) (o := .cells #[.int .i64 0, .int .i64 0, .int .i64 0, .int .i64 0] 25 (0, 0)) (bkp BK161) NB161_0.out (by simp))
         replace BK175 := asd (KeepBut.blk hk (g' := gb175) (o := .cells #[.int .i64 x176000_1, .int .i64 x176001_1, .int .i64 x176002_1, .int .i64 x176003_1] 25 (0, 0)) (bkp BK175) NB175_0.out (by simp))
         replace HK := asd (KeepBut.trans (by repeat (first | (with_reducible first | exact HK.out | apply KeepBut.set_ | apply keep_drewN | apply keep_drew | apply keep_alloc | refine keep_far ?_ GW161.out _ | refine keep_far ?_ GW175.out _) | exact HK.out)) hk (.inl rfl))
         replace HB := asd (hb)
         replace HI0 := asd (hi)
         (try clear hb)
         (try clear hb2)
         (try clear hk)
         (try clear hi)
         refine hK.out _ _ (eb4 BK175).out (fun hHeld => ?_)
         clear hK K
         refine norm_ (a' := ?_) ?_ ?_
         rotate_left
         ·show Act.put _ (some 25) _ = _
          simp only [Act.put, sA, sB, sC, i64_w, i32_w]
          rfl
         refine ro 6 (some 23) (bT 13 9) HT_ (fun K hK => ?_)
         refine Kd.R_lit_step k25 _ 25 ?hg (N := 23) ?hd (xs := ([(⟨1, 1, 0, 1⟩ : S25), (⟨1, 0, 1, 1⟩ : S25), (⟨1, (-2), 0, 1⟩ : S25), (⟨0, 1, 1, 0⟩ : S25), (⟨(-1), 0, 0, 1⟩ : S25)] : List (S25))) (inner := [.int .i64 1, .int .i64 1, .int .i64 0, .int .i64 1, .int .i64 1, .int .i64 0, .int .i64 1, .int .i64 1, .int .i64 1, .int .i64 (-2), .int .i64 0, .int .i64 1, .int .i64 0, .int .i64 1, .int .i64 1, .int .i64 0, .int .i64 (-1), .int .i64 0, .int .i64 0, .int .i64 1]) (ok := fun _ => True) (okp := fun _ => True) ?hr ?hp (fun _ hk => hk) trivial (Below.refl _ _) (Nat.le_refl _) (by simp) ?_; (case hd => rfl); (case hg => rfl); (case hr => first | (go_simp; done) | (go_simp; rfl)); (case hp => exact (Reps.c4 (show Kd.M k25 _ _ _ (⟨1, 1, 0, 1⟩ : S25) [.int .i64 1, .int .i64 1, .int .i64 0, .int .i64 1] from (k25_mkM _ _ _ (⟨1, 1, 0, 1⟩ : S25) )) (Reps.c4 (show Kd.M k25 _ _ _ (⟨1, 0, 1, 1⟩ : S25) [.int .i64 1, .int .i64 0, .int .i64 1, .int .i64 1] from (k25_mkM _ _ _ (⟨1, 0, 1, 1⟩ : S25) )) (Reps.c4 (show Kd.M k25 _ _ _ (⟨1, (-2), 0, 1⟩ : S25) [.int .i64 1, .int .i64 (-2), .int .i64 0, .int .i64 1] from (k25_mkM _ _ _ (⟨1, (-2), 0, 1⟩ : S25) )) (Reps.c4 (show Kd.M k25 _ _ _ (⟨0, 1, 1, 0⟩ : S25) [.int .i64 0, .int .i64 1, .int .i64 1, .int .i64 0] from (k25_mkM _ _ _ (⟨0, 1, 1, 0⟩ : S25) )) (Reps.c4 (show Kd.M k25 _ _ _ (⟨(-1), 0, 0, 1⟩ : S25) [.int .i64 (-1), .int .i64 0, .int .i64 0, .int .i64 1] from (k25_mkM _ _ _ (⟨(-1), 0, 0, 1⟩ : S25) )) (Reps.none _ _)))))))
         intro v180 w27 ho28 hb hg_ hnew_
         clear hg_ hnew_
         (first | rw [← Ny179.out] at ho28 | (simp only [Int.reduceToNat] at ho28; rw [← Ny179.out] at ho28))
         have HO181 := asd (Kd.R_lower (Kd.R_newB (Kd.R_newB ho28 (g := gb161) (o := .cells #[.int .i64 0, .int .i64 0, .int .i64 0, .int .i64 0] 25 (0, 0)) (bkp BK161)) (g := gb175) (o := .cells #[.int .i64 x176000_1, .int .i64 x176001_1, .int .i64 x176002_1, .int .i64 x176003_1] 25 (0, 0)) (bkp BK175)) (keep_size (w := w) (g := g) (row := none) (by repeat (first | (with_reducible first | exact HK.out | apply KeepBut.set_ | apply keep_drewN | apply keep_drew | apply keep_alloc | refine keep_far ?_ GW161.out _ | refine keep_far ?_ GW175.out _) | exact HK.out))))
         replace BK161 := bB BK161 hb
         replace BK175 := bB BK175 hb
         replace HK := asd (KeepBut.trans (by repeat (first | (with_reducible first | exact HK.out | apply KeepBut.set_ | apply keep_drewN | apply keep_drew | apply keep_alloc | refine keep_far ?_ GW161.out _ | refine keep_far ?_ GW175.out _) | exact HK.out)) (KeepBut.of_below hb g none) (.inl rfl))
         replace HB := asd (below_step (by repeat (first | (with_reducible first | exact HB.out | apply below_alloc | apply pw_below_drewN | apply below_drew1 | refine below_set ?_ (IsS106.ge HI0.out) | refine below_set ?_ GE161.out | refine below_set ?_ GE175.out) | exact HB.out)) hb)
         replace HI0 := asd (IsS106.below (by repeat (first | (with_reducible first | exact HI0.out | apply IsS106.alloc | apply IsS106.drewN | apply IsS106.drew | apply IsS106.set_1 | apply IsS106.set_2 | refine IsS106.far ?_ NB0_161.out _ | refine IsS106.far ?_ NB0_175.out _) | exact HI0.out)) hb)
         clear hb ho28
         obtain ⟨Ao29, co29, eo29⟩ := Kd.R_slice HO181.out
         subst eo29
         obtain ⟨ado29, fo29, _⟩ := at_T25 (Kd.R_reads' HO181.out).2.2 0 (by decide) (by rw [Ny179.out]; simp)
         cases fo29
         refine hK.out _ _ (eb4 BK175).out (fun hHeld => ?_)
         clear hK K
         refine norm_ (a' := ?_) ?_ ?_
         rotate_left
         ·show Act.put _ (some 23) _ = _
          simp only [Act.put, sA, sB, sC, i64_w, i32_w]
          rfl
         exact norm_ (by simp only [putAll, Act.put, sA, sB, sC]) (hCont (.slice (some ado29) y179.length co29, ado29) _ ⟨hHeld, (by (with_reducible repeat (first | apply Kd.R_alloc | apply Kd.R_drewN | apply Kd.R_drew)); exact Kd.R_mono HO181.out (fun _ hk => ⟨hk.1.2, hk.2⟩)), ⟨_, rfl⟩, (bkp BK161), (bkp BK175), (by repeat (first | (with_reducible first | exact HI0.out | apply IsS106.alloc | apply IsS106.drewN | apply IsS106.drew | apply IsS106.set_1 | apply IsS106.set_2 | refine IsS106.far ?_ NB0_161.out _ | refine IsS106.far ?_ NB0_175.out _) | exact HI0.out)), (by repeat (first | (with_reducible first | exact HK.out | apply KeepBut.set_ | apply keep_drewN | apply keep_drew | apply keep_alloc | refine keep_far ?_ GW161.out _ | refine keep_far ?_ GW175.out _) | exact HK.out)), (by repeat (first | (with_reducible first | exact HB.out | apply below_alloc | apply pw_below_drewN | apply below_drew1 | refine below_set ?_ (IsS106.ge HI0.out) | refine below_set ?_ GE161.out | refine below_set ?_ GE175.out) | exact HB.out))⟩)
       rintro ⟨v180, adz_v180⟩ w30 ⟨hS_, h0_, h1_, h2_, h3_, h4_, h5_, h6_⟩
       have n0_ : Aside0 (Kd.R k25 25 w30 w.heap.size (fun k_ => k_ ≠ gb161 ∧ k_ ≠ gb175) v180 y179) := ⟨h0_⟩
       have n1_ : Aside0 (∃ c_, (v180 : Value) = .slice (some adz_v180) y179.length c_) := ⟨h1_⟩
       have n2_ : Aside0 (w30.heap[gb161]? = some (.cells #[.int .i64 0, .int .i64 0, .int .i64 0, .int .i64 0] 25 (0, 0))) := ⟨h2_⟩
       have n3_ : Aside0 (w30.heap[gb175]? = some (.cells #[.int .i64 x176000_1, .int .i64 x176001_1, .int .i64 x176002_1, .int .i64 x176003_1] 25 (0, 0))) := ⟨h3_⟩
       have n4_ : Aside0 (IsS106 w0 w30 g s0_0 t183 t184) := ⟨h4_⟩
       have n5_ : Aside0 (KeepBut w w30 g none) := ⟨h5_⟩
       have n6_ : Aside0 (Below w0.heap.size w0 w30) := ⟨h6_⟩
       clear BK161
       clear BK175
       clear HI0
       clear HK
       clear HB
       clear h0_ h1_ h2_ h3_ h4_ h5_ h6_
       have HO181 := n0_
       have HA_HO181 := n1_
       have BK161 := n2_
       have BK175 := n3_
       have HI0 := n4_
       have HK := n5_
       have HB := n6_
       clear n0_ n1_ n2_ n3_ n4_ n5_ n6_
       have hHeld : w30.cell? ⟨gb175, 0, none⟩ = some (.int .i64 x176000_1) ∧ w30.cell? ⟨gb175, 1, none⟩ = some (.int .i64 x176001_1) ∧ w30.cell? ⟨gb175, 2, none⟩ = some (.int .i64 x176002_1) ∧ w30.cell? ⟨gb175, 3, none⟩ = some (.int .i64 x176003_1) := hS_
       obtain ⟨co31, eo31⟩ := HA_HO181.out
       clear HA_HO181
       subst eo31
       refine norm_ (a' := ?_) ?_ ?_
       rotate_left
       ·simp only [putAll, Act.put, sA, sB, sC]
        rfl
       refine pu 9 (some 26) (bT 13 10) HT_ ?_
       refine ro 10 (some 27) (bT 13 11) HT_ (fun K hK => ?_)
       (have p185 : 0 ≤ (t182 : Int) := od; have q185 : t182 < (y179.length : Int) := od; obtain ⟨ad185, e185, hx185_0, hx185_1, hx185_2, hx185_3⟩ := at_T25 (Kd.R_reads' HO181.out).2.2 t182 p185 q185; obtain rfl : adz_v180 = ad185 := (by injection e185))
       refine value_ (w1 := ?_) (v := ?_) (by rfl) rfl ?_ ?_
       rotate_left 2
       ·go_simp
        constructor
        ·rfl
        ·rfl
       clear hx185_0 hx185_1 hx185_2 hx185_3
       refine hK.out _ _ (eb4 BK175).out (fun hHeld => ?_)
       clear hK K
       refine norm_ (a' := ?_) ?_ ?_
       rotate_left
       ·show Act.put _ (some 27) _ = _
        simp only [Act.put, sA, sB, sC, i64_w, i32_w]
        rfl
       refine ro 11 (some 28) (bT 13 12) HT_ (fun K hK => ?_)
       refine gs Tryz.func51 #[.agg #[.int .i64 x176000_1, .int .i64 x176001_1, .int .i64 x176002_1, .int .i64 x176003_1], .agg #[.int .i64 ((rd_T25 y179 t182).f0), .int .i64 ((rd_T25 y179 t182).f1), .int .i64 ((rd_T25 y179 t182).f2), .int .i64 ((rd_T25 y179 t182).f3)]] ?_
       with_reducible refine (spec_l02Multiply.calls _ _ _ _ _ _ _ _ _ _ _ _ _ A24.out).mono ?_
       rintro e w32 ⟨rfl, hb⟩
       refine ⟨_, rfl, ?_⟩
       replace HO181 := asd (Kd.R_below (kr HO181) hb)
       replace BK161 := bB BK161 hb
       replace BK175 := bB BK175 hb
       replace HK := asd (KeepBut.trans (by repeat (first | (with_reducible first | exact HK.out | apply KeepBut.set_ | apply keep_drewN | apply keep_drew | apply keep_alloc | refine keep_far ?_ GW161.out _ | refine keep_far ?_ GW175.out _) | exact HK.out)) (KeepBut.of_below hb g none) (.inl rfl))
       replace HB := asd (below_step (by repeat (first | (with_reducible first | exact HB.out | apply below_alloc | apply pw_below_drewN | apply below_drew1 | refine below_set ?_ (IsS106.ge HI0.out) | refine below_set ?_ GE161.out | refine below_set ?_ GE175.out) | exact HB.out)) hb)
       replace HI0 := asd (IsS106.below (by repeat (first | (with_reducible first | exact HI0.out | apply IsS106.alloc | apply IsS106.drewN | apply IsS106.drew | apply IsS106.set_1 | apply IsS106.set_2 | refine IsS106.far ?_ NB0_161.out _ | refine IsS106.far ?_ NB0_175.out _) | exact HI0.out)) hb)
       (try clear hb)
       (try clear hb2)
       (try clear hk)
       (try clear hi)
       refine hK.out _ _ (eb4 BK175).out (fun hHeld => ?_)
       clear hK K
       refine norm_ (a' := ?_) ?_ ?_
       rotate_left
       ·show Act.put _ (some 28) _ = _
        simp only [Act.put, sA, sB, sC, i64_w, i32_w]
        rfl
       refine last_ (i := 12) (N := none) (bT 13 13) rfl rfl (one_of HT_.out (by kernel_rfl)) (by decide) (fun K hK => ?_)
       have hs33 : w32.cell? ⟨gb175, 0, none⟩ = some (.int .i64 x176000_1) := bcl BK175 0
       have hfs33 := blk_frozen BK175.out 0
       have hns33_0 := NB161_175.out
       have hms33_0 := NB175_161.out
       have hs34 : w32.cell? ⟨gb175, 1, none⟩ = some (.int .i64 x176001_1) := bcl BK175 1
       have hfs34 := blk_frozen BK175.out 1
       have hns34_0 := NB161_175.out
       have hms34_0 := NB175_161.out
       have hs35 : w32.cell? ⟨gb175, 2, none⟩ = some (.int .i64 x176002_1) := bcl BK175 2
       have hfs35 := blk_frozen BK175.out 2
       have hns35_0 := NB161_175.out
       have hms35_0 := NB175_161.out
       have hs36 : w32.cell? ⟨gb175, 3, none⟩ = some (.int .i64 x176003_1) := bcl BK175 3
       have hfs36 := blk_frozen BK175.out 3
       have hns36_0 := NB161_175.out
       have hms36_0 := NB175_161.out
       refine skip_ (w1 := ?_) (by rfl) rfl ?_ ?_
       rotate_left
       ·go_simp
        rfl
       refine hK.out _ _ ?_
       clear hK K
       refine done_ (done_of HT_.out (by kernel_rfl)) ?_
       try go_wp2
       go_roundg k1
       case measure => have := HK1.out; omega
       case rel => exact ⟨(wrap64 (x4_1 - 1)), (t183), (t184), (t186), (t187), (t188), (t189), (by first | rfl | (simp; done) | (simp [*]; done)), H', ⟨by have := HK1.out; omega⟩, ⟨bq1 BK161 NB161_175⟩, ⟨bq0 BK175⟩, ⟨by repeat (first | (with_reducible first | exact HI0.out | apply IsS106.alloc | apply IsS106.drewN | apply IsS106.drew | apply IsS106.set_1 | apply IsS106.set_2 | refine IsS106.far ?_ NB0_161.out _ | refine IsS106.far ?_ NB0_175.out _) | exact HI0.out)⟩, ⟨by repeat (first | (with_reducible first | exact HK.out | apply KeepBut.set_ | apply keep_drewN | apply keep_drew | apply keep_alloc | refine keep_far ?_ GW161.out _ | refine keep_far ?_ GW175.out _) | exact HK.out)⟩, ⟨by repeat (first | (with_reducible first | exact HB.out | apply below_alloc | apply pw_below_drewN | apply below_drew1 | refine below_set ?_ (IsS106.ge HI0.out) | refine below_set ?_ GE161.out | refine below_set ?_ GE175.out) | exact HB.out)⟩⟩
      ·rw [if_neg c23] at H
       exact absurd H (by simp)
     ·rw [if_neg c22] at H
      exact absurd H (by simp)
    ·rw [if_neg c20] at H
     have c20b0 : decide (0 < x4_1) = false := decide_eq_false c20
     clear c20
     obtain ⟨⟨t190, t191, t192⟩, A37, H⟩ := ob H
     try dsimp only at H
     by_cases c38 : t190 = 0
     ·rw [if_pos c38] at H
      have c38b0 : (t190 == 0) = true := beq_iff_eq.mpr c38
      have c38b1 : (t190 != 0) = false := bne_eq_false_iff_eq.mpr c38
      clear c38
      simp only [Option.some.injEq, Prod.mk.injEq] at H
      obtain ⟨rfl, rfl, rfl, rfl, rfl, rfl⟩ := H
      go_wp2_with (first | ((with_reducible refine gate_callee (f := 45) rfl ?_); refine gl 30 Tryz.func45 #[.pointer (some ⟨g, 0, none⟩), .int .i64 20] ?_; (with_reducible refine (spec_l01Next.calls _ _ _ _ _ _ _ _ w0 _ ?side1 ?side2 A37.out).mono ?_); (case side1 => repeat (first | (with_reducible first | exact HI0.out | apply IsS106.alloc | apply IsS106.drewN | apply IsS106.drew | apply IsS106.set_1 | apply IsS106.set_2 | refine IsS106.far ?_ NB0_161.out _ | refine IsS106.far ?_ NB0_175.out _) | exact HI0.out)); (case side2 => repeat (first | (with_reducible first | exact HB.out | apply below_alloc | apply pw_below_drewN | apply below_drew1 | refine below_set ?_ (IsS106.ge HI0.out) | refine below_set ?_ GE161.out | refine below_set ?_ GE175.out) | exact HB.out)); rintro e w39 ⟨rfl, hi, hb, hk⟩; refine ⟨_, rfl, ?_⟩; replace BK161 := asd (KeepBut.blk hk (g' := gb161) (o := .cells #[.int .i64 0, .int .i64 0, .int .i64 0, .int .i64 0] 25 (0, 0)) (bkp BK161) NB161_0.out (by simp)); replace BK175 := asd (KeepBut.blk hk (g' := gb175) (o := .cells #[.int .i64 x176000_1, .int .i64 x176001_1, .int .i64 x176002_1, .int .i64 x176003_1] 25 (0, 0)) (bkp BK175) NB175_0.out (by simp)); replace HK := asd (KeepBut.trans (by repeat (first | (with_reducible first | exact HK.out | apply KeepBut.set_ | apply keep_drewN | apply keep_drew | apply keep_alloc | refine keep_far ?_ GW161.out _ | refine keep_far ?_ GW175.out _) | exact HK.out)) hk (.inl rfl)); replace HB := asd (hb); replace HI0 := asd (hi); (try clear hb); (try clear hb2); (try clear hk); (try clear hi); have hnb40 := NB175_161.out; have hnc40 := NB161_175.out; have hnb41 := NB175_0.out; have hnc41 := NB0_175.out; obtain ⟨hcz42_0, hcz42_1, hcz42_2, hcz42_3, hfz42_0, hfz42_1, hfz42_2, hfz42_3⟩ := bz4 BK175; have hnb43 := NB161_0.out; have hnc43 := NB0_161.out; obtain ⟨hcz44_0, hcz44_1, hcz44_2, hcz44_3, hfz44_0, hfz44_1, hfz44_2, hfz44_3⟩ := bz4 BK161))
      refine bodyPost_ret (results_cell_row rfl _ _ gb161 25 #[.int .i64 (wrap64 (x176000_1 + 1)), .int .i64 x176001_1, .int .i64 x176002_1, .int .i64 x176003_1] (0, 0) _ rfl (bq1 BK161 NB161_175) Tryz.underlying25 rfl (by kernel_rfl)) rfl ?_
      exact ⟨by first | rfl | (simp [errW_none, errW_some] <;> rfl) | (simp [*, errW_none, errW_some] <;> rfl), by repeat (first | (with_reducible first | exact HI0.out | apply IsS106.alloc | apply IsS106.drewN | apply IsS106.drew | apply IsS106.set_1 | apply IsS106.set_2 | refine IsS106.far ?_ NB0_161.out _ | refine IsS106.far ?_ NB0_175.out _) | exact HI0.out), by repeat (first | (with_reducible first | exact HB.out | apply below_alloc | apply pw_below_drewN | apply below_drew1 | refine below_set ?_ (IsS106.ge HI0.out) | refine below_set ?_ GE161.out | refine below_set ?_ GE175.out) | exact HB.out), by repeat (first | (with_reducible first | exact HK.out | apply KeepBut.set_ | apply keep_drewN | apply keep_drew | apply keep_alloc | refine keep_far ?_ GW161.out _ | refine keep_far ?_ GW175.out _) | exact HK.out)⟩
     ·rw [if_neg c38] at H
      have c38b0 : (t190 == 0) = false := beq_eq_false_iff_ne.mpr c38
      have c38b1 : (t190 != 0) = true := bne_iff_ne.mpr c38
      by_cases c45 : t190 = 1
      ·rw [if_pos c45] at H
       have c45b0 : (t190 == 1) = true := beq_iff_eq.mpr c45
       have c45b1 : (t190 != 1) = false := bne_eq_false_iff_eq.mpr c45
       clear c45
       obtain ⟨y193, hy193⟩ : ∃ y_ : List Int, y_ = (([999, 1000, 1001] : List Int)) := ⟨_, rfl⟩
       replace H : ((spec_l01Pick.f s0_0 t191 t192 y193).bind fun bt196 => (some (1, bt196.1, 0, 1, bt196.2.1, bt196.2.2))) = some (r1, r2, r3, r4, r5, r6) := by first | (rw [hy193]; with_reducible exact H) | (have H2_ := (Option.bind_some _ _).symm.trans H; rw [hy193]; with_reducible exact H2_) | (have H2_ := (Option.bind_some _ _).symm.trans H; with_reducible exact H2_) | with_reducible exact H | (rw [hy193]; exact H) | exact H
       have Ny193 := Aside0.mk hy193
       clear hy193
       obtain ⟨⟨t196, t197, t198⟩, A46, H⟩ := ob H
       try dsimp only at H
       simp only [Option.some.injEq, Prod.mk.injEq] at H
       obtain ⟨rfl, rfl, rfl, rfl, rfl, rfl⟩ := H
       go_wp2_with (first | ((with_reducible refine gate_callee (f := 45) rfl ?_); refine gl 30 Tryz.func45 #[.pointer (some ⟨g, 0, none⟩), .int .i64 20] ?_; (with_reducible refine (spec_l01Next.calls _ _ _ _ _ _ _ _ w0 _ ?side1 ?side2 A37.out).mono ?_); (case side1 => repeat (first | (with_reducible first | exact HI0.out | apply IsS106.alloc | apply IsS106.drewN | apply IsS106.drew | apply IsS106.set_1 | apply IsS106.set_2 | refine IsS106.far ?_ NB0_161.out _ | refine IsS106.far ?_ NB0_175.out _) | exact HI0.out)); (case side2 => repeat (first | (with_reducible first | exact HB.out | apply below_alloc | apply pw_below_drewN | apply below_drew1 | refine below_set ?_ (IsS106.ge HI0.out) | refine below_set ?_ GE161.out | refine below_set ?_ GE175.out) | exact HB.out)); rintro e w47 ⟨rfl, hi, hb, hk⟩; refine ⟨_, rfl, ?_⟩; replace BK161 := asd (KeepBut.blk hk (g' := gb161) (o := .cells #[.int .i64 0, .int .i64 0, .int .i64 0, .int .i64 0] 25 (0, 0)) (bkp BK161) NB161_0.out (by simp)); replace BK175 := asd (KeepBut.blk hk (g' := gb175) (o := .cells #[.int .i64 x176000_1, .int .i64 x176001_1, .int .i64 x176002_1, .int .i64 x176003_1] 25 (0, 0)) (bkp BK175) NB175_0.out (by simp)); replace HK := asd (KeepBut.trans (by repeat (first | (with_reducible first | exact HK.out | apply KeepBut.set_ | apply keep_drewN | apply keep_drew | apply keep_alloc | refine keep_far ?_ GW161.out _ | refine keep_far ?_ GW175.out _) | exact HK.out)) hk (.inl rfl)); replace HB := asd (hb); replace HI0 := asd (hi); (try clear hb); (try clear hb2); (try clear hk); (try clear hi)) | ((with_reducible refine gd 40 rfl ?_); refine Kd.R_lit (Kd.int .i64) _ 2 ?hg (N := 40) ?hd (xs := ([999, 1000, 1001] : List Int)) (inner := [.int .i64 999, .int .i64 1000, .int .i64 1001]) (ok := fun _ => True) (okp := fun _ => True) ?hr ?hp (fun _ hk => hk) trivial (Below.refl _ _) (Nat.le_refl _) (by simp) ?_; (case hd => rfl); (case hg => rfl); (case hr => first | (go_simp; done) | (go_simp; rfl)); (case hp => exact (Reps.one (show Kd.M (Kd.int .i64) _ _ _ 999 [.int .i64 999] from rfl) (Reps.one (show Kd.M (Kd.int .i64) _ _ _ 1000 [.int .i64 1000] from rfl) (Reps.one (show Kd.M (Kd.int .i64) _ _ _ 1001 [.int .i64 1001] from rfl) (Reps.none _ _))))); intro v194 w48 ho49 hb hg_ hnew_; clear hg_ hnew_; (first | rw [← Ny193.out] at ho49 | (simp only [Int.reduceToNat] at ho49; rw [← Ny193.out] at ho49)); have HO195 := asd (Kd.R_lower ho49 (keep_size (w := w) (g := g) (row := none) (by repeat (first | (with_reducible first | exact HK.out | apply KeepBut.set_ | apply keep_drewN | apply keep_drew | apply keep_alloc | refine keep_far ?_ GW161.out _ | refine keep_far ?_ GW175.out _) | exact HK.out)))); replace BK161 := bB BK161 hb; replace BK175 := bB BK175 hb; replace HK := asd (KeepBut.trans (by repeat (first | (with_reducible first | exact HK.out | apply KeepBut.set_ | apply keep_drewN | apply keep_drew | apply keep_alloc | refine keep_far ?_ GW161.out _ | refine keep_far ?_ GW175.out _) | exact HK.out)) (KeepBut.of_below hb g none) (.inl rfl)); replace HB := asd (below_step (by repeat (first | (with_reducible first | exact HB.out | apply below_alloc | apply pw_below_drewN | apply below_drew1 | refine below_set ?_ (IsS106.ge HI0.out) | refine below_set ?_ GE161.out | refine below_set ?_ GE175.out) | exact HB.out)) hb); replace HI0 := asd (IsS106.below (by repeat (first | (with_reducible first | exact HI0.out | apply IsS106.alloc | apply IsS106.drewN | apply IsS106.drew | apply IsS106.set_1 | apply IsS106.set_2 | refine IsS106.far ?_ NB0_161.out _ | refine IsS106.far ?_ NB0_175.out _) | exact HI0.out)) hb); clear hb ho49; obtain ⟨Ao50, co50, eo50⟩ := Kd.R_slice HO195.out; subst eo50) | ((with_reducible refine gate_callee (f := 95) rfl ?_); refine gl 41 Tryz.func95 #[.pointer (some ⟨g, 0, none⟩), .slice Ao50 y193.length co50] ?_; (with_reducible refine (spec_l01Pick.calls _ _ _ _ _ _ _ _ _ _ w0 _ ?side1 ?side2 ?side3 ?side4 ?side5 A46.out).mono ?_); (case side1 => repeat (first | (with_reducible first | exact HI0.out | apply IsS106.alloc | apply IsS106.drewN | apply IsS106.drew | apply IsS106.set_1 | apply IsS106.set_2 | refine IsS106.far ?_ NB0_161.out _ | refine IsS106.far ?_ NB0_175.out _) | exact HI0.out)); (case side2 => repeat (first | (with_reducible first | exact HB.out | apply below_alloc | apply pw_below_drewN | apply below_drew1 | refine below_set ?_ (IsS106.ge HI0.out) | refine below_set ?_ GE161.out | refine below_set ?_ GE175.out) | exact HB.out)); (case side3 => exact ks (Kd.R_reads' HO195.out).2.2); (case side4 => exact (Kd.R_reads' HO195.out).2.1); (case side5 => exact far_slice (IsS106.own_ne HI0.out HO195.out (by decide))); rintro e w51 ⟨rfl, hi, hb, hk⟩; refine ⟨_, rfl, ?_⟩; replace BK161 := asd (KeepBut.blk hk (g' := gb161) (o := .cells #[.int .i64 0, .int .i64 0, .int .i64 0, .int .i64 0] 25 (0, 0)) (bkp BK161) NB161_0.out (by simp)); replace BK175 := asd (KeepBut.blk hk (g' := gb175) (o := .cells #[.int .i64 x176000_1, .int .i64 x176001_1, .int .i64 x176002_1, .int .i64 x176003_1] 25 (0, 0)) (bkp BK175) NB175_0.out (by simp)); replace HO195 := asd (Kd.R_mono (Kd.R_keep (IsS106.apart (show IsS106 w0 _ g s0_0 t191 t192 from by repeat (first | (with_reducible first | exact HI0.out | apply IsS106.alloc | apply IsS106.drewN | apply IsS106.drew | apply IsS106.set_1 | apply IsS106.set_2 | refine IsS106.far ?_ NB0_161.out _ | refine IsS106.far ?_ NB0_175.out _) | exact HI0.out)) (kr HO195) (by decide)) hk (fun _ h => h.2)) (fun _ h => h.1)); replace HK := asd (KeepBut.trans (by repeat (first | (with_reducible first | exact HK.out | apply KeepBut.set_ | apply keep_drewN | apply keep_drew | apply keep_alloc | refine keep_far ?_ GW161.out _ | refine keep_far ?_ GW175.out _) | exact HK.out)) hk (.inl rfl)); replace HB := asd (hb); replace HI0 := asd (hi); (try clear hb); (try clear hb2); (try clear hk); (try clear hi); have hnb52 := NB175_161.out; have hnc52 := NB161_175.out; have hnb53 := NB175_0.out; have hnc53 := NB0_175.out; obtain ⟨hcz54_0, hcz54_1, hcz54_2, hcz54_3, hfz54_0, hfz54_1, hfz54_2, hfz54_3⟩ := bz4 BK175; have hnb55 := NB161_0.out; have hnc55 := NB0_161.out; obtain ⟨hcz56_0, hcz56_1, hcz56_2, hcz56_3, hfz56_0, hfz56_1, hfz56_2, hfz56_3⟩ := bz4 BK161))
       refine bodyPost_ret (results_cell_row rfl _ _ gb161 25 #[.int .i64 1, .int .i64 t196, .int .i64 0, .int .i64 1] (0, 0) _ rfl (bq1 BK161 NB161_175) Tryz.underlying25 rfl (by kernel_rfl)) rfl ?_
       exact ⟨by first | rfl | (simp [errW_none, errW_some] <;> rfl) | (simp [*, errW_none, errW_some] <;> rfl), by repeat (first | (with_reducible first | exact HI0.out | apply IsS106.alloc | apply IsS106.drewN | apply IsS106.drew | apply IsS106.set_1 | apply IsS106.set_2 | refine IsS106.far ?_ NB0_161.out _ | refine IsS106.far ?_ NB0_175.out _) | exact HI0.out), by repeat (first | (with_reducible first | exact HB.out | apply below_alloc | apply pw_below_drewN | apply below_drew1 | refine below_set ?_ (IsS106.ge HI0.out) | refine below_set ?_ GE161.out | refine below_set ?_ GE175.out) | exact HB.out), by repeat (first | (with_reducible first | exact HK.out | apply KeepBut.set_ | apply keep_drewN | apply keep_drew | apply keep_alloc | refine keep_far ?_ GW161.out _ | refine keep_far ?_ GW175.out _) | exact HK.out)⟩
      ·rw [if_neg c45] at H
       have c45b0 : (t190 == 1) = false := beq_eq_false_iff_ne.mpr c45
       have c45b1 : (t190 != 1) = true := bne_iff_ne.mpr c45
       simp only [Option.some.injEq, Prod.mk.injEq] at H
       obtain ⟨rfl, rfl, rfl, rfl, rfl, rfl⟩ := H
       go_wp2_with (first | ((with_reducible refine gate_callee (f := 45) rfl ?_); refine gl 30 Tryz.func45 #[.pointer (some ⟨g, 0, none⟩), .int .i64 20] ?_; (with_reducible refine (spec_l01Next.calls _ _ _ _ _ _ _ _ w0 _ ?side1 ?side2 A37.out).mono ?_); (case side1 => repeat (first | (with_reducible first | exact HI0.out | apply IsS106.alloc | apply IsS106.drewN | apply IsS106.drew | apply IsS106.set_1 | apply IsS106.set_2 | refine IsS106.far ?_ NB0_161.out _ | refine IsS106.far ?_ NB0_175.out _) | exact HI0.out)); (case side2 => repeat (first | (with_reducible first | exact HB.out | apply below_alloc | apply pw_below_drewN | apply below_drew1 | refine below_set ?_ (IsS106.ge HI0.out) | refine below_set ?_ GE161.out | refine below_set ?_ GE175.out) | exact HB.out)); rintro e w57 ⟨rfl, hi, hb, hk⟩; refine ⟨_, rfl, ?_⟩; replace BK161 := asd (KeepBut.blk hk (g' := gb161) (o := .cells #[.int .i64 0, .int .i64 0, .int .i64 0, .int .i64 0] 25 (0, 0)) (bkp BK161) NB161_0.out (by simp)); replace BK175 := asd (KeepBut.blk hk (g' := gb175) (o := .cells #[.int .i64 x176000_1, .int .i64 x176001_1, .int .i64 x176002_1, .int .i64 x176003_1] 25 (0, 0)) (bkp BK175) NB175_0.out (by simp)); replace HK := asd (KeepBut.trans (by repeat (first | (with_reducible first | exact HK.out | apply KeepBut.set_ | apply keep_drewN | apply keep_drew | apply keep_alloc | refine keep_far ?_ GW161.out _ | refine keep_far ?_ GW175.out _) | exact HK.out)) hk (.inl rfl)); replace HB := asd (hb); replace HI0 := asd (hi); (try clear hb); (try clear hb2); (try clear hk); (try clear hi); have hnb58 := NB175_161.out; have hnc58 := NB161_175.out; have hnb59 := NB175_0.out; have hnc59 := NB0_175.out; obtain ⟨hcz60_0, hcz60_1, hcz60_2, hcz60_3, hfz60_0, hfz60_1, hfz60_2, hfz60_3⟩ := bz4 BK175; have hnb61 := NB161_0.out; have hnc61 := NB0_161.out; obtain ⟨hcz62_0, hcz62_1, hcz62_2, hcz62_3, hfz62_0, hfz62_1, hfz62_2, hfz62_3⟩ := bz4 BK161))
       refine bodyPost_ret (results_cell_row rfl _ _ gb161 25 #[.int .i64 x176000_1, .int .i64 x176001_1, .int .i64 x176002_1, .int .i64 x176003_1] (0, 0) _ rfl (bq0 BK161) Tryz.underlying25 rfl (by kernel_rfl)) rfl ?_
       exact ⟨by first | rfl | (simp [errW_none, errW_some] <;> rfl) | (simp [*, errW_none, errW_some] <;> rfl), by repeat (first | (with_reducible first | exact HI0.out | apply IsS106.alloc | apply IsS106.drewN | apply IsS106.drew | apply IsS106.set_1 | apply IsS106.set_2 | refine IsS106.far ?_ NB0_161.out _ | refine IsS106.far ?_ NB0_175.out _) | exact HI0.out), by repeat (first | (with_reducible first | exact HB.out | apply below_alloc | apply pw_below_drewN | apply below_drew1 | refine below_set ?_ (IsS106.ge HI0.out) | refine below_set ?_ GE161.out | refine below_set ?_ GE175.out) | exact HB.out), by repeat (first | (with_reducible first | exact HK.out | apply KeepBut.set_ | apply keep_drewN | apply keep_drew | apply keep_alloc | refine keep_far ?_ GW161.out _ | refine keep_far ?_ GW175.out _) | exact HK.out)⟩

/-! ### spec_IsFrame: function 121 -/
def spec_IsFrame.f (a0 : Int) : Option (Bool) := if a0 = 0 then (some true) else (some (a0 == 1))
set_option maxHeartbeats 8000000 in
set_option maxRecDepth 100000 in
theorem spec_IsFrame.calls (a0 : Int) (r : Bool) (w : World) (h : spec_IsFrame.f a0 = some r) :
  Calls Tryz.prog 121 #[.int .i64 a0] w fun e w' => e = .returned (.bool r) ∧ Drawn0 w w' := by
 have H : (if a0 = 0 then (some true) else (some (a0 == 1))) = some r := h
 clear h
 by_cases c2 : a0 = 0
 ·rw [if_pos c2] at H
  have c2b0 : (a0 == 0) = true := beq_iff_eq.mpr c2
  have c2b1 : (a0 != 0) = false := bne_eq_false_iff_eq.mpr c2
  clear c2
  obtain rfl := Option.some.inj H
  go_enter Tryz.func121, Tryz.ntmps121
  go_wp2
  go_ret
  exact ⟨by first | rfl | (simp; done) | (simp [*]; done), by repeat (first | exact Drawn0.refl _ | apply Drawn0.step)⟩
 ·rw [if_neg c2] at H
  have c2b0 : (a0 == 0) = false := beq_eq_false_iff_ne.mpr c2
  have c2b1 : (a0 != 0) = true := bne_iff_ne.mpr c2
  obtain rfl := Option.some.inj H
  go_enter Tryz.func121, Tryz.ntmps121
  go_wp2
  go_ret
  exact ⟨by first | rfl | (simp; done) | (simp [*]; done), by repeat (first | exact Drawn0.refl _ | apply Drawn0.step)⟩
/-! ### spec_l01Add: function 127 -/
def spec_l01Add.f (a0_0 : Int) (a0_1 : Int) (a1_0 : Int) (a1_1 : Int) : Option (Int × Int) := some (wrap64 (a0_0 + a1_0), wrap64 (a0_1 + a1_1))
set_option maxHeartbeats 8000000 in
set_option maxRecDepth 100000 in
theorem spec_l01Add.calls (a0_0 : Int) (a0_1 : Int) (a1_0 : Int) (a1_1 : Int) (r1 : Int) (r2 : Int) (w : World) (h : spec_l01Add.f a0_0 a0_1 a1_0 a1_1 = some (r1, r2)) :
  Calls Tryz.prog 127 #[.agg #[.int .i64 a0_0, .int .i64 a0_1], .agg #[.int .i64 a1_0, .int .i64 a1_1]] w fun e w' => e = .returned (.agg #[.int .i64 r1, .int .i64 r2]) ∧ Below w.heap.size w w' := by
 have hu27 := Tryz.underlying27
 have HB := asd (Below.refl w.heap.size w)
 have H : (some (wrap64 (a0_0 + a1_0), wrap64 (a0_1 + a1_1))) = some (r1, r2) := h
 clear h
 simp only [Option.some.injEq, Prod.mk.injEq] at H
 obtain ⟨rfl, rfl⟩ := H
 go_enter Tryz.func127, Tryz.ntmps127
 go_wp2_with (first | ((with_reducible refine gd 2 rfl ?_); refine bx #[.int .i64 a0_0, .int .i64 a0_1] 27 ?_; intro gb199 hg w3 BK199 hb; have GE199 := ngw0 hg HB; replace HB := bS0 HB hb; clear hb hg) | ((with_reducible refine gd 3 rfl ?_); refine bx #[.int .i64 a1_0, .int .i64 a1_1] 27 ?_; intro gb200 hg w4 BK200 hb; have GE200 := ngw1 hg HB GE199; replace HB := bS1 HB GE199 hb; have NB199_200 := nlt hg BK199; have NB200_199 := nsy (nlt hg BK199); replace BK199 := bB BK199 hb; clear hb hg) | ((with_reducible refine gd 4 rfl ?_); refine bx #[.int .i64 0, .int .i64 0] 27 ?_; intro gb201 hg w5 BK201 hb; have GE201 := ngw2 hg HB GE199 GE200; replace HB := bS2 HB GE199 GE200 hb; have NB199_201 := nlt hg BK199; have NB201_199 := nsy (nlt hg BK199); replace BK199 := bB BK199 hb; have NB200_201 := nlt hg BK200; have NB201_200 := nsy (nlt hg BK200); replace BK200 := bB BK200 hb; clear hb hg; have hnb6 := NB199_200.out; have hnc6 := NB200_199.out; have hnb7 := NB199_201.out; have hnc7 := NB201_199.out; obtain ⟨hcz8_0, hcz8_1, hfz8_0, hfz8_1⟩ := bz2 BK199; have hnb9 := NB200_201.out; have hnc9 := NB201_200.out; obtain ⟨hcz10_0, hcz10_1, hfz10_0, hfz10_1⟩ := bz2 BK200; obtain ⟨hcz11_0, hcz11_1, hfz11_0, hfz11_1⟩ := bz2 BK201))
 refine bodyPost_ret (results_cell_row rfl _ _ gb201 27 #[.int .i64 (wrap64 (a0_0 + a1_0)), .int .i64 (wrap64 (a0_1 + a1_1))] (0, 0) _ rfl (bq0 BK201) Tryz.underlying27 rfl (by kernel_rfl)) rfl ?_
 exact er (bbw3 HB GE199 GE200 GE201)
/-! ### spec_l04Norm: function 170 -/
def spec_l04Norm.f (a0 : Int) (a1_0 : Int) (a1_1 : Int) : Option (Int) := if a0 = 1 then (some (wrap64 ((wrap64 ((wrap64 (a1_0 * a1_0)) + (wrap64 (a1_1 * a1_1)))) + (wrap64 (a1_0 * a1_1))))) else (some (wrap64 ((wrap64 (a1_0 * a1_0)) + (wrap64 (a1_1 * a1_1)))))
set_option maxHeartbeats 8000000 in
set_option maxRecDepth 100000 in
theorem spec_l04Norm.calls (a0 : Int) (a1_0 : Int) (a1_1 : Int) (r : Int) (w : World) (h : spec_l04Norm.f a0 a1_0 a1_1 = some r) :
  Calls Tryz.prog 170 #[.int .i64 a0, .agg #[.int .i64 a1_0, .int .i64 a1_1]] w fun e w' => e = .returned (.int .i64 r) ∧ Below w.heap.size w w' := by
 have hu27 := Tryz.underlying27
 have HB := asd (Below.refl w.heap.size w)
 have H : (if a0 = 1 then (some (wrap64 ((wrap64 ((wrap64 (a1_0 * a1_0)) + (wrap64 (a1_1 * a1_1)))) + (wrap64 (a1_0 * a1_1))))) else (some (wrap64 ((wrap64 (a1_0 * a1_0)) + (wrap64 (a1_1 * a1_1)))))) = some r := h
 clear h
 by_cases c3 : a0 = 1
 rw [if_pos c3] at H
 have c3b0 : (a0 == 1) = true := beq_iff_eq.mpr c3
 have c3b1 : (a0 != 1) = false := bne_eq_false_iff_eq.mpr c3
 clear c3
 obtain rfl := Option.some.inj H
 rotate_left
 rw [if_neg c3] at H
 have c3b0 : (a0 == 1) = false := beq_eq_false_iff_ne.mpr c3
 have c3b1 : (a0 != 1) = true := bne_iff_ne.mpr c3
 obtain rfl := Option.some.inj H
 rotate_left
 all_goals
  go_enter Tryz.func170, Tryz.ntmps170
  go_wp2_with (first | ((with_reducible refine gd 3 rfl ?_); refine bx #[.int .i64 a1_0, .int .i64 a1_1] 27 ?_; intro gb202 hg w4 BK202 hb; have GE202 := ngw0 hg HB; replace HB := bS0 HB hb; clear hb hg; obtain ⟨hcz5_0, hcz5_1, hfz5_0, hfz5_1⟩ := bz2 BK202))
  go_ret
  exact er (bbw1 HB GE202)
/-! ### spec_l04Keeps: function 151 -/
def spec_l04Keeps.f (a0 : Int) (a1_0 : Int) (a1_1 : Int) (a1_2 : Int) (a1_3 : Int) : Option (Bool) := (spec_l04Norm.f a0 a1_0 a1_2).bind fun t206 => (if t206 = 1 then ((spec_l04Norm.f a0 a1_1 a1_3).bind fun t207 => (if t207 = 1 then ((spec_l01Add.f a1_0 a1_2 a1_1 a1_3).bind fun bt208 => ((spec_l04Norm.f a0 bt208.1 bt208.2).bind fun t210 => (some (t210 == (wrap64 (2 + a0)))))) else (some false))) else (some false))
def spec_l04Keeps.T1 : Bool × List (List Nat × List Nat) := (true, [([], []), ([0], [0]), ([], []), ([2], [2]), ([1, 3], [1, 3]), ([], []), ([5], [5]), ([], []), ([7], [7]), ([6, 8], [6, 8]), ([], []), ([], []), ([10, 4, 0, 1, 2, 3, 4, 10, 11], [4, 10]), ([11, 9, 12, 0, 1, 2, 3, 4, 5, 6, 7, 8, 9, 10, 11, 12], [9, 11])])
def spec_l04Keeps.B1 : List Nat := [0, 1, 0, 4, 15, 0, 32, 0, 128, 480, 0, 0, 3103, 8191]
theorem spec_l04Keeps.tab1 : rtab .any (opsOf Tryz.f151 1) = spec_l04Keeps.T1 := by kernel_rfl
theorem spec_l04Keeps.bits1 : waitsOk spec_l04Keeps.T1.2 spec_l04Keeps.B1 = true := by kernel_rfl
set_option maxHeartbeats 8000000 in
set_option maxRecDepth 100000 in
theorem spec_l04Keeps.calls (a0 : Int) (a1_0 : Int) (a1_1 : Int) (a1_2 : Int) (a1_3 : Int) (r : Bool) (w : World) (h : spec_l04Keeps.f a0 a1_0 a1_1 a1_2 a1_3 = some r) :
  Calls Tryz.prog 151 #[.int .i64 a0, .agg #[.int .i64 a1_0, .int .i64 a1_1, .int .i64 a1_2, .int .i64 a1_3]] w fun e w' => e = .returned (.bool r) ∧ Below w.heap.size w w' := by
 have hu25 := Tryz.underlying25
 have hu27 := Tryz.underlying27
 have HB := asd (Below.refl w.heap.size w)
 have H : ((spec_l04Norm.f a0 a1_0 a1_2).bind fun t206 => (if t206 = 1 then ((spec_l04Norm.f a0 a1_1 a1_3).bind fun t207 => (if t207 = 1 then ((spec_l01Add.f a1_0 a1_2 a1_1 a1_3).bind fun bt208 => ((spec_l04Norm.f a0 bt208.1 bt208.2).bind fun t210 => (some (t210 == (wrap64 (2 + a0)))))) else (some false))) else (some false))) = some r := h
 clear h
 obtain ⟨t206, A3, H⟩ := ob H
 try dsimp only at H
 by_cases c4 : t206 = 1
 rw [if_pos c4] at H
 have c4b0 : (t206 == 1) = true := beq_iff_eq.mpr c4
 have c4b1 : (t206 != 1) = false := bne_eq_false_iff_eq.mpr c4
 clear c4
 obtain ⟨t207, A5, H⟩ := ob H
 try dsimp only at H
 by_cases c6 : t207 = 1
 rw [if_pos c6] at H
 have c6b0 : (t207 == 1) = true := beq_iff_eq.mpr c6
 have c6b1 : (t207 != 1) = false := bne_eq_false_iff_eq.mpr c6
 clear c6
 obtain ⟨⟨t208, t209⟩, A7, H⟩ := ob H
 try dsimp only at H
 obtain ⟨t210, A8, H⟩ := ob H
 try dsimp only at H
 obtain rfl := Option.some.inj H
 rotate_left
 rw [if_neg c6] at H
 have c6b0 : (t207 == 1) = false := beq_eq_false_iff_ne.mpr c6
 have c6b1 : (t207 != 1) = true := bne_iff_ne.mpr c6
 obtain rfl := Option.some.inj H
 rotate_left
 rw [if_neg c4] at H
 have c4b0 : (t206 == 1) = false := beq_eq_false_iff_ne.mpr c4
 have c4b1 : (t206 != 1) = true := bne_iff_ne.mpr c4
 obtain rfl := Option.some.inj H
 rotate_left
 all_goals
  go_enter Tryz.func151, Tryz.ntmps151
  try go_wp2_with (first | ((with_reducible refine gd 3 rfl ?_); refine bx #[.int .i64 a1_0, .int .i64 a1_1, .int .i64 a1_2, .int .i64 a1_3] 25 ?_; intro gb203 hg w9 BK203 hb; have GE203 := ngw0 hg HB; replace HB := bS0 HB hb; clear hb hg))
  replace BK203 := asd (blk_drew BK203.out)
  replace HB := asd (below_drew1 HB.out)
  refine sh 14 (eb4 BK203) (fun hHeld => ?_); refine with_tabW spec_l04Keeps.tab1 spec_l04Keeps.bits1 (fun HT_ HW_ => ?_)
  generalize w9.drew = w10 at BK203 HB hHeld ⊢
  refine pu 0 (some 7) (bT 14 1) HT_ ?_
  refine pu 2 (some 9) (bs 14 5) HT_ ?_
  refine pu 5 (some 12) (bs 14 37) HT_ ?_
  refine pu 7 (some 14) (bs 14 165) HT_ ?_
  refine ta 1 (some 8) (bs 14 167) HT_ HW_ hHeld ?_
  refine ta 3 (some 10) (bs 14 175) HT_ HW_ hHeld ?_
  refine pu 4 (some 11) (bs 14 191) HT_ ?_
  refine ta 6 (some 13) (bT 14 8) HT_ HW_ hHeld ?_
  refine ta 8 (some 15) (bT 14 9) HT_ HW_ hHeld ?_
  refine pu 9 (some 16) (bT 14 10) HT_ ?_
  refine join_ (σ := Nat × Nat) 2 (bT 14 12) (fun s_ => [(5, .pointer (some ⟨s_.1, 0, none⟩)), (6, .pointer (some ⟨s_.2, 0, none⟩))]) (fun s_ w' => (w'.cell? ⟨gb203, 0, none⟩ = some (.int .i64 a1_0) ∧ w'.cell? ⟨gb203, 1, none⟩ = some (.int .i64 a1_1) ∧ w'.cell? ⟨gb203, 2, none⟩ = some (.int .i64 a1_2) ∧ w'.cell? ⟨gb203, 3, none⟩ = some (.int .i64 a1_3)) ∧ (w'.heap[gb203]? = some (.cells #[.int .i64 a1_0, .int .i64 a1_1, .int .i64 a1_2, .int .i64 a1_3] 25 (0, 0))) ∧ (w'.heap[s_.1]? = some (.cells #[.int .i64 0, .int .i64 0] 27 (0, 0))) ∧ (w'.heap[s_.2]? = some (.cells #[.int .i64 0, .int .i64 0] 27 (0, 0))) ∧ (w.heap.size ≤ s_.1) ∧ (w.heap.size ≤ s_.1) ∧ (gb203 ≠ s_.1) ∧ (s_.1 ≠ gb203) ∧ (s_.2 ≠ s_.1) ∧ (s_.1 ≠ s_.2) ∧ (w.heap.size ≤ s_.2) ∧ (w.heap.size ≤ s_.2) ∧ (gb203 ≠ s_.2) ∧ (s_.2 ≠ gb203) ∧ (Below w.heap.size w w')) ?_ ?_
  rotate_left
  ·intro hCont
   refine two_ (i := 10) (j := 11) (Ni := some 5) (Nj := some 6) (bT 14 11) (bs 14 3071) rfl rfl rfl rfl (two_of HT_.out (by kernel_rfl)) (by decide) (by decide) (fun K hK => ?_) (fun K hK => ?_)
   ·skip
    refine box_step ?hg (N := 5) ?hd (cs := #[.int .i64 0, .int .i64 0]) (t := 27) ?hr ?_; (case hd => rfl); (case hg => rfl); (case hr => first | (go_simp; done) | (go_simp; rfl))
    intro gb204 hg w11 hbox hb
    have BK204 := asd (hbox)
    have GW204 := ngw1 hg HB GE203
    have GE204 := ngw1 hg HB GE203
    replace HB := bS1 HB GE203 hb
    have NB203_204 := nlt hg BK203
    have NB204_203 := nsy (nlt hg BK203)
    replace BK203 := bB BK203 hb
    clear hb hbox hg
    refine hK.out _ _ (eb4 BK203).out (fun hHeld => ?_)
    clear hK K
    refine norm_ (a' := ?_) ?_ ?_
    rotate_left
    ·show Act.put _ (some 5) _ = _
     simp only [Act.put, sA, sB, sC, i64_w, i32_w]
     rfl
    refine ro 11 (some 6) (bT 14 12) HT_ (fun K hK => ?_)
    refine box_step ?hg (N := 6) ?hd (cs := #[.int .i64 0, .int .i64 0]) (t := 27) ?hr ?_; (case hd => rfl); (case hg => rfl); (case hr => first | (go_simp; done) | (go_simp; rfl))
    intro gb205 hg w12 hbox hb
    have BK205 := asd (hbox)
    have GW205 := ngw2 hg HB GE203 GE204
    have GE205 := ngw2 hg HB GE203 GE204
    replace HB := bS2 HB GE203 GE204 hb
    have NB203_205 := nlt hg BK203
    have NB205_203 := nsy (nlt hg BK203)
    replace BK203 := bB BK203 hb
    have NB204_205 := nlt hg BK204
    have NB205_204 := nsy (nlt hg BK204)
    replace BK204 := bB BK204 hb
    clear hb hbox hg
    refine hK.out _ _ (eb4 BK203).out (fun hHeld => ?_)
    clear hK K
    refine norm_ (a' := ?_) ?_ ?_
    rotate_left
    ·show Act.put _ (some 6) _ = _
     simp only [Act.put, sA, sB, sC, i64_w, i32_w]
     rfl
    exact norm_ (by simp only [putAll, Act.put, sA, sB, sC]) (hCont (gb204, gb205) _ ⟨hHeld, (bkp BK203), (bkp BK204), (bkp BK205), GW204.out, GE204.out, NB203_204.out, NB204_203.out, NB205_204.out, NB204_205.out, GW205.out, GE205.out, NB203_205.out, NB205_203.out, (bbw3 HB GE203 GE204 GE205)⟩)
   ·skip
    refine box_step ?hg (N := 6) ?hd (cs := #[.int .i64 0, .int .i64 0]) (t := 27) ?hr ?_; (case hd => rfl); (case hg => rfl); (case hr => first | (go_simp; done) | (go_simp; rfl))
    intro gb205 hg w11 hbox hb
    have BK205 := asd (hbox)
    have GW205 := ngw1 hg HB GE203
    have GE205 := ngw1 hg HB GE203
    replace HB := bS1 HB GE203 hb
    have NB203_205 := nlt hg BK203
    have NB205_203 := nsy (nlt hg BK203)
    replace BK203 := bB BK203 hb
    clear hb hbox hg
    refine hK.out _ _ (eb4 BK203).out (fun hHeld => ?_)
    clear hK K
    refine norm_ (a' := ?_) ?_ ?_
    rotate_left
    ·show Act.put _ (some 6) _ = _
     simp only [Act.put, sA, sB, sC, i64_w, i32_w]
     rfl
    refine ro 10 (some 5) (bT 14 12) HT_ (fun K hK => ?_)
    refine box_step ?hg (N := 5) ?hd (cs := #[.int .i64 0, .int .i64 0]) (t := 27) ?hr ?_; (case hd => rfl); (case hg => rfl); (case hr => first | (go_simp; done) | (go_simp; rfl))
    intro gb204 hg w12 hbox hb
    have BK204 := asd (hbox)
    have GW204 := ngw2 hg HB GE203 GE205
    have GE204 := ngw2 hg HB GE203 GE205
    replace HB := bS2 HB GE203 GE205 hb
    have NB203_204 := nlt hg BK203
    have NB204_203 := nsy (nlt hg BK203)
    replace BK203 := bB BK203 hb
    have NB205_204 := nlt hg BK205
    have NB204_205 := nsy (nlt hg BK205)
    replace BK205 := bB BK205 hb
    clear hb hbox hg
    refine hK.out _ _ (eb4 BK203).out (fun hHeld => ?_)
    clear hK K
    refine norm_ (a' := ?_) ?_ ?_
    rotate_left
    ·show Act.put _ (some 5) _ = _
     simp only [Act.put, sA, sB, sC, i64_w, i32_w]
     rfl
    exact norm_ (by simp only [putAll, Act.put, sA, sB, sC]) (hCont (gb204, gb205) _ ⟨hHeld, (bkp BK203), (bkp BK204), (bkp BK205), GW204.out, GE204.out, NB203_204.out, NB204_203.out, NB205_204.out, NB204_205.out, GW205.out, GE205.out, NB203_205.out, NB205_203.out, (bbw3 HB GE203 GE205 GE204)⟩)
  rintro ⟨gb204, gb205⟩ w13 ⟨hS_, h0_, h1_, h2_, h3_, h4_, h5_, h6_, h7_, h8_, h9_, h10_, h11_, h12_, h13_⟩
  have n0_ : Aside0 (w13.heap[gb203]? = some (.cells #[.int .i64 a1_0, .int .i64 a1_1, .int .i64 a1_2, .int .i64 a1_3] 25 (0, 0))) := ⟨h0_⟩
  have n1_ : Aside0 (w13.heap[gb204]? = some (.cells #[.int .i64 0, .int .i64 0] 27 (0, 0))) := ⟨h1_⟩
  have n2_ : Aside0 (w13.heap[gb205]? = some (.cells #[.int .i64 0, .int .i64 0] 27 (0, 0))) := ⟨h2_⟩
  have n3_ : Aside0 (w.heap.size ≤ gb204) := ⟨h3_⟩
  have n4_ : Aside0 (w.heap.size ≤ gb204) := ⟨h4_⟩
  have n5_ : Aside0 (gb203 ≠ gb204) := ⟨h5_⟩
  have n6_ : Aside0 (gb204 ≠ gb203) := ⟨h6_⟩
  have n7_ : Aside0 (gb205 ≠ gb204) := ⟨h7_⟩
  have n8_ : Aside0 (gb204 ≠ gb205) := ⟨h8_⟩
  have n9_ : Aside0 (w.heap.size ≤ gb205) := ⟨h9_⟩
  have n10_ : Aside0 (w.heap.size ≤ gb205) := ⟨h10_⟩
  have n11_ : Aside0 (gb203 ≠ gb205) := ⟨h11_⟩
  have n12_ : Aside0 (gb205 ≠ gb203) := ⟨h12_⟩
  have n13_ : Aside0 (Below w.heap.size w w13) := ⟨h13_⟩
  clear BK203
  clear HB
  clear h0_ h1_ h2_ h3_ h4_ h5_ h6_ h7_ h8_ h9_ h10_ h11_ h12_ h13_
  have BK203 := n0_
  have BK204 := n1_
  have BK205 := n2_
  have GW204 := n3_
  have GE204 := n4_
  have NB203_204 := n5_
  have NB204_203 := n6_
  have NB205_204 := n7_
  have NB204_205 := n8_
  have GW205 := n9_
  have GE205 := n10_
  have NB203_205 := n11_
  have NB205_203 := n12_
  have HB := n13_
  clear n0_ n1_ n2_ n3_ n4_ n5_ n6_ n7_ n8_ n9_ n10_ n11_ n12_ n13_
  have hHeld : w13.cell? ⟨gb203, 0, none⟩ = some (.int .i64 a1_0) ∧ w13.cell? ⟨gb203, 1, none⟩ = some (.int .i64 a1_1) ∧ w13.cell? ⟨gb203, 2, none⟩ = some (.int .i64 a1_2) ∧ w13.cell? ⟨gb203, 3, none⟩ = some (.int .i64 a1_3) := hS_
  refine norm_ (a' := ?_) ?_ ?_
  rotate_left
  ·simp only [putAll, Act.put, sA, sB, sC]
   rfl
  refine ro 12 (none) (bT 14 13) HT_ (fun K hK => ?_)
  have hs14 : w13.cell? ⟨gb204, 0, none⟩ = some (.int .i64 0) := bcl BK204 0
  have hfs14 := blk_frozen BK204.out 0
  have hns14_0 := NB203_204.out
  have hns14_2 := NB205_204.out
  have hms14_0 := NB204_203.out
  have hms14_2 := NB204_205.out
  have hs15 : w13.cell? ⟨gb204, 1, none⟩ = some (.int .i64 0) := bcl BK204 1
  have hfs15 := blk_frozen BK204.out 1
  have hns15_0 := NB203_204.out
  have hns15_2 := NB205_204.out
  have hms15_0 := NB204_203.out
  have hms15_2 := NB204_205.out
  refine skip_ (w1 := ?_) (by rfl) rfl ?_ ?_
  rotate_left
  ·go_simp
   rfl
  refine hK.out _ _ ⟨(cf2 NB203_204 (hHeld.1)), (cf2 NB203_204 (hHeld.2.1)), (cf2 NB203_204 (hHeld.2.2.1)), (cf2 NB203_204 (hHeld.2.2.2))⟩ (fun hHeld => ?_)
  clear hK K
  refine ro 13 (none) (bT 14 14) HT_ (fun K hK => ?_)
  have hs16 : w13.cell? ⟨gb205, 0, none⟩ = some (.int .i64 0) := bcl BK205 0
  have hfs16 := blk_frozen BK205.out 0
  have hns16_0 := NB203_205.out
  have hns16_1 := NB204_205.out
  have hms16_0 := NB205_203.out
  have hms16_1 := NB205_204.out
  have hs17 : w13.cell? ⟨gb205, 1, none⟩ = some (.int .i64 0) := bcl BK205 1
  have hfs17 := blk_frozen BK205.out 1
  have hns17_0 := NB203_205.out
  have hns17_1 := NB204_205.out
  have hms17_0 := NB205_203.out
  have hms17_1 := NB205_204.out
  refine skip_ (w1 := ?_) (by rfl) rfl ?_ ?_
  rotate_left
  ·go_simp
   rfl
  refine hK.out _ _ ⟨(cf2 NB203_205 (hHeld.1)), (cf2 NB203_205 (hHeld.2.1)), (cf2 NB203_205 (hHeld.2.2.1)), (cf2 NB203_205 (hHeld.2.2.2))⟩ (fun hHeld => ?_)
  clear hK K
  refine done_ (done_of HT_.out (by kernel_rfl)) ?_
  have hnb18 := NB204_203.out
  have hnc18 := NB203_204.out
  have hnb19 := NB204_205.out
  have hnc19 := NB205_204.out
  obtain ⟨hcz20_0, hcz20_1, hfz20_0, hfz20_1⟩ := bz2 BK204
 try go_wp2_with (first | ((with_reducible refine gate_callee (f := 170) rfl ?_); refine gl 19 Tryz.func170 #[.int .i64 a0, .agg #[.int .i64 a1_0, .int .i64 a1_2]] ?_; (with_reducible refine (spec_l04Norm.calls _ _ _ _ _ A3.out).mono ?_); rintro e w21 ⟨rfl, hb⟩; refine ⟨_, rfl, ?_⟩; replace BK203 := asd (blk_below (g := gb203) (o := .cells #[.int .i64 a1_0, .int .i64 a1_1, .int .i64 a1_2, .int .i64 a1_3] 25 (0, 0)) (bq2 BK203 NB203_205 NB203_204) hb); replace BK204 := asd (blk_below (g := gb204) (o := .cells #[.int .i64 a1_0, .int .i64 a1_2] 27 (0, 0)) (bq1 BK204 NB204_205) hb); replace BK205 := asd (blk_below (g := gb205) (o := .cells #[.int .i64 a1_1, .int .i64 a1_3] 27 (0, 0)) (bq1 BK205 NB205_204) hb); replace HB := bS3 HB GE203 GE204 GE205 hb; (try clear hb); have hnb22 := NB205_203.out; have hnc22 := NB203_205.out; obtain ⟨hcz23_0, hcz23_1, hfz23_0, hfz23_1⟩ := bz2 BK205) | (go_at_call 170; (with_reducible refine (spec_l04Norm.calls _ _ _ _ _ A5.out).mono ?_); rintro e w24 ⟨rfl, hb⟩; replace BK203 := bB BK203 hb; replace BK204 := bB BK204 hb; replace BK205 := bB BK205 hb; replace HB := bS3 HB GE203 GE204 GE205 hb; (try clear hb); obtain ⟨hcz25_0, hcz25_1, hfz25_0, hfz25_1⟩ := bz2 BK204; obtain ⟨hcz26_0, hcz26_1, hfz26_0, hfz26_1⟩ := bz2 BK205) | (go_at_call 127; (with_reducible refine (spec_l01Add.calls _ _ _ _ _ _ _ A7.out).mono ?_); rintro e w27 ⟨rfl, hb⟩; replace BK203 := bB BK203 hb; replace BK204 := bB BK204 hb; replace BK205 := bB BK205 hb; replace HB := bS3 HB GE203 GE204 GE205 hb; (try clear hb)) | (go_at_call 170; (with_reducible refine (spec_l04Norm.calls _ _ _ _ _ A8.out).mono ?_); rintro e w28 ⟨rfl, hb⟩; replace BK203 := bB BK203 hb; replace BK204 := bB BK204 hb; replace BK205 := bB BK205 hb; replace HB := bS3 HB GE203 GE204 GE205 hb; (try clear hb)))
 rotate_left
 try go_wp2_with (first | ((with_reducible refine gate_callee (f := 170) rfl ?_); refine gl 19 Tryz.func170 #[.int .i64 a0, .agg #[.int .i64 a1_0, .int .i64 a1_2]] ?_; (with_reducible refine (spec_l04Norm.calls _ _ _ _ _ A3.out).mono ?_); rintro e w41 ⟨rfl, hb⟩; refine ⟨_, rfl, ?_⟩; replace BK203 := asd (blk_below (g := gb203) (o := .cells #[.int .i64 a1_0, .int .i64 a1_1, .int .i64 a1_2, .int .i64 a1_3] 25 (0, 0)) (bq2 BK203 NB203_205 NB203_204) hb); replace BK204 := asd (blk_below (g := gb204) (o := .cells #[.int .i64 a1_0, .int .i64 a1_2] 27 (0, 0)) (bq1 BK204 NB204_205) hb); replace BK205 := asd (blk_below (g := gb205) (o := .cells #[.int .i64 a1_1, .int .i64 a1_3] 27 (0, 0)) (bq1 BK205 NB205_204) hb); replace HB := bS3 HB GE203 GE204 GE205 hb; (try clear hb); have hnb42 := NB205_203.out; have hnc42 := NB203_205.out; obtain ⟨hcz43_0, hcz43_1, hfz43_0, hfz43_1⟩ := bz2 BK205) | (go_at_call 170; (with_reducible refine (spec_l04Norm.calls _ _ _ _ _ A5.out).mono ?_); rintro e w44 ⟨rfl, hb⟩; replace BK203 := bB BK203 hb; replace BK204 := bB BK204 hb; replace BK205 := bB BK205 hb; replace HB := bS3 HB GE203 GE204 GE205 hb; (try clear hb)))
 rotate_left
 try go_wp2_with (first | ((with_reducible refine gate_callee (f := 170) rfl ?_); refine gl 19 Tryz.func170 #[.int .i64 a0, .agg #[.int .i64 a1_0, .int .i64 a1_2]] ?_; (with_reducible refine (spec_l04Norm.calls _ _ _ _ _ A3.out).mono ?_); rintro e w57 ⟨rfl, hb⟩; refine ⟨_, rfl, ?_⟩; replace BK203 := asd (blk_below (g := gb203) (o := .cells #[.int .i64 a1_0, .int .i64 a1_1, .int .i64 a1_2, .int .i64 a1_3] 25 (0, 0)) (bq2 BK203 NB203_205 NB203_204) hb); replace BK204 := asd (blk_below (g := gb204) (o := .cells #[.int .i64 a1_0, .int .i64 a1_2] 27 (0, 0)) (bq1 BK204 NB204_205) hb); replace BK205 := asd (blk_below (g := gb205) (o := .cells #[.int .i64 a1_1, .int .i64 a1_3] 27 (0, 0)) (bq1 BK205 NB205_204) hb); replace HB := bS3 HB GE203 GE204 GE205 hb; (try clear hb)))
 rotate_left
 all_goals
  go_ret
  exact er (bbw3 HB GE203 GE204 GE205)

end Go.Proofs.YtnblfcibgokccaaGreatDoor.PC
