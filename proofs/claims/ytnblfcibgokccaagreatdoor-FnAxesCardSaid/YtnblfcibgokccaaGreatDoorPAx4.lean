/- Walks written by program: each Go function that the law reaches comes to the plain function beside it. -/
import Derived.Test.YtnblfcibgokccaaGreatDoorPAx0
import Derived.Test.YtnblfcibgokccaaGreatDoorPAx3
namespace Go.Proofs.YtnblfcibgokccaaGreatDoor.PA
open Go.RowKit Go.Proofs.YtnblfcibgokccaaGreatDoorW.PrintWords Go.Proofs.YtnblfcibgokccaaGreatDoorW.PrintLast Go.Proofs.YtnblfcibgokccaaGreatDoorW.PrintMore
attribute [local go_sem] max2_int min2_int max_two min_two max_three min_three max_four min_four   -- for this text's walks alone
set_option linter.unusedVariables false
set_option linter.unusedSimpArgs false

/-! ### spec_l02Draw: function 50 -/
def spec_l02Draw.l0 : Nat → Int → List Int → Int → Int → Int → Int → Int → Int → Option (Int × Int × Int × Int × Int × Int)
 | 0, _, _, _, _, _, _, _, _ => none
 | k + 1, x4, x1000, x1001, x1002, x178000, x178001, x178002, x178003 => if x4 > 0 then ((some (([(⟨1, 1, 0, 1⟩ : S25), (⟨1, 0, 1, 1⟩ : S25), (⟨1, (-2), 0, 1⟩ : S25), (⟨0, 1, 1, 0⟩ : S25), (⟨(-1), 0, 0, 1⟩ : S25)] : List (S25)) : List (S25))).bind fun y181 => ((spec_l01Next.f x1000 x1001 x1002 5).bind fun bt184 => (if 0 ≤ bt184.1 then (if bt184.1 < (y181.length : Int) then ((spec_l02Multiply.f x178000 x178001 x178002 x178003 ((rd_T25 y181 bt184.1).f0) ((rd_T25 y181 bt184.1).f1) ((rd_T25 y181 bt184.1).f2) ((rd_T25 y181 bt184.1).f3)).bind fun bt188 => (spec_l02Draw.l0 k (wrap64 (x4 - 1)) x1000 bt184.2.1 bt184.2.2 bt188.1 bt188.2.1 bt188.2.2.1 bt188.2.2.2)) else (none)) else (none)))) else ((spec_l01Next.f x1000 x1001 x1002 20).bind fun bt192 => (if bt192.1 = 0 then (some (wrap64 (x178000 + 1), x178001, x178002, x178003, bt192.2.1, bt192.2.2)) else (if bt192.1 = 1 then ((spec_l01Pick.f x1000 bt192.2.1 bt192.2.2 (([999, 1000, 1001] : List Int))).bind fun bt198 => (some (1, bt198.1, 0, 1, bt198.2.1, bt198.2.2))) else (some (x178000, x178001, x178002, x178003, bt192.2.1, bt192.2.2)))))
def spec_l02Draw.f (k : Nat) (s0_0 : List Int) (s0_1 : Int) (s0_2 : Int) : Option (Int × Int × Int × Int × Int × Int) := (spec_l01Next.f s0_0 s0_1 s0_2 3).bind fun bt164 => (if bt164.1 > 0 then ((spec_l02DrawFinite.f k s0_0 bt164.2.1 bt164.2.2).bind fun bt167 => (some (bt167.1, bt167.2.1, bt167.2.2.1, bt167.2.2.2.1, bt167.2.2.2.2.1, bt167.2.2.2.2.2))) else ((spec_l02Unit.f).bind fun bt173 => ((spec_l01Next.f s0_0 bt164.2.1 bt164.2.2 5).bind fun bt178 => (spec_l02Draw.l0 k bt178.1 s0_0 bt178.2.1 bt178.2.2 bt173.1 bt173.2.1 bt173.2.2.1 bt173.2.2.2))))
def spec_l02Draw.T7 : Bool × List (List Nat × List Nat) := (true, [([], []), ([], []), ([], []), ([], []), ([], []), ([], []), ([1, 2, 3, 4, 5], [1, 2, 3, 4, 5]), ([], []), ([7], [7]), ([6, 8], [6, 8]), ([9], [9]), ([0, 10, 8], [0, 10]), ([11, 11, 0, 1, 2, 3, 4, 5, 6, 7, 8, 9, 10, 11], [11])])
def spec_l02Draw.B7 : List Nat := [0, 0, 0, 0, 0, 0, 62, 0, 128, 510, 1022, 2047, 4095]
theorem spec_l02Draw.tab7 : rtab .any (opsOf Tryz.f50 7) = spec_l02Draw.T7 := by kernel_rfl
theorem spec_l02Draw.bits7 : waitsOk spec_l02Draw.T7.2 spec_l02Draw.B7 = true := by kernel_rfl
set_option maxHeartbeats 8000000 in
set_option maxRecDepth 100000 in
theorem spec_l02Draw.calls (k : Nat) (g : Nat) (s0_0 : List Int) (s0_1 : Int) (s0_2 : Int) (r1 : Int) (r2 : Int) (r3 : Int) (r4 : Int) (r5 : Int) (r6 : Int) (w0 w : World) (hI : IsS106 w0 w g s0_0 s0_1 s0_2) (hB : Below w0.heap.size w0 w) (h : spec_l02Draw.f k s0_0 s0_1 s0_2 = some (r1, r2, r3, r4, r5, r6)) :
  Calls Tryz.prog 50 #[.pointer (some ⟨g, 0, none⟩)] w fun e w' => e = .returned (.agg #[.int .i64 r1, .int .i64 r2, .int .i64 r3, .int .i64 r4]) ∧ IsS106 w0 w' g s0_0 r5 r6 ∧ Below w0.heap.size w0 w' ∧ KeepBut w w' g none := by
 have hu25 := Tryz.underlying25
 have HI0 := Aside0.mk hI
 have HK := asd (KeepBut.refl w g none)
 have HL := Aside0.mk hB.size
 clear hI
 have HW0 := Aside0.mk hB.size
 have HB := Aside0.mk hB
 clear hB
 have H : ((spec_l01Next.f s0_0 s0_1 s0_2 3).bind fun bt164 => (if bt164.1 > 0 then ((spec_l02DrawFinite.f k s0_0 bt164.2.1 bt164.2.2).bind fun bt167 => (some (bt167.1, bt167.2.1, bt167.2.2.1, bt167.2.2.2.1, bt167.2.2.2.2.1, bt167.2.2.2.2.2))) else ((spec_l02Unit.f).bind fun bt173 => ((spec_l01Next.f s0_0 bt164.2.1 bt164.2.2 5).bind fun bt178 => (spec_l02Draw.l0 k bt178.1 s0_0 bt178.2.1 bt178.2.2 bt173.1 bt173.2.1 bt173.2.2.1 bt173.2.2.2))))) = some (r1, r2, r3, r4, r5, r6) := h
 clear h
 obtain ⟨⟨t164, t165, t166⟩, A2, H⟩ := ob H
 try dsimp only at H
 by_cases c3 : t164 > 0
 ·rw [if_pos c3] at H
  have c3b0 : decide (0 < t164) = true := decide_eq_true c3
  clear c3
  obtain ⟨⟨t167, t168, t169, t170, t171, t172⟩, A4, H⟩ := ob H
  try dsimp only at H
  simp only [Option.some.injEq, Prod.mk.injEq] at H
  obtain ⟨rfl, rfl, rfl, rfl, rfl, rfl⟩ := H
  go_enter Tryz.func50, Tryz.ntmps50
  go_wp2_with (first | ((with_reducible refine gd 2 rfl ?_); refine bx #[.int .i64 0, .int .i64 0, .int .i64 0, .int .i64 0] 25 ?_; intro gb163 hg w5 BK163 hb; replace HB := asd (below_step (by repeat (first | (with_reducible first | exact HB.out | apply below_alloc | apply pw_below_drewN | apply below_drew1 | refine below_set ?_ (IsS106.ge HI0.out)) | exact HB.out)) hb); have GW163 := asd ((by rw [hg]; exact (keep_size (w := w) (g := g) (row := none) (by repeat (first | (with_reducible first | exact HK.out | apply KeepBut.set_ | apply keep_drewN | apply keep_drew | apply keep_alloc) | exact HK.out))) : w.heap.size ≤ gb163)); have GE163 := asd ((Nat.le_trans HW0.out (by rw [hg]; exact (keep_size (w := w) (g := g) (row := none) (by repeat (first | (with_reducible first | exact HK.out | apply KeepBut.set_ | apply keep_drewN | apply keep_drew | apply keep_alloc) | exact HK.out))) : w.heap.size ≤ gb163) : w0.heap.size ≤ gb163)); replace HK := asd (KeepBut.trans (by repeat (first | (with_reducible first | exact HK.out | apply KeepBut.set_ | apply keep_drewN | apply keep_drew | apply keep_alloc) | exact HK.out)) (KeepBut.of_below hb g none) (.inl rfl)); have NB0_163 := asd ((by rw [hg]; exact Nat.ne_of_lt (IsS106.lt (show IsS106 w0 _ g s0_0 s0_1 s0_2 from by repeat (first | (with_reducible first | exact HI0.out | apply IsS106.alloc | apply IsS106.drewN | apply IsS106.drew | apply IsS106.set_1 | apply IsS106.set_2) | exact HI0.out))) : g ≠ gb163)); have NB163_0 := asd ((by rw [hg]; exact Nat.ne_of_gt (IsS106.lt (show IsS106 w0 _ g s0_0 s0_1 s0_2 from by repeat (first | (with_reducible first | exact HI0.out | apply IsS106.alloc | apply IsS106.drewN | apply IsS106.drew | apply IsS106.set_1 | apply IsS106.set_2) | exact HI0.out))) : gb163 ≠ g)); replace HI0 := asd (IsS106.below (by repeat (first | (with_reducible first | exact HI0.out | apply IsS106.alloc | apply IsS106.drewN | apply IsS106.drew | apply IsS106.set_1 | apply IsS106.set_2) | exact HI0.out)) hb); clear hb hg) | ((with_reducible refine gate_callee (f := 45) rfl ?_); refine gl 6 Tryz.func45 #[.pointer (some ⟨g, 0, none⟩), .int .i64 3] ?_; (with_reducible refine (spec_l01Next.calls _ _ _ _ _ _ _ _ w0 _ ?side1 ?side2 A2.out).mono ?_); (case side1 => repeat (first | (with_reducible first | exact HI0.out | apply IsS106.alloc | apply IsS106.drewN | apply IsS106.drew | apply IsS106.set_1 | apply IsS106.set_2 | refine IsS106.far ?_ NB0_163.out _) | exact HI0.out)); (case side2 => repeat (first | (with_reducible first | exact HB.out | apply below_alloc | apply pw_below_drewN | apply below_drew1 | refine below_set ?_ (IsS106.ge HI0.out) | refine below_set ?_ GE163.out) | exact HB.out)); rintro e w6 ⟨rfl, hi, hb, hk⟩; refine ⟨_, rfl, ?_⟩; replace BK163 := asd (KeepBut.blk hk (g' := gb163) (o := .cells #[.int .i64 0, .int .i64 0, .int .i64 0, .int .i64 0] 25 (0, 0)) (bkp BK163) NB163_0.out (by simp)); replace HK := asd (KeepBut.trans (by repeat (first | (with_reducible first | exact HK.out | apply KeepBut.set_ | apply keep_drewN | apply keep_drew | apply keep_alloc | refine keep_far ?_ GW163.out _) | exact HK.out)) hk (.inl rfl)); replace HB := asd (hb); replace HI0 := asd (hi); (try clear hb); (try clear hb2); (try clear hk); (try clear hi)) | ((with_reducible refine gate_callee (f := 82) rfl ?_); refine gl 9 Tryz.func82 #[.pointer (some ⟨g, 0, none⟩)] ?_; (with_reducible refine (spec_l02DrawFinite.calls _ _ _ _ _ _ _ _ _ _ _ w0 _ ?side1 ?side2 A4.out).mono ?_); (case side1 => repeat (first | (with_reducible first | exact HI0.out | apply IsS106.alloc | apply IsS106.drewN | apply IsS106.drew | apply IsS106.set_1 | apply IsS106.set_2 | refine IsS106.far ?_ NB0_163.out _) | exact HI0.out)); (case side2 => repeat (first | (with_reducible first | exact HB.out | apply below_alloc | apply pw_below_drewN | apply below_drew1 | refine below_set ?_ (IsS106.ge HI0.out) | refine below_set ?_ GE163.out) | exact HB.out)); rintro e w7 ⟨rfl, hi, hb, hk⟩; refine ⟨_, rfl, ?_⟩; replace BK163 := asd (KeepBut.blk hk (g' := gb163) (o := .cells #[.int .i64 0, .int .i64 0, .int .i64 0, .int .i64 0] 25 (0, 0)) (bkp BK163) NB163_0.out (by simp)); replace HK := asd (KeepBut.trans (by repeat (first | (with_reducible first | exact HK.out | apply KeepBut.set_ | apply keep_drewN | apply keep_drew | apply keep_alloc | refine keep_far ?_ GW163.out _) | exact HK.out)) hk (.inl rfl)); replace HB := asd (hb); replace HI0 := asd (hi); (try clear hb); (try clear hb2); (try clear hk); (try clear hi); have hnb8 := NB163_0.out; have hnc8 := NB0_163.out; obtain ⟨hcz9_0, hcz9_1, hcz9_2, hcz9_3, hfz9_0, hfz9_1, hfz9_2, hfz9_3⟩ := bz4 BK163))
  refine bodyPost_ret (results_cell_row rfl _ _ gb163 25 #[.int .i64 t167, .int .i64 t168, .int .i64 t169, .int .i64 t170] (0, 0) _ rfl (bq0 BK163) Tryz.underlying25 rfl (by kernel_rfl)) rfl ?_
  exact ⟨by first | rfl | (simp [errW_none, errW_some] <;> rfl) | (simp [*, errW_none, errW_some] <;> rfl), by repeat (first | (with_reducible first | exact HI0.out | apply IsS106.alloc | apply IsS106.drewN | apply IsS106.drew | apply IsS106.set_1 | apply IsS106.set_2 | refine IsS106.far ?_ NB0_163.out _) | exact HI0.out), by repeat (first | (with_reducible first | exact HB.out | apply below_alloc | apply pw_below_drewN | apply below_drew1 | refine below_set ?_ (IsS106.ge HI0.out) | refine below_set ?_ GE163.out) | exact HB.out), by repeat (first | (with_reducible first | exact HK.out | apply KeepBut.set_ | apply keep_drewN | apply keep_drew | apply keep_alloc | refine keep_far ?_ GW163.out _) | exact HK.out)⟩
 ·rw [if_neg c3] at H
  have c3b0 : decide (0 < t164) = false := decide_eq_false c3
  clear c3
  obtain ⟨⟨t173, t174, t175, t176⟩, A10, H⟩ := ob H
  try dsimp only at H
  obtain ⟨⟨t178, t179, t180⟩, A11, H⟩ := ob H
  try dsimp only at H
  have H' := Aside0.mk H
  clear H
  go_enter Tryz.func50, Tryz.ntmps50
  go_wp2_with (first | ((with_reducible refine gd 2 rfl ?_); refine bx #[.int .i64 0, .int .i64 0, .int .i64 0, .int .i64 0] 25 ?_; intro gb163 hg w12 BK163 hb; replace HB := asd (below_step (by repeat (first | (with_reducible first | exact HB.out | apply below_alloc | apply pw_below_drewN | apply below_drew1 | refine below_set ?_ (IsS106.ge HI0.out)) | exact HB.out)) hb); have GW163 := asd ((by rw [hg]; exact (keep_size (w := w) (g := g) (row := none) (by repeat (first | (with_reducible first | exact HK.out | apply KeepBut.set_ | apply keep_drewN | apply keep_drew | apply keep_alloc) | exact HK.out))) : w.heap.size ≤ gb163)); have GE163 := asd ((Nat.le_trans HW0.out (by rw [hg]; exact (keep_size (w := w) (g := g) (row := none) (by repeat (first | (with_reducible first | exact HK.out | apply KeepBut.set_ | apply keep_drewN | apply keep_drew | apply keep_alloc) | exact HK.out))) : w.heap.size ≤ gb163) : w0.heap.size ≤ gb163)); replace HK := asd (KeepBut.trans (by repeat (first | (with_reducible first | exact HK.out | apply KeepBut.set_ | apply keep_drewN | apply keep_drew | apply keep_alloc) | exact HK.out)) (KeepBut.of_below hb g none) (.inl rfl)); have NB0_163 := asd ((by rw [hg]; exact Nat.ne_of_lt (IsS106.lt (show IsS106 w0 _ g s0_0 s0_1 s0_2 from by repeat (first | (with_reducible first | exact HI0.out | apply IsS106.alloc | apply IsS106.drewN | apply IsS106.drew | apply IsS106.set_1 | apply IsS106.set_2) | exact HI0.out))) : g ≠ gb163)); have NB163_0 := asd ((by rw [hg]; exact Nat.ne_of_gt (IsS106.lt (show IsS106 w0 _ g s0_0 s0_1 s0_2 from by repeat (first | (with_reducible first | exact HI0.out | apply IsS106.alloc | apply IsS106.drewN | apply IsS106.drew | apply IsS106.set_1 | apply IsS106.set_2) | exact HI0.out))) : gb163 ≠ g)); replace HI0 := asd (IsS106.below (by repeat (first | (with_reducible first | exact HI0.out | apply IsS106.alloc | apply IsS106.drewN | apply IsS106.drew | apply IsS106.set_1 | apply IsS106.set_2) | exact HI0.out)) hb); clear hb hg) | ((with_reducible refine gate_callee (f := 45) rfl ?_); refine gl 6 Tryz.func45 #[.pointer (some ⟨g, 0, none⟩), .int .i64 3] ?_; (with_reducible refine (spec_l01Next.calls _ _ _ _ _ _ _ _ w0 _ ?side1 ?side2 A2.out).mono ?_); (case side1 => repeat (first | (with_reducible first | exact HI0.out | apply IsS106.alloc | apply IsS106.drewN | apply IsS106.drew | apply IsS106.set_1 | apply IsS106.set_2 | refine IsS106.far ?_ NB0_163.out _) | exact HI0.out)); (case side2 => repeat (first | (with_reducible first | exact HB.out | apply below_alloc | apply pw_below_drewN | apply below_drew1 | refine below_set ?_ (IsS106.ge HI0.out) | refine below_set ?_ GE163.out) | exact HB.out)); rintro e w13 ⟨rfl, hi, hb, hk⟩; refine ⟨_, rfl, ?_⟩; replace BK163 := asd (KeepBut.blk hk (g' := gb163) (o := .cells #[.int .i64 0, .int .i64 0, .int .i64 0, .int .i64 0] 25 (0, 0)) (bkp BK163) NB163_0.out (by simp)); replace HK := asd (KeepBut.trans (by repeat (first | (with_reducible first | exact HK.out | apply KeepBut.set_ | apply keep_drewN | apply keep_drew | apply keep_alloc | refine keep_far ?_ GW163.out _) | exact HK.out)) hk (.inl rfl)); replace HB := asd (hb); replace HI0 := asd (hi); (try clear hb); (try clear hb2); (try clear hk); (try clear hi)) | ((with_reducible refine gate_callee (f := 81) rfl ?_); refine gl 10 Tryz.func81 #[] ?_; (with_reducible refine (spec_l02Unit.calls _ _ _ _ _ A10.out).mono ?_); rintro e w14 ⟨rfl, hb⟩; refine ⟨_, rfl, ?_⟩; replace BK163 := bB BK163 hb; replace HK := asd (KeepBut.trans (by repeat (first | (with_reducible first | exact HK.out | apply KeepBut.set_ | apply keep_drewN | apply keep_drew | apply keep_alloc | refine keep_far ?_ GW163.out _) | exact HK.out)) (KeepBut.of_below hb g none) (.inl rfl)); replace HB := asd (below_step (by repeat (first | (with_reducible first | exact HB.out | apply below_alloc | apply pw_below_drewN | apply below_drew1 | refine below_set ?_ (IsS106.ge HI0.out) | refine below_set ?_ GE163.out) | exact HB.out)) hb); replace HI0 := asd (IsS106.below (by repeat (first | (with_reducible first | exact HI0.out | apply IsS106.alloc | apply IsS106.drewN | apply IsS106.drew | apply IsS106.set_1 | apply IsS106.set_2 | refine IsS106.far ?_ NB0_163.out _) | exact HI0.out)) hb); (try clear hb)) | ((with_reducible refine gd 3 rfl ?_); refine bx #[.int .i64 0, .int .i64 0, .int .i64 0, .int .i64 0] 25 ?_; intro gb177 hg w15 BK177 hb; replace HB := asd (below_step (by repeat (first | (with_reducible first | exact HB.out | apply below_alloc | apply pw_below_drewN | apply below_drew1 | refine below_set ?_ (IsS106.ge HI0.out) | refine below_set ?_ GE163.out) | exact HB.out)) hb); have GW177 := asd ((by rw [hg]; exact (keep_size (w := w) (g := g) (row := none) (by repeat (first | (with_reducible first | exact HK.out | apply KeepBut.set_ | apply keep_drewN | apply keep_drew | apply keep_alloc | refine keep_far ?_ GW163.out _) | exact HK.out))) : w.heap.size ≤ gb177)); have GE177 := asd ((Nat.le_trans HW0.out (by rw [hg]; exact (keep_size (w := w) (g := g) (row := none) (by repeat (first | (with_reducible first | exact HK.out | apply KeepBut.set_ | apply keep_drewN | apply keep_drew | apply keep_alloc | refine keep_far ?_ GW163.out _) | exact HK.out))) : w.heap.size ≤ gb177) : w0.heap.size ≤ gb177)); replace HK := asd (KeepBut.trans (by repeat (first | (with_reducible first | exact HK.out | apply KeepBut.set_ | apply keep_drewN | apply keep_drew | apply keep_alloc | refine keep_far ?_ GW163.out _) | exact HK.out)) (KeepBut.of_below hb g none) (.inl rfl)); have NB163_177 := nlt hg BK163; have NB177_163 := nsy (nlt hg BK163); replace BK163 := bB BK163 hb; have NB0_177 := asd ((by rw [hg]; exact Nat.ne_of_lt (IsS106.lt (show IsS106 w0 _ g s0_0 t165 t166 from by repeat (first | (with_reducible first | exact HI0.out | apply IsS106.alloc | apply IsS106.drewN | apply IsS106.drew | apply IsS106.set_1 | apply IsS106.set_2 | refine IsS106.far ?_ NB0_163.out _) | exact HI0.out))) : g ≠ gb177)); have NB177_0 := asd ((by rw [hg]; exact Nat.ne_of_gt (IsS106.lt (show IsS106 w0 _ g s0_0 t165 t166 from by repeat (first | (with_reducible first | exact HI0.out | apply IsS106.alloc | apply IsS106.drewN | apply IsS106.drew | apply IsS106.set_1 | apply IsS106.set_2 | refine IsS106.far ?_ NB0_163.out _) | exact HI0.out))) : gb177 ≠ g)); replace HI0 := asd (IsS106.below (by repeat (first | (with_reducible first | exact HI0.out | apply IsS106.alloc | apply IsS106.drewN | apply IsS106.drew | apply IsS106.set_1 | apply IsS106.set_2 | refine IsS106.far ?_ NB0_163.out _) | exact HI0.out)) hb); clear hb hg; have hnb16 := NB177_163.out; have hnc16 := NB163_177.out; have hnb17 := NB177_0.out; have hnc17 := NB0_177.out; obtain ⟨hcz18_0, hcz18_1, hcz18_2, hcz18_3, hfz18_0, hfz18_1, hfz18_2, hfz18_3⟩ := bz4 BK177) | ((with_reducible refine gate_callee (f := 45) rfl ?_); refine gl 12 Tryz.func45 #[.pointer (some ⟨g, 0, none⟩), .int .i64 5] ?_; (with_reducible refine (spec_l01Next.calls _ _ _ _ _ _ _ _ w0 _ ?side1 ?side2 A11.out).mono ?_); (case side1 => repeat (first | (with_reducible first | exact HI0.out | apply IsS106.alloc | apply IsS106.drewN | apply IsS106.drew | apply IsS106.set_1 | apply IsS106.set_2 | refine IsS106.far ?_ NB0_163.out _ | refine IsS106.far ?_ NB0_177.out _) | exact HI0.out)); (case side2 => repeat (first | (with_reducible first | exact HB.out | apply below_alloc | apply pw_below_drewN | apply below_drew1 | refine below_set ?_ (IsS106.ge HI0.out) | refine below_set ?_ GE163.out | refine below_set ?_ GE177.out) | exact HB.out)); rintro e w19 ⟨rfl, hi, hb, hk⟩; refine ⟨_, rfl, ?_⟩; replace BK163 := asd (KeepBut.blk hk (g' := gb163) (o := .cells #[.int .i64 0, .int .i64 0, .int .i64 0, .int .i64 0] 25 (0, 0)) (bq1 BK163 NB163_177) NB163_0.out (by simp)); replace BK177 := asd (KeepBut.blk hk (g' := gb177) (o := .cells #[.int .i64 t173, .int .i64 t174, .int .i64 t175, .int .i64 t176] 25 (0, 0)) (bq0 BK177) NB177_0.out (by simp)); replace HK := asd (KeepBut.trans (by repeat (first | (with_reducible first | exact HK.out | apply KeepBut.set_ | apply keep_drewN | apply keep_drew | apply keep_alloc | refine keep_far ?_ GW163.out _ | refine keep_far ?_ GW177.out _) | exact HK.out)) hk (.inl rfl)); replace HB := asd (hb); replace HI0 := asd (hi); (try clear hb); (try clear hb2); (try clear hk); (try clear hi)))
  go_loopg [4] k (fun kq v4 w' => ∃ (x4_1 : Int) (x1001_1 : Int) (x1002_1 : Int) (x178000_1 : Int) (x178001_1 : Int) (x178002_1 : Int) (x178003_1 : Int), v4 = .int .i64 x4_1 ∧ Aside0 (spec_l02Draw.l0 kq x4_1 s0_0 x1001_1 x1002_1 x178000_1 x178001_1 x178002_1 x178003_1 = some (r1, r2, r3, r4, r5, r6)) ∧ Aside0 (kq ≤ k) ∧ Aside0 (w'.heap[gb163]? = some (.cells #[.int .i64 0, .int .i64 0, .int .i64 0, .int .i64 0] 25 (0, 0))) ∧ Aside0 (w'.heap[gb177]? = some (.cells #[.int .i64 x178000_1, .int .i64 x178001_1, .int .i64 x178002_1, .int .i64 x178003_1] 25 (0, 0))) ∧ Aside0 (IsS106 w0 w' g s0_0 x1001_1 x1002_1) ∧ Aside0 (KeepBut w w' g none) ∧ Aside0 (Below w0.heap.size w0 w'))
  case atStart => exact ⟨(t178), (t179), (t180), (t173), (t174), (t175), (t176), (by first | rfl | (simp; done) | (simp [*]; done)), H', ⟨Nat.le_refl _⟩, ⟨bkp BK163⟩, ⟨bkp BK177⟩, ⟨by repeat (first | (with_reducible first | exact HI0.out | apply IsS106.alloc | apply IsS106.drewN | apply IsS106.drew | apply IsS106.set_1 | apply IsS106.set_2 | refine IsS106.far ?_ NB0_163.out _ | refine IsS106.far ?_ NB0_177.out _) | exact HI0.out)⟩, ⟨by repeat (first | (with_reducible first | exact HK.out | apply KeepBut.set_ | apply keep_drewN | apply keep_drew | apply keep_alloc | refine keep_far ?_ GW163.out _ | refine keep_far ?_ GW177.out _) | exact HK.out)⟩, ⟨by repeat (first | (with_reducible first | exact HB.out | apply below_alloc | apply pw_below_drewN | apply below_drew1 | refine below_set ?_ (IsS106.ge HI0.out) | refine below_set ?_ GE163.out | refine below_set ?_ GE177.out) | exact HB.out)⟩⟩
  case round =>
   clear H'
   try clear c1
   try clear p2
   try clear c3
   try clear c3b0
   try clear c4
   try clear c5
   try clear c8
   try clear c16
   try clear c17
   try clear hcz18_0
   try clear hcz18_1
   try clear hcz18_2
   try clear hcz18_3
   try clear hcz9_0
   try clear hcz9_1
   try clear hcz9_2
   try clear hcz9_3
   try clear hfz18_0
   try clear hfz18_1
   try clear hfz18_2
   try clear hfz18_3
   try clear hfz9_0
   try clear hfz9_1
   try clear hfz9_2
   try clear hfz9_3
   obtain ⟨x4_1, x1001_1, x1002_1, x178000_1, x178001_1, x178002_1, x178003_1, rfl, HA, HK1, BK163, BK177, HI0, HK, HB⟩ := hrel
   cases gk with
   | zero => exact absurd HA.out (by simp [spec_l02Draw.l0])
   | succ k1 =>
    have H := HA.out
    clear HA
    simp only [spec_l02Draw.l0] at H
    by_cases c20 : x4_1 > 0
    ·rw [if_pos c20] at H
     have c20b0 : decide (0 < x4_1) = true := decide_eq_true c20
     clear c20
     obtain ⟨y181, hy181⟩ : ∃ y_ : List (S25), y_ = (([(⟨1, 1, 0, 1⟩ : S25), (⟨1, 0, 1, 1⟩ : S25), (⟨1, (-2), 0, 1⟩ : S25), (⟨0, 1, 1, 0⟩ : S25), (⟨(-1), 0, 0, 1⟩ : S25)] : List (S25))) := ⟨_, rfl⟩
     replace H : ((spec_l01Next.f s0_0 x1001_1 x1002_1 5).bind fun bt184 => (if 0 ≤ bt184.1 then (if bt184.1 < (y181.length : Int) then ((spec_l02Multiply.f x178000_1 x178001_1 x178002_1 x178003_1 ((rd_T25 y181 bt184.1).f0) ((rd_T25 y181 bt184.1).f1) ((rd_T25 y181 bt184.1).f2) ((rd_T25 y181 bt184.1).f3)).bind fun bt188 => (spec_l02Draw.l0 k1 (wrap64 (x4_1 - 1)) s0_0 bt184.2.1 bt184.2.2 bt188.1 bt188.2.1 bt188.2.2.1 bt188.2.2.2)) else (none)) else (none))) = some (r1, r2, r3, r4, r5, r6) := by first | (rw [hy181]; with_reducible exact H) | (have H2_ := (Option.bind_some _ _).symm.trans H; rw [hy181]; with_reducible exact H2_) | (have H2_ := (Option.bind_some _ _).symm.trans H; with_reducible exact H2_) | with_reducible exact H | (rw [hy181]; exact H) | exact H
     have Ny181 := Aside0.mk hy181
     clear hy181
     obtain ⟨⟨t184, t185, t186⟩, A21, H⟩ := ob H
     try dsimp only at H
     by_cases c22 : 0 ≤ t184
     ·rw [if_pos c22] at H
      have c22b0 := decide_eq_true c22
      clear c22
      by_cases c23 : t184 < (y181.length : Int)
      ·rw [if_pos c23] at H
       have c23b0 := decide_eq_true c23
       clear c23
       obtain ⟨⟨t188, t189, t190, t191⟩, A24, H⟩ := ob H
       try dsimp only at H
       have H' := Aside0.mk H
       clear H
       try go_wp2
       have pi187 : (0 ≤ (t184 : Int)) = True := eq_true (od)
       have qi187 : (t184 < (y181.length : Int)) = True := eq_true (od)
       replace BK163 := asd (blk_drew BK163.out)
       replace BK177 := asd (blk_drew BK177.out)
       replace HI0 := asd (IsS106.drew HI0.out)
       replace HK := asd (keep_drew HK.out)
       replace HB := asd (below_drew1 HB.out)
       refine start_ (n := 13) (S := fun w' => w'.cell? ⟨gb177, 0, none⟩ = some (.int .i64 x178000_1) ∧ w'.cell? ⟨gb177, 1, none⟩ = some (.int .i64 x178001_1) ∧ w'.cell? ⟨gb177, 2, none⟩ = some (.int .i64 x178002_1) ∧ w'.cell? ⟨gb177, 3, none⟩ = some (.int .i64 x178003_1)) (ds := [12]) (bT 13 0) (by kernel_rfl) rfl rfl ⟨bcl BK177 0, bcl BK177 1, bcl BK177 2, bcl BK177 3⟩ (fun hHeld => ?_); refine with_tabW spec_l02Draw.tab7 spec_l02Draw.bits7 (fun HT_ HW_ => ?_)
       generalize wr.drew = w25 at BK163 BK177 HI0 HK HB hHeld ⊢
       refine pu 1 (some 18) (bs 13 2) HT_ ?_
       refine pu 2 (some 19) (bs 13 6) HT_ ?_
       refine pu 3 (some 20) (bs 13 14) HT_ ?_
       refine pu 4 (some 21) (bs 13 30) HT_ ?_
       refine pu 5 (some 22) (bs 13 62) HT_ ?_
       refine pu 7 (some 24) (bs 13 190) HT_ ?_
       refine ta 0 (some 17) (bs 13 191) HT_ HW_ hHeld ?_
       refine join_ (σ := Value × Addr) 4 (bT 13 9) (fun s_ => [(23, s_.1), (25, .int .i64 t184)]) (fun s_ w' => (w'.cell? ⟨gb177, 0, none⟩ = some (.int .i64 x178000_1) ∧ w'.cell? ⟨gb177, 1, none⟩ = some (.int .i64 x178001_1) ∧ w'.cell? ⟨gb177, 2, none⟩ = some (.int .i64 x178002_1) ∧ w'.cell? ⟨gb177, 3, none⟩ = some (.int .i64 x178003_1)) ∧ (Kd.R k25 25 w' w.heap.size (fun k_ => k_ ≠ gb163 ∧ k_ ≠ gb177) s_.1 y181) ∧ (∃ c_, (s_.1 : Value) = .slice (some s_.2) y181.length c_) ∧ (w'.heap[gb163]? = some (.cells #[.int .i64 0, .int .i64 0, .int .i64 0, .int .i64 0] 25 (0, 0))) ∧ (w'.heap[gb177]? = some (.cells #[.int .i64 x178000_1, .int .i64 x178001_1, .int .i64 x178002_1, .int .i64 x178003_1] 25 (0, 0))) ∧ (IsS106 w0 w' g s0_0 t185 t186) ∧ (KeepBut w w' g none) ∧ (Below w0.heap.size w0 w')) ?_ ?_
       rotate_left
       ·intro hCont
        refine two_ (i := 6) (j := 8) (Ni := some 23) (Nj := some 25) (bT 13 8) (bs 13 447) rfl rfl rfl rfl (two_of HT_.out (by kernel_rfl)) (by decide) (by decide) (fun K hK => ?_) (fun K hK => ?_)
        ·skip
         refine Kd.R_lit_step k25 _ 25 ?hg (N := 23) ?hd (xs := ([(⟨1, 1, 0, 1⟩ : S25), (⟨1, 0, 1, 1⟩ : S25), (⟨1, (-2), 0, 1⟩ : S25), (⟨0, 1, 1, 0⟩ : S25), (⟨(-1), 0, 0, 1⟩ : S25)] : List (S25))) (inner := [.int .i64 1, .int .i64 1, .int .i64 0, .int .i64 1, .int .i64 1, .int .i64 0, .int .i64 1, .int .i64 1, .int .i64 1, .int .i64 (-2), .int .i64 0, .int .i64 1, .int .i64 0, .int .i64 1, .int .i64 1, .int .i64 0, .int .i64 (-1), .int .i64 0, .int .i64 0, .int .i64 1]) (ok := fun _ => True) (okp := fun _ => True) ?hr ?hp (fun _ hk => hk) trivial (Below.refl _ _) (Nat.le_refl _) (by simp) ?_; (case hd => rfl); (case hg => rfl); (case hr => first | (go_simp; done) | (go_simp; rfl)); (case hp => exact (Reps.c4 (show Kd.M k25 _ _ _ (⟨1, 1, 0, 1⟩ : S25) [.int .i64 1, .int .i64 1, .int .i64 0, .int .i64 1] from (k25_mkM _ _ _ (⟨1, 1, 0, 1⟩ : S25) )) (Reps.c4 (show Kd.M k25 _ _ _ (⟨1, 0, 1, 1⟩ : S25) [.int .i64 1, .int .i64 0, .int .i64 1, .int .i64 1] from (k25_mkM _ _ _ (⟨1, 0, 1, 1⟩ : S25) )) (Reps.c4 (show Kd.M k25 _ _ _ (⟨1, (-2), 0, 1⟩ : S25) [.int .i64 1, .int .i64 (-2), .int .i64 0, .int .i64 1] from (k25_mkM _ _ _ (⟨1, (-2), 0, 1⟩ : S25) )) (Reps.c4 (show Kd.M k25 _ _ _ (⟨0, 1, 1, 0⟩ : S25) [.int .i64 0, .int .i64 1, .int .i64 1, .int .i64 0] from (k25_mkM _ _ _ (⟨0, 1, 1, 0⟩ : S25) )) (Reps.c4 (show Kd.M k25 _ _ _ (⟨(-1), 0, 0, 1⟩ : S25) [.int .i64 (-1), .int .i64 0, .int .i64 0, .int .i64 1] from (k25_mkM _ _ _ (⟨(-1), 0, 0, 1⟩ : S25) )) (Reps.none _ _)))))))
         intro v182 w26 ho27 hb hg_ hnew_
         clear hg_ hnew_
         (first | rw [← Ny181.out] at ho27 | (simp only [Int.reduceToNat] at ho27; rw [← Ny181.out] at ho27))
         have HO183 := asd (Kd.R_lower (Kd.R_newB (Kd.R_newB ho27 (g := gb163) (o := .cells #[.int .i64 0, .int .i64 0, .int .i64 0, .int .i64 0] 25 (0, 0)) (bkp BK163)) (g := gb177) (o := .cells #[.int .i64 x178000_1, .int .i64 x178001_1, .int .i64 x178002_1, .int .i64 x178003_1] 25 (0, 0)) (bkp BK177)) (keep_size (w := w) (g := g) (row := none) (by repeat (first | (with_reducible first | exact HK.out | apply KeepBut.set_ | apply keep_drewN | apply keep_drew | apply keep_alloc | refine keep_far ?_ GW163.out _ | refine keep_far ?_ GW177.out _) | exact HK.out))))
         replace BK163 := bB BK163 hb
         replace BK177 := bB BK177 hb
         replace HK := asd (KeepBut.trans (by repeat (first | (with_reducible first | exact HK.out | apply KeepBut.set_ | apply keep_drewN | apply keep_drew | apply keep_alloc | refine keep_far ?_ GW163.out _ | refine keep_far ?_ GW177.out _) | exact HK.out)) (KeepBut.of_below hb g none) (.inl rfl))
         replace HB := asd (below_step (by repeat (first | (with_reducible first | exact HB.out | apply below_alloc | apply pw_below_drewN | apply below_drew1 | refine below_set ?_ (IsS106.ge HI0.out) | refine below_set ?_ GE163.out | refine below_set ?_ GE177.out) | exact HB.out)) hb)
         replace HI0 := asd (IsS106.below (by repeat (first | (with_reducible first | exact HI0.out | apply IsS106.alloc | apply IsS106.drewN | apply IsS106.drew | apply IsS106.set_1 | apply IsS106.set_2 | refine IsS106.far ?_ NB0_163.out _ | refine IsS106.far ?_ NB0_177.out _) | exact HI0.out)) hb)
         clear hb ho27
         obtain ⟨Ao28, co28, eo28⟩ := Kd.R_slice HO183.out
         subst eo28
         obtain ⟨ado28, fo28, _⟩ := at_T25 (Kd.R_reads' HO183.out).2.2 0 (by decide) (by rw [Ny181.out]; simp)
         cases fo28
         refine hK.out _ _ (eb4 BK177).out (fun hHeld => ?_)
         clear hK K
         refine norm_ (a' := ?_) ?_ ?_
         rotate_left
         ·show Act.put _ (some 23) _ = _
          simp only [Act.put, sA, sB, sC, i64_w, i32_w]
          rfl
         refine ro 8 (some 25) (bT 13 9) HT_ (fun K hK => ?_)
         refine gs Tryz.func45 #[.pointer (some ⟨g, 0, none⟩), .int .i64 5] ?_
         with_reducible refine (spec_l01Next.calls _ _ _ _ _ _ _ _ w0 _ ?side1 ?side2 A21.out).mono ?_
         (case side1 => repeat (first | (with_reducible first | exact HI0.out | apply IsS106.alloc | apply IsS106.drewN | apply IsS106.drew | apply IsS106.set_1 | apply IsS106.set_2 | refine IsS106.far ?_ NB0_163.out _ | refine IsS106.far ?_ NB0_177.out _) | exact HI0.out))
         (case side2 => repeat (first | (with_reducible first | exact HB.out | apply below_alloc | apply pw_below_drewN | apply below_drew1 | refine below_set ?_ (IsS106.ge HI0.out) | refine below_set ?_ GE163.out | refine below_set ?_ GE177.out) | exact HB.out))
         rintro e w29 ⟨rfl, hi, hb, hk⟩
         refine ⟨_, rfl, ?_⟩
         replace BK163 := asd (KeepBut.blk hk (g' := gb163) (o := .cells #[.int .i64 0, .int .i64 0, .int .i64 0, .int .i64 0] 25 (0, 0)) (bkp BK163) NB163_0.out (by simp))
         replace BK177 := asd (KeepBut.blk hk (g' := gb177) (o := .cells #[.int .i64 x178000_1, .int .i64 x178001_1, .int .i64 x178002_1, .int .i64 x178003_1] 25 (0, 0)) (bkp BK177) NB177_0.out (by simp))
         replace HO183 := asd (Kd.R_mono (Kd.R_keep (IsS106.apart (show IsS106 w0 _ g s0_0 x1001_1 x1002_1 from by repeat (first | (with_reducible first | exact HI0.out | apply IsS106.alloc | apply IsS106.drewN | apply IsS106.drew | apply IsS106.set_1 | apply IsS106.set_2 | refine IsS106.far ?_ NB0_163.out _ | refine IsS106.far ?_ NB0_177.out _) | exact HI0.out)) (kr HO183) (by decide)) hk (fun _ h => h.2)) (fun _ h => h.1))
         replace HK := asd (KeepBut.trans (by repeat (first | (with_reducible first | exact HK.out | apply KeepBut.set_ | apply keep_drewN | apply keep_drew | apply keep_alloc | refine keep_far ?_ GW163.out _ | refine keep_far ?_ GW177.out _) | exact HK.out)) hk (.inl rfl))
         replace HB := asd (hb)
         replace HI0 := asd (hi)
         (try clear hb)
         (try clear hb2)
         (try clear hk)
         (try clear hi)
         refine hK.out _ _ (eb4 BK177).out (fun hHeld => ?_)
         clear hK K
         refine norm_ (a' := ?_) ?_ ?_
         rotate_left
         ·show Act.put _ (some 25) _ = _
          simp only [Act.put, sA, sB, sC, i64_w, i32_w]
          rfl
         exact norm_ (by simp only [putAll, Act.put, sA, sB, sC]) (hCont (.slice (some ado28) y181.length co28, ado28) _ ⟨hHeld, (by (with_reducible repeat (first | apply Kd.R_alloc | apply Kd.R_drewN | apply Kd.R_drew)); exact Kd.R_mono HO183.out (fun _ hk => ⟨hk.1.2, hk.2⟩)), ⟨_, rfl⟩, (bkp BK163), (bkp BK177), (by repeat (first | (with_reducible first | exact HI0.out | apply IsS106.alloc | apply IsS106.drewN | apply IsS106.drew | apply IsS106.set_1 | apply IsS106.set_2 | refine IsS106.far ?_ NB0_163.out _ | refine IsS106.far ?_ NB0_177.out _) | exact HI0.out)), (by repeat (first | (with_reducible first | exact HK.out | apply KeepBut.set_ | apply keep_drewN | apply keep_drew | apply keep_alloc | refine keep_far ?_ GW163.out _ | refine keep_far ?_ GW177.out _) | exact HK.out)), (by repeat (first | (with_reducible first | exact HB.out | apply below_alloc | apply pw_below_drewN | apply below_drew1 | refine below_set ?_ (IsS106.ge HI0.out) | refine below_set ?_ GE163.out | refine below_set ?_ GE177.out) | exact HB.out))⟩)
        ·skip
         refine gs Tryz.func45 #[.pointer (some ⟨g, 0, none⟩), .int .i64 5] ?_
         with_reducible refine (spec_l01Next.calls _ _ _ _ _ _ _ _ w0 _ ?side1 ?side2 A21.out).mono ?_
         (case side1 => repeat (first | (with_reducible first | exact HI0.out | apply IsS106.alloc | apply IsS106.drewN | apply IsS106.drew | apply IsS106.set_1 | apply IsS106.set_2 | refine IsS106.far ?_ NB0_163.out _ | refine IsS106.far ?_ NB0_177.out _) | exact HI0.out))
         (case side2 => repeat (first | (with_reducible first | exact HB.out | apply below_alloc | apply pw_below_drewN | apply below_drew1 | refine below_set ?_ (IsS106.ge HI0.out) | refine below_set ?_ GE163.out | refine below_set ?_ GE177.out) | exact HB.out))
         rintro e w26 ⟨rfl, hi, hb, hk⟩
         refine ⟨_, rfl, ?_⟩
         replace BK163 := asd (KeepBut.blk hk (g' := gb163) (o := .cells #[.int .i64 0, .int .i64 0, .int .i64 0, .int .i64 0] 25 (0, 0)) (bkp BK163) NB163_0.out (by simp))
         replace BK177 := asd (KeepBut.blk hk (g' := gb177) (o := .cells #[.int .i64 x178000_1, .int .i64 x178001_1, .int .i64 x178002_1, .int .i64 x178003_1] 25 (0, 0)) (bkp BK177) NB177_0.out (by simp))
         replace HK := asd (KeepBut.trans (by repeat (first | (with_reducible first | exact HK.out | apply KeepBut.set_ | apply keep_drewN | apply keep_drew | apply keep_alloc | refine keep_far ?_ GW163.out _ | refine keep_far ?_ GW177.out _) | exact HK.out)) hk (.inl rfl))
         replace HB := asd (hb)
         replace HI0 := asd (hi)
         (try clear hb)
         (try clear hb2)
         (try clear hk)
         (try clear hi)
         refine hK.out _ _ (eb4 BK177).out (fun hHeld => ?_)
         clear hK K
         refine norm_ (a' := ?_) ?_ ?_
         rotate_left
         ·show Act.put _ (some 25) _ = _
          simp only [Act.put, sA, sB, sC, i64_w, i32_w]
          rfl
         refine ro 6 (some 23) (bT 13 9) HT_ (fun K hK => ?_)
         refine Kd.R_lit_step k25 _ 25 ?hg (N := 23) ?hd (xs := ([(⟨1, 1, 0, 1⟩ : S25), (⟨1, 0, 1, 1⟩ : S25), (⟨1, (-2), 0, 1⟩ : S25), (⟨0, 1, 1, 0⟩ : S25), (⟨(-1), 0, 0, 1⟩ : S25)] : List (S25))) (inner := [.int .i64 1, .int .i64 1, .int .i64 0, .int .i64 1, .int .i64 1, .int .i64 0, .int .i64 1, .int .i64 1, .int .i64 1, .int .i64 (-2), .int .i64 0, .int .i64 1, .int .i64 0, .int .i64 1, .int .i64 1, .int .i64 0, .int .i64 (-1), .int .i64 0, .int .i64 0, .int .i64 1]) (ok := fun _ => True) (okp := fun _ => True) ?hr ?hp (fun _ hk => hk) trivial (Below.refl _ _) (Nat.le_refl _) (by simp) ?_; (case hd => rfl); (case hg => rfl); (case hr => first | (go_simp; done) | (go_simp; rfl)); (case hp => exact (Reps.c4 (show Kd.M k25 _ _ _ (⟨1, 1, 0, 1⟩ : S25) [.int .i64 1, .int .i64 1, .int .i64 0, .int .i64 1] from (k25_mkM _ _ _ (⟨1, 1, 0, 1⟩ : S25) )) (Reps.c4 (show Kd.M k25 _ _ _ (⟨1, 0, 1, 1⟩ : S25) [.int .i64 1, .int .i64 0, .int .i64 1, .int .i64 1] from (k25_mkM _ _ _ (⟨1, 0, 1, 1⟩ : S25) )) (Reps.c4 (show Kd.M k25 _ _ _ (⟨1, (-2), 0, 1⟩ : S25) [.int .i64 1, .int .i64 (-2), .int .i64 0, .int .i64 1] from (k25_mkM _ _ _ (⟨1, (-2), 0, 1⟩ : S25) )) (Reps.c4 (show Kd.M k25 _ _ _ (⟨0, 1, 1, 0⟩ : S25) [.int .i64 0, .int .i64 1, .int .i64 1, .int .i64 0] from (k25_mkM _ _ _ (⟨0, 1, 1, 0⟩ : S25) )) (Reps.c4 (show Kd.M k25 _ _ _ (⟨(-1), 0, 0, 1⟩ : S25) [.int .i64 (-1), .int .i64 0, .int .i64 0, .int .i64 1] from (k25_mkM _ _ _ (⟨(-1), 0, 0, 1⟩ : S25) )) (Reps.none _ _)))))))
         intro v182 w27 ho28 hb hg_ hnew_
         clear hg_ hnew_
         (first | rw [← Ny181.out] at ho28 | (simp only [Int.reduceToNat] at ho28; rw [← Ny181.out] at ho28))
         have HO183 := asd (Kd.R_lower (Kd.R_newB (Kd.R_newB ho28 (g := gb163) (o := .cells #[.int .i64 0, .int .i64 0, .int .i64 0, .int .i64 0] 25 (0, 0)) (bkp BK163)) (g := gb177) (o := .cells #[.int .i64 x178000_1, .int .i64 x178001_1, .int .i64 x178002_1, .int .i64 x178003_1] 25 (0, 0)) (bkp BK177)) (keep_size (w := w) (g := g) (row := none) (by repeat (first | (with_reducible first | exact HK.out | apply KeepBut.set_ | apply keep_drewN | apply keep_drew | apply keep_alloc | refine keep_far ?_ GW163.out _ | refine keep_far ?_ GW177.out _) | exact HK.out))))
         replace BK163 := bB BK163 hb
         replace BK177 := bB BK177 hb
         replace HK := asd (KeepBut.trans (by repeat (first | (with_reducible first | exact HK.out | apply KeepBut.set_ | apply keep_drewN | apply keep_drew | apply keep_alloc | refine keep_far ?_ GW163.out _ | refine keep_far ?_ GW177.out _) | exact HK.out)) (KeepBut.of_below hb g none) (.inl rfl))
         replace HB := asd (below_step (by repeat (first | (with_reducible first | exact HB.out | apply below_alloc | apply pw_below_drewN | apply below_drew1 | refine below_set ?_ (IsS106.ge HI0.out) | refine below_set ?_ GE163.out | refine below_set ?_ GE177.out) | exact HB.out)) hb)
         replace HI0 := asd (IsS106.below (by repeat (first | (with_reducible first | exact HI0.out | apply IsS106.alloc | apply IsS106.drewN | apply IsS106.drew | apply IsS106.set_1 | apply IsS106.set_2 | refine IsS106.far ?_ NB0_163.out _ | refine IsS106.far ?_ NB0_177.out _) | exact HI0.out)) hb)
         clear hb ho28
         obtain ⟨Ao29, co29, eo29⟩ := Kd.R_slice HO183.out
         subst eo29
         obtain ⟨ado29, fo29, _⟩ := at_T25 (Kd.R_reads' HO183.out).2.2 0 (by decide) (by rw [Ny181.out]; simp)
         cases fo29
         refine hK.out _ _ (eb4 BK177).out (fun hHeld => ?_)
         clear hK K
         refine norm_ (a' := ?_) ?_ ?_
         rotate_left
         ·show Act.put _ (some 23) _ = _
          simp only [Act.put, sA, sB, sC, i64_w, i32_w]
          rfl
         exact norm_ (by simp only [putAll, Act.put, sA, sB, sC]) (hCont (.slice (some ado29) y181.length co29, ado29) _ ⟨hHeld, (by (with_reducible repeat (first | apply Kd.R_alloc | apply Kd.R_drewN | apply Kd.R_drew)); exact Kd.R_mono HO183.out (fun _ hk => ⟨hk.1.2, hk.2⟩)), ⟨_, rfl⟩, (bkp BK163), (bkp BK177), (by repeat (first | (with_reducible first | exact HI0.out | apply IsS106.alloc | apply IsS106.drewN | apply IsS106.drew | apply IsS106.set_1 | apply IsS106.set_2 | refine IsS106.far ?_ NB0_163.out _ | refine IsS106.far ?_ NB0_177.out _) | exact HI0.out)), (by repeat (first | (with_reducible first | exact HK.out | apply KeepBut.set_ | apply keep_drewN | apply keep_drew | apply keep_alloc | refine keep_far ?_ GW163.out _ | refine keep_far ?_ GW177.out _) | exact HK.out)), (by repeat (first | (with_reducible first | exact HB.out | apply below_alloc | apply pw_below_drewN | apply below_drew1 | refine below_set ?_ (IsS106.ge HI0.out) | refine below_set ?_ GE163.out | refine below_set ?_ GE177.out) | exact HB.out))⟩)
       rintro ⟨v182, adz_v182⟩ w30 ⟨hS_, h0_, h1_, h2_, h3_, h4_, h5_, h6_⟩
       have n0_ : Aside0 (Kd.R k25 25 w30 w.heap.size (fun k_ => k_ ≠ gb163 ∧ k_ ≠ gb177) v182 y181) := ⟨h0_⟩
       have n1_ : Aside0 (∃ c_, (v182 : Value) = .slice (some adz_v182) y181.length c_) := ⟨h1_⟩
       have n2_ : Aside0 (w30.heap[gb163]? = some (.cells #[.int .i64 0, .int .i64 0, .int .i64 0, .int .i64 0] 25 (0, 0))) := ⟨h2_⟩
       have n3_ : Aside0 (w30.heap[gb177]? = some (.cells #[.int .i64 x178000_1, .int .i64 x178001_1, .int .i64 x178002_1, .int .i64 x178003_1] 25 (0, 0))) := ⟨h3_⟩
       have n4_ : Aside0 (IsS106 w0 w30 g s0_0 t185 t186) := ⟨h4_⟩
       have n5_ : Aside0 (KeepBut w w30 g none) := ⟨h5_⟩
       have n6_ : Aside0 (Below w0.heap.size w0 w30) := ⟨h6_⟩
       clear BK163
       clear BK177
       clear HI0
       clear HK
       clear HB
       clear h0_ h1_ h2_ h3_ h4_ h5_ h6_
       have HO183 := n0_
       have HA_HO183 := n1_
       have BK163 := n2_
       have BK177 := n3_
       have HI0 := n4_
       have HK := n5_
       have HB := n6_
       clear n0_ n1_ n2_ n3_ n4_ n5_ n6_
       have hHeld : w30.cell? ⟨gb177, 0, none⟩ = some (.int .i64 x178000_1) ∧ w30.cell? ⟨gb177, 1, none⟩ = some (.int .i64 x178001_1) ∧ w30.cell? ⟨gb177, 2, none⟩ = some (.int .i64 x178002_1) ∧ w30.cell? ⟨gb177, 3, none⟩ = some (.int .i64 x178003_1) := hS_
       obtain ⟨co31, eo31⟩ := HA_HO183.out
       clear HA_HO183
       subst eo31
       refine norm_ (a' := ?_) ?_ ?_
       rotate_left
       ·simp only [putAll, Act.put, sA, sB, sC]
        rfl
       refine pu 9 (some 26) (bT 13 10) HT_ ?_
       refine ro 10 (some 27) (bT 13 11) HT_ (fun K hK => ?_)
       (have p187 : 0 ≤ (t184 : Int) := od; have q187 : t184 < (y181.length : Int) := od; obtain ⟨ad187, e187, hx187_0, hx187_1, hx187_2, hx187_3⟩ := at_T25 (Kd.R_reads' HO183.out).2.2 t184 p187 q187; obtain rfl : adz_v182 = ad187 := (by injection e187))
       refine value_ (w1 := ?_) (v := ?_) (by rfl) rfl ?_ ?_
       rotate_left 2
       ·go_simp
        constructor
        ·rfl
        ·rfl
       clear hx187_0 hx187_1 hx187_2 hx187_3
       refine hK.out _ _ (eb4 BK177).out (fun hHeld => ?_)
       clear hK K
       refine norm_ (a' := ?_) ?_ ?_
       rotate_left
       ·show Act.put _ (some 27) _ = _
        simp only [Act.put, sA, sB, sC, i64_w, i32_w]
        rfl
       refine ro 11 (some 28) (bT 13 12) HT_ (fun K hK => ?_)
       refine gs Tryz.func51 #[.agg #[.int .i64 x178000_1, .int .i64 x178001_1, .int .i64 x178002_1, .int .i64 x178003_1], .agg #[.int .i64 ((rd_T25 y181 t184).f0), .int .i64 ((rd_T25 y181 t184).f1), .int .i64 ((rd_T25 y181 t184).f2), .int .i64 ((rd_T25 y181 t184).f3)]] ?_
       with_reducible refine (spec_l02Multiply.calls _ _ _ _ _ _ _ _ _ _ _ _ _ A24.out).mono ?_
       rintro e w32 ⟨rfl, hb⟩
       refine ⟨_, rfl, ?_⟩
       replace HO183 := asd (Kd.R_below (kr HO183) hb)
       replace BK163 := bB BK163 hb
       replace BK177 := bB BK177 hb
       replace HK := asd (KeepBut.trans (by repeat (first | (with_reducible first | exact HK.out | apply KeepBut.set_ | apply keep_drewN | apply keep_drew | apply keep_alloc | refine keep_far ?_ GW163.out _ | refine keep_far ?_ GW177.out _) | exact HK.out)) (KeepBut.of_below hb g none) (.inl rfl))
       replace HB := asd (below_step (by repeat (first | (with_reducible first | exact HB.out | apply below_alloc | apply pw_below_drewN | apply below_drew1 | refine below_set ?_ (IsS106.ge HI0.out) | refine below_set ?_ GE163.out | refine below_set ?_ GE177.out) | exact HB.out)) hb)
       replace HI0 := asd (IsS106.below (by repeat (first | (with_reducible first | exact HI0.out | apply IsS106.alloc | apply IsS106.drewN | apply IsS106.drew | apply IsS106.set_1 | apply IsS106.set_2 | refine IsS106.far ?_ NB0_163.out _ | refine IsS106.far ?_ NB0_177.out _) | exact HI0.out)) hb)
       (try clear hb)
       (try clear hb2)
       (try clear hk)
       (try clear hi)
       refine hK.out _ _ (eb4 BK177).out (fun hHeld => ?_)
       clear hK K
       refine norm_ (a' := ?_) ?_ ?_
       rotate_left
       ·show Act.put _ (some 28) _ = _
        simp only [Act.put, sA, sB, sC, i64_w, i32_w]
        rfl
       refine last_ (i := 12) (N := none) (bT 13 13) rfl rfl (one_of HT_.out (by kernel_rfl)) (by decide) (fun K hK => ?_)
       have hs33 : w32.cell? ⟨gb177, 0, none⟩ = some (.int .i64 x178000_1) := bcl BK177 0
       have hfs33 := blk_frozen BK177.out 0
       have hns33_0 := NB163_177.out
       have hms33_0 := NB177_163.out
       have hs34 : w32.cell? ⟨gb177, 1, none⟩ = some (.int .i64 x178001_1) := bcl BK177 1
       have hfs34 := blk_frozen BK177.out 1
       have hns34_0 := NB163_177.out
       have hms34_0 := NB177_163.out
       have hs35 : w32.cell? ⟨gb177, 2, none⟩ = some (.int .i64 x178002_1) := bcl BK177 2
       have hfs35 := blk_frozen BK177.out 2
       have hns35_0 := NB163_177.out
       have hms35_0 := NB177_163.out
       have hs36 : w32.cell? ⟨gb177, 3, none⟩ = some (.int .i64 x178003_1) := bcl BK177 3
       have hfs36 := blk_frozen BK177.out 3
       have hns36_0 := NB163_177.out
       have hms36_0 := NB177_163.out
       refine skip_ (w1 := ?_) (by rfl) rfl ?_ ?_
       rotate_left
       ·go_simp
        rfl
       refine hK.out _ _ ?_
       clear hK K
       refine done_ (done_of HT_.out (by kernel_rfl)) ?_
       try go_wp2
       go_roundg k1
       case measure => have := HK1.out; omega
       case rel => exact ⟨(wrap64 (x4_1 - 1)), (t185), (t186), (t188), (t189), (t190), (t191), (by first | rfl | (simp; done) | (simp [*]; done)), H', ⟨by have := HK1.out; omega⟩, ⟨bq1 BK163 NB163_177⟩, ⟨bq0 BK177⟩, ⟨by repeat (first | (with_reducible first | exact HI0.out | apply IsS106.alloc | apply IsS106.drewN | apply IsS106.drew | apply IsS106.set_1 | apply IsS106.set_2 | refine IsS106.far ?_ NB0_163.out _ | refine IsS106.far ?_ NB0_177.out _) | exact HI0.out)⟩, ⟨by repeat (first | (with_reducible first | exact HK.out | apply KeepBut.set_ | apply keep_drewN | apply keep_drew | apply keep_alloc | refine keep_far ?_ GW163.out _ | refine keep_far ?_ GW177.out _) | exact HK.out)⟩, ⟨by repeat (first | (with_reducible first | exact HB.out | apply below_alloc | apply pw_below_drewN | apply below_drew1 | refine below_set ?_ (IsS106.ge HI0.out) | refine below_set ?_ GE163.out | refine below_set ?_ GE177.out) | exact HB.out)⟩⟩
      ·rw [if_neg c23] at H
       exact absurd H (by simp)
     ·rw [if_neg c22] at H
      exact absurd H (by simp)
    ·rw [if_neg c20] at H
     have c20b0 : decide (0 < x4_1) = false := decide_eq_false c20
     clear c20
     obtain ⟨⟨t192, t193, t194⟩, A37, H⟩ := ob H
     try dsimp only at H
     by_cases c38 : t192 = 0
     ·rw [if_pos c38] at H
      have c38b0 : (t192 == 0) = true := beq_iff_eq.mpr c38
      have c38b1 : (t192 != 0) = false := bne_eq_false_iff_eq.mpr c38
      clear c38
      simp only [Option.some.injEq, Prod.mk.injEq] at H
      obtain ⟨rfl, rfl, rfl, rfl, rfl, rfl⟩ := H
      go_wp2_with (first | ((with_reducible refine gate_callee (f := 45) rfl ?_); refine gl 30 Tryz.func45 #[.pointer (some ⟨g, 0, none⟩), .int .i64 20] ?_; (with_reducible refine (spec_l01Next.calls _ _ _ _ _ _ _ _ w0 _ ?side1 ?side2 A37.out).mono ?_); (case side1 => repeat (first | (with_reducible first | exact HI0.out | apply IsS106.alloc | apply IsS106.drewN | apply IsS106.drew | apply IsS106.set_1 | apply IsS106.set_2 | refine IsS106.far ?_ NB0_163.out _ | refine IsS106.far ?_ NB0_177.out _) | exact HI0.out)); (case side2 => repeat (first | (with_reducible first | exact HB.out | apply below_alloc | apply pw_below_drewN | apply below_drew1 | refine below_set ?_ (IsS106.ge HI0.out) | refine below_set ?_ GE163.out | refine below_set ?_ GE177.out) | exact HB.out)); rintro e w39 ⟨rfl, hi, hb, hk⟩; refine ⟨_, rfl, ?_⟩; replace BK163 := asd (KeepBut.blk hk (g' := gb163) (o := .cells #[.int .i64 0, .int .i64 0, .int .i64 0, .int .i64 0] 25 (0, 0)) (bkp BK163) NB163_0.out (by simp)); replace BK177 := asd (KeepBut.blk hk (g' := gb177) (o := .cells #[.int .i64 x178000_1, .int .i64 x178001_1, .int .i64 x178002_1, .int .i64 x178003_1] 25 (0, 0)) (bkp BK177) NB177_0.out (by simp)); replace HK := asd (KeepBut.trans (by repeat (first | (with_reducible first | exact HK.out | apply KeepBut.set_ | apply keep_drewN | apply keep_drew | apply keep_alloc | refine keep_far ?_ GW163.out _ | refine keep_far ?_ GW177.out _) | exact HK.out)) hk (.inl rfl)); replace HB := asd (hb); replace HI0 := asd (hi); (try clear hb); (try clear hb2); (try clear hk); (try clear hi); have hnb40 := NB177_163.out; have hnc40 := NB163_177.out; have hnb41 := NB177_0.out; have hnc41 := NB0_177.out; obtain ⟨hcz42_0, hcz42_1, hcz42_2, hcz42_3, hfz42_0, hfz42_1, hfz42_2, hfz42_3⟩ := bz4 BK177; have hnb43 := NB163_0.out; have hnc43 := NB0_163.out; obtain ⟨hcz44_0, hcz44_1, hcz44_2, hcz44_3, hfz44_0, hfz44_1, hfz44_2, hfz44_3⟩ := bz4 BK163))
      refine bodyPost_ret (results_cell_row rfl _ _ gb163 25 #[.int .i64 (wrap64 (x178000_1 + 1)), .int .i64 x178001_1, .int .i64 x178002_1, .int .i64 x178003_1] (0, 0) _ rfl (bq1 BK163 NB163_177) Tryz.underlying25 rfl (by kernel_rfl)) rfl ?_
      exact ⟨by first | rfl | (simp [errW_none, errW_some] <;> rfl) | (simp [*, errW_none, errW_some] <;> rfl), by repeat (first | (with_reducible first | exact HI0.out | apply IsS106.alloc | apply IsS106.drewN | apply IsS106.drew | apply IsS106.set_1 | apply IsS106.set_2 | refine IsS106.far ?_ NB0_163.out _ | refine IsS106.far ?_ NB0_177.out _) | exact HI0.out), by repeat (first | (with_reducible first | exact HB.out | apply below_alloc | apply pw_below_drewN | apply below_drew1 | refine below_set ?_ (IsS106.ge HI0.out) | refine below_set ?_ GE163.out | refine below_set ?_ GE177.out) | exact HB.out), by repeat (first | (with_reducible first | exact HK.out | apply KeepBut.set_ | apply keep_drewN | apply keep_drew | apply keep_alloc | refine keep_far ?_ GW163.out _ | refine keep_far ?_ GW177.out _) | exact HK.out)⟩
     ·rw [if_neg c38] at H
      have c38b0 : (t192 == 0) = false := beq_eq_false_iff_ne.mpr c38
      have c38b1 : (t192 != 0) = true := bne_iff_ne.mpr c38
      by_cases c45 : t192 = 1
      ·rw [if_pos c45] at H
       have c45b0 : (t192 == 1) = true := beq_iff_eq.mpr c45
       have c45b1 : (t192 != 1) = false := bne_eq_false_iff_eq.mpr c45
       clear c45
       obtain ⟨y195, hy195⟩ : ∃ y_ : List Int, y_ = (([999, 1000, 1001] : List Int)) := ⟨_, rfl⟩
       replace H : ((spec_l01Pick.f s0_0 t193 t194 y195).bind fun bt198 => (some (1, bt198.1, 0, 1, bt198.2.1, bt198.2.2))) = some (r1, r2, r3, r4, r5, r6) := by first | (rw [hy195]; with_reducible exact H) | (have H2_ := (Option.bind_some _ _).symm.trans H; rw [hy195]; with_reducible exact H2_) | (have H2_ := (Option.bind_some _ _).symm.trans H; with_reducible exact H2_) | with_reducible exact H | (rw [hy195]; exact H) | exact H
       have Ny195 := Aside0.mk hy195
       clear hy195
       obtain ⟨⟨t198, t199, t200⟩, A46, H⟩ := ob H
       try dsimp only at H
       simp only [Option.some.injEq, Prod.mk.injEq] at H
       obtain ⟨rfl, rfl, rfl, rfl, rfl, rfl⟩ := H
       go_wp2_with (first | ((with_reducible refine gate_callee (f := 45) rfl ?_); refine gl 30 Tryz.func45 #[.pointer (some ⟨g, 0, none⟩), .int .i64 20] ?_; (with_reducible refine (spec_l01Next.calls _ _ _ _ _ _ _ _ w0 _ ?side1 ?side2 A37.out).mono ?_); (case side1 => repeat (first | (with_reducible first | exact HI0.out | apply IsS106.alloc | apply IsS106.drewN | apply IsS106.drew | apply IsS106.set_1 | apply IsS106.set_2 | refine IsS106.far ?_ NB0_163.out _ | refine IsS106.far ?_ NB0_177.out _) | exact HI0.out)); (case side2 => repeat (first | (with_reducible first | exact HB.out | apply below_alloc | apply pw_below_drewN | apply below_drew1 | refine below_set ?_ (IsS106.ge HI0.out) | refine below_set ?_ GE163.out | refine below_set ?_ GE177.out) | exact HB.out)); rintro e w47 ⟨rfl, hi, hb, hk⟩; refine ⟨_, rfl, ?_⟩; replace BK163 := asd (KeepBut.blk hk (g' := gb163) (o := .cells #[.int .i64 0, .int .i64 0, .int .i64 0, .int .i64 0] 25 (0, 0)) (bkp BK163) NB163_0.out (by simp)); replace BK177 := asd (KeepBut.blk hk (g' := gb177) (o := .cells #[.int .i64 x178000_1, .int .i64 x178001_1, .int .i64 x178002_1, .int .i64 x178003_1] 25 (0, 0)) (bkp BK177) NB177_0.out (by simp)); replace HK := asd (KeepBut.trans (by repeat (first | (with_reducible first | exact HK.out | apply KeepBut.set_ | apply keep_drewN | apply keep_drew | apply keep_alloc | refine keep_far ?_ GW163.out _ | refine keep_far ?_ GW177.out _) | exact HK.out)) hk (.inl rfl)); replace HB := asd (hb); replace HI0 := asd (hi); (try clear hb); (try clear hb2); (try clear hk); (try clear hi)) | ((with_reducible refine gd 40 rfl ?_); refine Kd.R_lit (Kd.int .i64) _ 2 ?hg (N := 40) ?hd (xs := ([999, 1000, 1001] : List Int)) (inner := [.int .i64 999, .int .i64 1000, .int .i64 1001]) (ok := fun _ => True) (okp := fun _ => True) ?hr ?hp (fun _ hk => hk) trivial (Below.refl _ _) (Nat.le_refl _) (by simp) ?_; (case hd => rfl); (case hg => rfl); (case hr => first | (go_simp; done) | (go_simp; rfl)); (case hp => exact (Reps.one (show Kd.M (Kd.int .i64) _ _ _ 999 [.int .i64 999] from rfl) (Reps.one (show Kd.M (Kd.int .i64) _ _ _ 1000 [.int .i64 1000] from rfl) (Reps.one (show Kd.M (Kd.int .i64) _ _ _ 1001 [.int .i64 1001] from rfl) (Reps.none _ _))))); intro v196 w48 ho49 hb hg_ hnew_; clear hg_ hnew_; (first | rw [← Ny195.out] at ho49 | (simp only [Int.reduceToNat] at ho49; rw [← Ny195.out] at ho49)); have HO197 := asd (Kd.R_lower ho49 (keep_size (w := w) (g := g) (row := none) (by repeat (first | (with_reducible first | exact HK.out | apply KeepBut.set_ | apply keep_drewN | apply keep_drew | apply keep_alloc | refine keep_far ?_ GW163.out _ | refine keep_far ?_ GW177.out _) | exact HK.out)))); replace BK163 := bB BK163 hb; replace BK177 := bB BK177 hb; replace HK := asd (KeepBut.trans (by repeat (first | (with_reducible first | exact HK.out | apply KeepBut.set_ | apply keep_drewN | apply keep_drew | apply keep_alloc | refine keep_far ?_ GW163.out _ | refine keep_far ?_ GW177.out _) | exact HK.out)) (KeepBut.of_below hb g none) (.inl rfl)); replace HB := asd (below_step (by repeat (first | (with_reducible first | exact HB.out | apply below_alloc | apply pw_below_drewN | apply below_drew1 | refine below_set ?_ (IsS106.ge HI0.out) | refine below_set ?_ GE163.out | refine below_set ?_ GE177.out) | exact HB.out)) hb); replace HI0 := asd (IsS106.below (by repeat (first | (with_reducible first | exact HI0.out | apply IsS106.alloc | apply IsS106.drewN | apply IsS106.drew | apply IsS106.set_1 | apply IsS106.set_2 | refine IsS106.far ?_ NB0_163.out _ | refine IsS106.far ?_ NB0_177.out _) | exact HI0.out)) hb); clear hb ho49; obtain ⟨Ao50, co50, eo50⟩ := Kd.R_slice HO197.out; subst eo50) | ((with_reducible refine gate_callee (f := 95) rfl ?_); refine gl 41 Tryz.func95 #[.pointer (some ⟨g, 0, none⟩), .slice Ao50 y195.length co50] ?_; (with_reducible refine (spec_l01Pick.calls _ _ _ _ _ _ _ _ _ _ w0 _ ?side1 ?side2 ?side3 ?side4 ?side5 A46.out).mono ?_); (case side1 => repeat (first | (with_reducible first | exact HI0.out | apply IsS106.alloc | apply IsS106.drewN | apply IsS106.drew | apply IsS106.set_1 | apply IsS106.set_2 | refine IsS106.far ?_ NB0_163.out _ | refine IsS106.far ?_ NB0_177.out _) | exact HI0.out)); (case side2 => repeat (first | (with_reducible first | exact HB.out | apply below_alloc | apply pw_below_drewN | apply below_drew1 | refine below_set ?_ (IsS106.ge HI0.out) | refine below_set ?_ GE163.out | refine below_set ?_ GE177.out) | exact HB.out)); (case side3 => exact ks (Kd.R_reads' HO197.out).2.2); (case side4 => exact (Kd.R_reads' HO197.out).2.1); (case side5 => exact far_slice (IsS106.own_ne HI0.out HO197.out (by decide))); rintro e w51 ⟨rfl, hi, hb, hk⟩; refine ⟨_, rfl, ?_⟩; replace BK163 := asd (KeepBut.blk hk (g' := gb163) (o := .cells #[.int .i64 0, .int .i64 0, .int .i64 0, .int .i64 0] 25 (0, 0)) (bkp BK163) NB163_0.out (by simp)); replace BK177 := asd (KeepBut.blk hk (g' := gb177) (o := .cells #[.int .i64 x178000_1, .int .i64 x178001_1, .int .i64 x178002_1, .int .i64 x178003_1] 25 (0, 0)) (bkp BK177) NB177_0.out (by simp)); replace HO197 := asd (Kd.R_mono (Kd.R_keep (IsS106.apart (show IsS106 w0 _ g s0_0 t193 t194 from by repeat (first | (with_reducible first | exact HI0.out | apply IsS106.alloc | apply IsS106.drewN | apply IsS106.drew | apply IsS106.set_1 | apply IsS106.set_2 | refine IsS106.far ?_ NB0_163.out _ | refine IsS106.far ?_ NB0_177.out _) | exact HI0.out)) (kr HO197) (by decide)) hk (fun _ h => h.2)) (fun _ h => h.1)); replace HK := asd (KeepBut.trans (by repeat (first | (with_reducible first | exact HK.out | apply KeepBut.set_ | apply keep_drewN | apply keep_drew | apply keep_alloc | refine keep_far ?_ GW163.out _ | refine keep_far ?_ GW177.out _) | exact HK.out)) hk (.inl rfl)); replace HB := asd (hb); replace HI0 := asd (hi); (try clear hb); (try clear hb2); (try clear hk); (try clear hi); have hnb52 := NB177_163.out; have hnc52 := NB163_177.out; have hnb53 := NB177_0.out; have hnc53 := NB0_177.out; obtain ⟨hcz54_0, hcz54_1, hcz54_2, hcz54_3, hfz54_0, hfz54_1, hfz54_2, hfz54_3⟩ := bz4 BK177; have hnb55 := NB163_0.out; have hnc55 := NB0_163.out; obtain ⟨hcz56_0, hcz56_1, hcz56_2, hcz56_3, hfz56_0, hfz56_1, hfz56_2, hfz56_3⟩ := bz4 BK163))
       refine bodyPost_ret (results_cell_row rfl _ _ gb163 25 #[.int .i64 1, .int .i64 t198, .int .i64 0, .int .i64 1] (0, 0) _ rfl (bq1 BK163 NB163_177) Tryz.underlying25 rfl (by kernel_rfl)) rfl ?_
       exact ⟨by first | rfl | (simp [errW_none, errW_some] <;> rfl) | (simp [*, errW_none, errW_some] <;> rfl), by repeat (first | (with_reducible first | exact HI0.out | apply IsS106.alloc | apply IsS106.drewN | apply IsS106.drew | apply IsS106.set_1 | apply IsS106.set_2 | refine IsS106.far ?_ NB0_163.out _ | refine IsS106.far ?_ NB0_177.out _) | exact HI0.out), by repeat (first | (with_reducible first | exact HB.out | apply below_alloc | apply pw_below_drewN | apply below_drew1 | refine below_set ?_ (IsS106.ge HI0.out) | refine below_set ?_ GE163.out | refine below_set ?_ GE177.out) | exact HB.out), by repeat (first | (with_reducible first | exact HK.out | apply KeepBut.set_ | apply keep_drewN | apply keep_drew | apply keep_alloc | refine keep_far ?_ GW163.out _ | refine keep_far ?_ GW177.out _) | exact HK.out)⟩
      ·rw [if_neg c45] at H
       have c45b0 : (t192 == 1) = false := beq_eq_false_iff_ne.mpr c45
       have c45b1 : (t192 != 1) = true := bne_iff_ne.mpr c45
       simp only [Option.some.injEq, Prod.mk.injEq] at H
       obtain ⟨rfl, rfl, rfl, rfl, rfl, rfl⟩ := H
       go_wp2_with (first | ((with_reducible refine gate_callee (f := 45) rfl ?_); refine gl 30 Tryz.func45 #[.pointer (some ⟨g, 0, none⟩), .int .i64 20] ?_; (with_reducible refine (spec_l01Next.calls _ _ _ _ _ _ _ _ w0 _ ?side1 ?side2 A37.out).mono ?_); (case side1 => repeat (first | (with_reducible first | exact HI0.out | apply IsS106.alloc | apply IsS106.drewN | apply IsS106.drew | apply IsS106.set_1 | apply IsS106.set_2 | refine IsS106.far ?_ NB0_163.out _ | refine IsS106.far ?_ NB0_177.out _) | exact HI0.out)); (case side2 => repeat (first | (with_reducible first | exact HB.out | apply below_alloc | apply pw_below_drewN | apply below_drew1 | refine below_set ?_ (IsS106.ge HI0.out) | refine below_set ?_ GE163.out | refine below_set ?_ GE177.out) | exact HB.out)); rintro e w57 ⟨rfl, hi, hb, hk⟩; refine ⟨_, rfl, ?_⟩; replace BK163 := asd (KeepBut.blk hk (g' := gb163) (o := .cells #[.int .i64 0, .int .i64 0, .int .i64 0, .int .i64 0] 25 (0, 0)) (bkp BK163) NB163_0.out (by simp)); replace BK177 := asd (KeepBut.blk hk (g' := gb177) (o := .cells #[.int .i64 x178000_1, .int .i64 x178001_1, .int .i64 x178002_1, .int .i64 x178003_1] 25 (0, 0)) (bkp BK177) NB177_0.out (by simp)); replace HK := asd (KeepBut.trans (by repeat (first | (with_reducible first | exact HK.out | apply KeepBut.set_ | apply keep_drewN | apply keep_drew | apply keep_alloc | refine keep_far ?_ GW163.out _ | refine keep_far ?_ GW177.out _) | exact HK.out)) hk (.inl rfl)); replace HB := asd (hb); replace HI0 := asd (hi); (try clear hb); (try clear hb2); (try clear hk); (try clear hi); have hnb58 := NB177_163.out; have hnc58 := NB163_177.out; have hnb59 := NB177_0.out; have hnc59 := NB0_177.out; obtain ⟨hcz60_0, hcz60_1, hcz60_2, hcz60_3, hfz60_0, hfz60_1, hfz60_2, hfz60_3⟩ := bz4 BK177; have hnb61 := NB163_0.out; have hnc61 := NB0_163.out; obtain ⟨hcz62_0, hcz62_1, hcz62_2, hcz62_3, hfz62_0, hfz62_1, hfz62_2, hfz62_3⟩ := bz4 BK163))
       refine bodyPost_ret (results_cell_row rfl _ _ gb163 25 #[.int .i64 x178000_1, .int .i64 x178001_1, .int .i64 x178002_1, .int .i64 x178003_1] (0, 0) _ rfl (bq0 BK163) Tryz.underlying25 rfl (by kernel_rfl)) rfl ?_
       exact ⟨by first | rfl | (simp [errW_none, errW_some] <;> rfl) | (simp [*, errW_none, errW_some] <;> rfl), by repeat (first | (with_reducible first | exact HI0.out | apply IsS106.alloc | apply IsS106.drewN | apply IsS106.drew | apply IsS106.set_1 | apply IsS106.set_2 | refine IsS106.far ?_ NB0_163.out _ | refine IsS106.far ?_ NB0_177.out _) | exact HI0.out), by repeat (first | (with_reducible first | exact HB.out | apply below_alloc | apply pw_below_drewN | apply below_drew1 | refine below_set ?_ (IsS106.ge HI0.out) | refine below_set ?_ GE163.out | refine below_set ?_ GE177.out) | exact HB.out), by repeat (first | (with_reducible first | exact HK.out | apply KeepBut.set_ | apply keep_drewN | apply keep_drew | apply keep_alloc | refine keep_far ?_ GW163.out _ | refine keep_far ?_ GW177.out _) | exact HK.out)⟩

/-! ### spec_DrawAxisOf: function 15 -/
def spec_DrawAxisOf.f (k : Nat) (l0 : List Int) : Option (Int × Int × Int × Int) := (spec_l01From.f k l0).bind fun bt202 => ((spec_l02Draw.f k bt202.1 bt202.2.1 bt202.2.2).bind fun bt206 => ((spec_l01Next.f bt202.1 bt206.2.2.2.2.1 bt206.2.2.2.2.2 2).bind fun bt213 => (if bt213.1 = 0 then ((spec_l02Multiply.f bt206.1 bt206.2.1 bt206.2.2.1 bt206.2.2.2.1 1 0 0 (-1)).bind fun bt216 => (some (bt216.1, bt216.2.1, bt216.2.2.1, bt216.2.2.2))) else (some (bt206.1, bt206.2.1, bt206.2.2.1, bt206.2.2.2.1)))))
set_option maxHeartbeats 8000000 in
set_option maxRecDepth 100000 in
theorem spec_DrawAxisOf.calls (k : Nat) (A0 : Option Addr) (c0 : Nat) (l0 : List Int) (r1 : Int) (r2 : Int) (r3 : Int) (r4 : Int) (w : World) (hr0 : Kd.C (Kd.int .u8) w A0 l0.length l0) (hc0 : l0.length ≤ c0) (h : spec_DrawAxisOf.f k l0 = some (r1, r2, r3, r4)) :
  Calls Tryz.prog 15 #[.slice A0 l0.length c0] w fun e w' => e = .returned (.agg #[.int .i64 r1, .int .i64 r2, .int .i64 r3, .int .i64 r4]) ∧ Below w.heap.size w w' := by
 have hu25 := Tryz.underlying25
 have HR0 := Aside0.mk hr0
 have HC0 := Aside0.mk hc0
 clear hr0 hc0
 have HB := asd (Below.refl w.heap.size w)
 have H : ((spec_l01From.f k l0).bind fun bt202 => ((spec_l02Draw.f k bt202.1 bt202.2.1 bt202.2.2).bind fun bt206 => ((spec_l01Next.f bt202.1 bt206.2.2.2.2.1 bt206.2.2.2.2.2 2).bind fun bt213 => (if bt213.1 = 0 then ((spec_l02Multiply.f bt206.1 bt206.2.1 bt206.2.2.1 bt206.2.2.2.1 1 0 0 (-1)).bind fun bt216 => (some (bt216.1, bt216.2.1, bt216.2.2.1, bt216.2.2.2))) else (some (bt206.1, bt206.2.1, bt206.2.2.1, bt206.2.2.2.1)))))) = some (r1, r2, r3, r4) := h
 clear h
 obtain ⟨⟨t202, t203, t204⟩, A2, H⟩ := ob H
 try dsimp only at H
 obtain ⟨⟨t206, t207, t208, t209, t210, t211⟩, A3, H⟩ := ob H
 try dsimp only at H
 obtain ⟨⟨t213, t214, t215⟩, A4, H⟩ := ob H
 try dsimp only at H
 by_cases c5 : t213 = 0
 ·rw [if_pos c5] at H
  have c5b0 : (t213 == 0) = true := beq_iff_eq.mpr c5
  have c5b1 : (t213 != 0) = false := bne_eq_false_iff_eq.mpr c5
  clear c5
  obtain ⟨⟨t216, t217, t218, t219⟩, A6, H⟩ := ob H
  try dsimp only at H
  simp only [Option.some.injEq, Prod.mk.injEq] at H
  obtain ⟨rfl, rfl, rfl, rfl⟩ := H
  go_enter Tryz.func15, Tryz.ntmps15
  go_wp2_with (first | ((with_reducible refine gd 2 rfl ?_); refine bx #[.int .i64 0, .int .i64 0, .int .i64 0, .int .i64 0] 25 ?_; intro gb201 hg w7 BK201 hb; have GE201 := ngw0 hg HB; replace HB := bS0 HB hb; clear hb hg) | ((with_reducible refine gate_callee (f := 33) rfl ?_); refine gl 6 Tryz.func33 #[.slice A0 l0.length c0] ?_; (with_reducible refine (spec_l01From.calls _ _ _ _ _ _ _ w _ ?side1 ?side2 ?side3 A2.out).mono ?_); (case side1 => repeat (first | (with_reducible first | exact HB.out | apply below_alloc | apply pw_below_drewN | apply below_drew1 | refine below_set ?_ GE201.out) | exact HB.out)); (case side2 => exact HR0.out); (case side3 => exact HC0.out); rintro e w8 ⟨g205, rfl, hi, hb, hb2⟩; refine ⟨_, rfl, ?_⟩; replace HB := asd (hb); have HI205 := asd (hi); have NB205_201 := asd (IsS106.ne_blk hi (bbl BK201 hb2) (by decide)); have NB201_205 := asd (Ne.symm (IsS106.ne_blk hi (bbl BK201 hb2) (by decide))); replace BK201 := asd (bbl BK201 hb2); (try clear hb); (try clear hb2); (try clear hk); (try clear hi)) | ((with_reducible refine gate_callee (f := 50) rfl ?_); refine gl 8 Tryz.func50 #[.pointer (some ⟨g205, 0, none⟩)] ?_; (with_reducible refine (spec_l02Draw.calls _ _ _ _ _ _ _ _ _ _ _ w _ ?side1 ?side2 A3.out).mono ?_); (case side1 => repeat (first | (with_reducible first | exact HI205.out | apply IsS106.alloc | apply IsS106.drewN | apply IsS106.drew | apply IsS106.set_1 | apply IsS106.set_2 | refine IsS106.far ?_ NB205_201.out _) | exact HI205.out)); (case side2 => repeat (first | (with_reducible first | exact HB.out | apply below_alloc | apply pw_below_drewN | apply below_drew1 | refine below_set ?_ (IsS106.ge HI205.out) | refine below_set ?_ GE201.out) | exact HB.out)); rintro e w9 ⟨rfl, hi, hb, hk⟩; refine ⟨_, rfl, ?_⟩; replace BK201 := asd (KeepBut.blk hk (g' := gb201) (o := .cells #[.int .i64 0, .int .i64 0, .int .i64 0, .int .i64 0] 25 (0, 0)) (bkp BK201) NB201_205.out (by simp)); replace HB := asd (hb); replace HI205 := asd (hi); (try clear hb); (try clear hb2); (try clear hk); (try clear hi)) | ((with_reducible refine gd 4 rfl ?_); refine bx #[.int .i64 0, .int .i64 0, .int .i64 0, .int .i64 0] 25 ?_; intro gb212 hg w10 BK212 hb; have GW212 := asd ((by rw [hg]; exact (below_size (by repeat (first | (with_reducible first | exact HB.out | apply below_alloc | apply pw_below_drewN | apply below_drew1 | refine below_set ?_ (IsS106.ge HI205.out) | refine below_set ?_ GE201.out) | exact HB.out))) : w.heap.size ≤ gb212)); have GE212 := asd ((by rw [hg]; exact (below_size (by repeat (first | (with_reducible first | exact HB.out | apply below_alloc | apply pw_below_drewN | apply below_drew1 | refine below_set ?_ (IsS106.ge HI205.out) | refine below_set ?_ GE201.out) | exact HB.out))) : w.heap.size ≤ gb212)); replace HB := asd (below_step (by repeat (first | (with_reducible first | exact HB.out | apply below_alloc | apply pw_below_drewN | apply below_drew1 | refine below_set ?_ (IsS106.ge HI205.out) | refine below_set ?_ GE201.out) | exact HB.out)) hb); have NB201_212 := nlt hg BK201; have NB212_201 := nsy (nlt hg BK201); replace BK201 := bB BK201 hb; have NB205_212 := asd ((by rw [hg]; exact Nat.ne_of_lt (IsS106.lt (show IsS106 w _ g205 t202 t210 t211 from by repeat (first | (with_reducible first | exact HI205.out | apply IsS106.alloc | apply IsS106.drewN | apply IsS106.drew | apply IsS106.set_1 | apply IsS106.set_2 | refine IsS106.far ?_ NB205_201.out _) | exact HI205.out))) : g205 ≠ gb212)); have NB212_205 := asd ((by rw [hg]; exact Nat.ne_of_gt (IsS106.lt (show IsS106 w _ g205 t202 t210 t211 from by repeat (first | (with_reducible first | exact HI205.out | apply IsS106.alloc | apply IsS106.drewN | apply IsS106.drew | apply IsS106.set_1 | apply IsS106.set_2 | refine IsS106.far ?_ NB205_201.out _) | exact HI205.out))) : gb212 ≠ g205)); replace HI205 := asd (IsS106.below (by repeat (first | (with_reducible first | exact HI205.out | apply IsS106.alloc | apply IsS106.drewN | apply IsS106.drew | apply IsS106.set_1 | apply IsS106.set_2 | refine IsS106.far ?_ NB205_201.out _) | exact HI205.out)) hb); clear hb hg; have hnb11 := NB212_201.out; have hnc11 := NB201_212.out; have hnb12 := NB212_205.out; have hnc12 := NB205_212.out; obtain ⟨hcz13_0, hcz13_1, hcz13_2, hcz13_3, hfz13_0, hfz13_1, hfz13_2, hfz13_3⟩ := bz4 BK212) | ((with_reducible refine gate_callee (f := 45) rfl ?_); refine gl 10 Tryz.func45 #[.pointer (some ⟨g205, 0, none⟩), .int .i64 2] ?_; (with_reducible refine (spec_l01Next.calls _ _ _ _ _ _ _ _ w _ ?side1 ?side2 A4.out).mono ?_); (case side1 => repeat (first | (with_reducible first | exact HI205.out | apply IsS106.alloc | apply IsS106.drewN | apply IsS106.drew | apply IsS106.set_1 | apply IsS106.set_2 | refine IsS106.far ?_ NB205_201.out _ | refine IsS106.far ?_ NB205_212.out _) | exact HI205.out)); (case side2 => repeat (first | (with_reducible first | exact HB.out | apply below_alloc | apply pw_below_drewN | apply below_drew1 | refine below_set ?_ (IsS106.ge HI205.out) | refine below_set ?_ GE201.out | refine below_set ?_ GE212.out) | exact HB.out)); rintro e w14 ⟨rfl, hi, hb, hk⟩; refine ⟨_, rfl, ?_⟩; replace BK201 := asd (KeepBut.blk hk (g' := gb201) (o := .cells #[.int .i64 0, .int .i64 0, .int .i64 0, .int .i64 0] 25 (0, 0)) (bq1 BK201 NB201_212) NB201_205.out (by simp)); replace BK212 := asd (KeepBut.blk hk (g' := gb212) (o := .cells #[.int .i64 t206, .int .i64 t207, .int .i64 t208, .int .i64 t209] 25 (0, 0)) (bq0 BK212) NB212_205.out (by simp)); replace HB := asd (hb); replace HI205 := asd (hi); (try clear hb); (try clear hb2); (try clear hk); (try clear hi); obtain ⟨hcz15_0, hcz15_1, hcz15_2, hcz15_3, hfz15_0, hfz15_1, hfz15_2, hfz15_3⟩ := bz4 BK212) | ((with_reducible refine gate_callee (f := 51) rfl ?_); refine gl 14 Tryz.func51 #[.agg #[.int .i64 t206, .int .i64 t207, .int .i64 t208, .int .i64 t209], .agg #[.int .i64 1, .int .i64 0, .int .i64 0, .int .i64 (-1)]] ?_; (with_reducible refine (spec_l02Multiply.calls _ _ _ _ _ _ _ _ _ _ _ _ _ A6.out).mono ?_); rintro e w16 ⟨rfl, hb⟩; refine ⟨_, rfl, ?_⟩; replace BK201 := bB BK201 hb; replace BK212 := bB BK212 hb; replace HB := asd (below_step (by repeat (first | (with_reducible first | exact HB.out | apply below_alloc | apply pw_below_drewN | apply below_drew1 | refine below_set ?_ (IsS106.ge HI205.out) | refine below_set ?_ GE201.out | refine below_set ?_ GE212.out) | exact HB.out)) hb); replace HI205 := asd (IsS106.below (by repeat (first | (with_reducible first | exact HI205.out | apply IsS106.alloc | apply IsS106.drewN | apply IsS106.drew | apply IsS106.set_1 | apply IsS106.set_2 | refine IsS106.far ?_ NB205_201.out _ | refine IsS106.far ?_ NB205_212.out _) | exact HI205.out)) hb); (try clear hb); obtain ⟨hcz17_0, hcz17_1, hcz17_2, hcz17_3, hfz17_0, hfz17_1, hfz17_2, hfz17_3⟩ := bz4 BK212; have hnb18 := NB201_205.out; have hnc18 := NB205_201.out; obtain ⟨hcz19_0, hcz19_1, hcz19_2, hcz19_3, hfz19_0, hfz19_1, hfz19_2, hfz19_3⟩ := bz4 BK201))
  refine bodyPost_ret (results_cell_row rfl _ _ gb201 25 #[.int .i64 t216, .int .i64 t217, .int .i64 t218, .int .i64 t219] (0, 0) _ rfl (bq1 BK201 NB201_212) Tryz.underlying25 rfl (by kernel_rfl)) rfl ?_
  exact ⟨by first | rfl | (simp [errW_none, errW_some] <;> rfl) | (simp [*, errW_none, errW_some] <;> rfl), by repeat (first | (with_reducible first | exact HB.out | apply below_alloc | apply pw_below_drewN | apply below_drew1 | refine below_set ?_ (IsS106.ge HI205.out) | refine below_set ?_ GE201.out | refine below_set ?_ GE212.out) | exact HB.out)⟩
 ·rw [if_neg c5] at H
  have c5b0 : (t213 == 0) = false := beq_eq_false_iff_ne.mpr c5
  have c5b1 : (t213 != 0) = true := bne_iff_ne.mpr c5
  simp only [Option.some.injEq, Prod.mk.injEq] at H
  obtain ⟨rfl, rfl, rfl, rfl⟩ := H
  go_enter Tryz.func15, Tryz.ntmps15
  go_wp2_with (first | ((with_reducible refine gd 2 rfl ?_); refine bx #[.int .i64 0, .int .i64 0, .int .i64 0, .int .i64 0] 25 ?_; intro gb201 hg w20 BK201 hb; have GE201 := ngw0 hg HB; replace HB := bS0 HB hb; clear hb hg) | ((with_reducible refine gate_callee (f := 33) rfl ?_); refine gl 6 Tryz.func33 #[.slice A0 l0.length c0] ?_; (with_reducible refine (spec_l01From.calls _ _ _ _ _ _ _ w _ ?side1 ?side2 ?side3 A2.out).mono ?_); (case side1 => repeat (first | (with_reducible first | exact HB.out | apply below_alloc | apply pw_below_drewN | apply below_drew1 | refine below_set ?_ GE201.out) | exact HB.out)); (case side2 => exact HR0.out); (case side3 => exact HC0.out); rintro e w21 ⟨g205, rfl, hi, hb, hb2⟩; refine ⟨_, rfl, ?_⟩; replace HB := asd (hb); have HI205 := asd (hi); have NB205_201 := asd (IsS106.ne_blk hi (bbl BK201 hb2) (by decide)); have NB201_205 := asd (Ne.symm (IsS106.ne_blk hi (bbl BK201 hb2) (by decide))); replace BK201 := asd (bbl BK201 hb2); (try clear hb); (try clear hb2); (try clear hk); (try clear hi)) | ((with_reducible refine gate_callee (f := 50) rfl ?_); refine gl 8 Tryz.func50 #[.pointer (some ⟨g205, 0, none⟩)] ?_; (with_reducible refine (spec_l02Draw.calls _ _ _ _ _ _ _ _ _ _ _ w _ ?side1 ?side2 A3.out).mono ?_); (case side1 => repeat (first | (with_reducible first | exact HI205.out | apply IsS106.alloc | apply IsS106.drewN | apply IsS106.drew | apply IsS106.set_1 | apply IsS106.set_2 | refine IsS106.far ?_ NB205_201.out _) | exact HI205.out)); (case side2 => repeat (first | (with_reducible first | exact HB.out | apply below_alloc | apply pw_below_drewN | apply below_drew1 | refine below_set ?_ (IsS106.ge HI205.out) | refine below_set ?_ GE201.out) | exact HB.out)); rintro e w22 ⟨rfl, hi, hb, hk⟩; refine ⟨_, rfl, ?_⟩; replace BK201 := asd (KeepBut.blk hk (g' := gb201) (o := .cells #[.int .i64 0, .int .i64 0, .int .i64 0, .int .i64 0] 25 (0, 0)) (bkp BK201) NB201_205.out (by simp)); replace HB := asd (hb); replace HI205 := asd (hi); (try clear hb); (try clear hb2); (try clear hk); (try clear hi)) | ((with_reducible refine gd 4 rfl ?_); refine bx #[.int .i64 0, .int .i64 0, .int .i64 0, .int .i64 0] 25 ?_; intro gb212 hg w23 BK212 hb; have GW212 := asd ((by rw [hg]; exact (below_size (by repeat (first | (with_reducible first | exact HB.out | apply below_alloc | apply pw_below_drewN | apply below_drew1 | refine below_set ?_ (IsS106.ge HI205.out) | refine below_set ?_ GE201.out) | exact HB.out))) : w.heap.size ≤ gb212)); have GE212 := asd ((by rw [hg]; exact (below_size (by repeat (first | (with_reducible first | exact HB.out | apply below_alloc | apply pw_below_drewN | apply below_drew1 | refine below_set ?_ (IsS106.ge HI205.out) | refine below_set ?_ GE201.out) | exact HB.out))) : w.heap.size ≤ gb212)); replace HB := asd (below_step (by repeat (first | (with_reducible first | exact HB.out | apply below_alloc | apply pw_below_drewN | apply below_drew1 | refine below_set ?_ (IsS106.ge HI205.out) | refine below_set ?_ GE201.out) | exact HB.out)) hb); have NB201_212 := nlt hg BK201; have NB212_201 := nsy (nlt hg BK201); replace BK201 := bB BK201 hb; have NB205_212 := asd ((by rw [hg]; exact Nat.ne_of_lt (IsS106.lt (show IsS106 w _ g205 t202 t210 t211 from by repeat (first | (with_reducible first | exact HI205.out | apply IsS106.alloc | apply IsS106.drewN | apply IsS106.drew | apply IsS106.set_1 | apply IsS106.set_2 | refine IsS106.far ?_ NB205_201.out _) | exact HI205.out))) : g205 ≠ gb212)); have NB212_205 := asd ((by rw [hg]; exact Nat.ne_of_gt (IsS106.lt (show IsS106 w _ g205 t202 t210 t211 from by repeat (first | (with_reducible first | exact HI205.out | apply IsS106.alloc | apply IsS106.drewN | apply IsS106.drew | apply IsS106.set_1 | apply IsS106.set_2 | refine IsS106.far ?_ NB205_201.out _) | exact HI205.out))) : gb212 ≠ g205)); replace HI205 := asd (IsS106.below (by repeat (first | (with_reducible first | exact HI205.out | apply IsS106.alloc | apply IsS106.drewN | apply IsS106.drew | apply IsS106.set_1 | apply IsS106.set_2 | refine IsS106.far ?_ NB205_201.out _) | exact HI205.out)) hb); clear hb hg; have hnb24 := NB212_201.out; have hnc24 := NB201_212.out; have hnb25 := NB212_205.out; have hnc25 := NB205_212.out; obtain ⟨hcz26_0, hcz26_1, hcz26_2, hcz26_3, hfz26_0, hfz26_1, hfz26_2, hfz26_3⟩ := bz4 BK212) | ((with_reducible refine gate_callee (f := 45) rfl ?_); refine gl 10 Tryz.func45 #[.pointer (some ⟨g205, 0, none⟩), .int .i64 2] ?_; (with_reducible refine (spec_l01Next.calls _ _ _ _ _ _ _ _ w _ ?side1 ?side2 A4.out).mono ?_); (case side1 => repeat (first | (with_reducible first | exact HI205.out | apply IsS106.alloc | apply IsS106.drewN | apply IsS106.drew | apply IsS106.set_1 | apply IsS106.set_2 | refine IsS106.far ?_ NB205_201.out _ | refine IsS106.far ?_ NB205_212.out _) | exact HI205.out)); (case side2 => repeat (first | (with_reducible first | exact HB.out | apply below_alloc | apply pw_below_drewN | apply below_drew1 | refine below_set ?_ (IsS106.ge HI205.out) | refine below_set ?_ GE201.out | refine below_set ?_ GE212.out) | exact HB.out)); rintro e w27 ⟨rfl, hi, hb, hk⟩; refine ⟨_, rfl, ?_⟩; replace BK201 := asd (KeepBut.blk hk (g' := gb201) (o := .cells #[.int .i64 0, .int .i64 0, .int .i64 0, .int .i64 0] 25 (0, 0)) (bq1 BK201 NB201_212) NB201_205.out (by simp)); replace BK212 := asd (KeepBut.blk hk (g' := gb212) (o := .cells #[.int .i64 t206, .int .i64 t207, .int .i64 t208, .int .i64 t209] 25 (0, 0)) (bq0 BK212) NB212_205.out (by simp)); replace HB := asd (hb); replace HI205 := asd (hi); (try clear hb); (try clear hb2); (try clear hk); (try clear hi); obtain ⟨hcz28_0, hcz28_1, hcz28_2, hcz28_3, hfz28_0, hfz28_1, hfz28_2, hfz28_3⟩ := bz4 BK212; have hnb29 := NB201_205.out; have hnc29 := NB205_201.out; obtain ⟨hcz30_0, hcz30_1, hcz30_2, hcz30_3, hfz30_0, hfz30_1, hfz30_2, hfz30_3⟩ := bz4 BK201))
  refine bodyPost_ret (results_cell_row rfl _ _ gb201 25 #[.int .i64 t206, .int .i64 t207, .int .i64 t208, .int .i64 t209] (0, 0) _ rfl (bq0 BK201) Tryz.underlying25 rfl (by kernel_rfl)) rfl ?_
  exact ⟨by first | rfl | (simp [errW_none, errW_some] <;> rfl) | (simp [*, errW_none, errW_some] <;> rfl), by repeat (first | (with_reducible first | exact HB.out | apply below_alloc | apply pw_below_drewN | apply below_drew1 | refine below_set ?_ (IsS106.ge HI205.out) | refine below_set ?_ GE201.out | refine below_set ?_ GE212.out) | exact HB.out)⟩

/-! ### impl_Mat_det: function 86 -/
def impl_Mat_det.f (a0_0 : Int) (a0_1 : Int) (a0_2 : Int) (a0_3 : Int) : Option (Int) := some (wrap64 ((wrap64 (a0_0 * a0_3)) - (wrap64 (a0_1 * a0_2))))
set_option maxHeartbeats 8000000 in
set_option maxRecDepth 100000 in
theorem impl_Mat_det.calls (a0_0 : Int) (a0_1 : Int) (a0_2 : Int) (a0_3 : Int) (r : Int) (w : World) (h : impl_Mat_det.f a0_0 a0_1 a0_2 a0_3 = some r) :
  Calls Tryz.prog 86 #[.agg #[.int .i64 a0_0, .int .i64 a0_1, .int .i64 a0_2, .int .i64 a0_3]] w fun e w' => e = .returned (.int .i64 r) ∧ Below w.heap.size w w' := by
 have hu25 := Tryz.underlying25
 have HB := asd (Below.refl w.heap.size w)
 have H : (some (wrap64 ((wrap64 (a0_0 * a0_3)) - (wrap64 (a0_1 * a0_2))))) = some r := h
 clear h
 obtain rfl := Option.some.inj H
 go_enter Tryz.func86, Tryz.ntmps86
 go_wp2_with (first | ((with_reducible refine gd 1 rfl ?_); refine bx #[.int .i64 a0_0, .int .i64 a0_1, .int .i64 a0_2, .int .i64 a0_3] 25 ?_; intro gb220 hg w2 BK220 hb; have GE220 := ngw0 hg HB; replace HB := bS0 HB hb; clear hb hg; obtain ⟨hcz3_0, hcz3_1, hcz3_2, hcz3_3, hfz3_0, hfz3_1, hfz3_2, hfz3_3⟩ := bz4 BK220))
 go_ret
 exact er (bbw1 HB GE220)
/-! ### impl_within: function 68 -/
def impl_within.f (a0 : Int) (a1 : Int) (a2 : Int) : Option (Bool) := if a0 ≥ a1 then (some (decide (a0 ≤ a2))) else (some false)
set_option maxHeartbeats 8000000 in
set_option maxRecDepth 100000 in
theorem impl_within.calls (a0 : Int) (a1 : Int) (a2 : Int) (r : Bool) (w : World) (h : impl_within.f a0 a1 a2 = some r) :
  Calls Tryz.prog 68 #[.int .i64 a0, .int .i64 a1, .int .i64 a2] w fun e w' => e = .returned (.bool r) ∧ Drawn0 w w' := by
 have H : (if a0 ≥ a1 then (some (decide (a0 ≤ a2))) else (some false)) = some r := h
 clear h
 by_cases c4 : a0 ≥ a1
 ·rw [if_pos c4] at H
  have c4b0 : decide (a1 ≤ a0) = true := decide_eq_true c4
  clear c4
  obtain rfl := Option.some.inj H
  go_enter Tryz.func68, Tryz.ntmps68
  go_wp2
  go_ret
  exact ⟨by first | rfl | (simp; done) | (simp [*]; done), by repeat (first | exact Drawn0.refl _ | apply Drawn0.step)⟩
 ·rw [if_neg c4] at H
  have c4b0 : decide (a1 ≤ a0) = false := decide_eq_false c4
  clear c4
  obtain rfl := Option.some.inj H
  go_enter Tryz.func68, Tryz.ntmps68
  go_wp2
  go_ret
  exact ⟨by first | rfl | (simp; done) | (simp [*]; done), by repeat (first | exact Drawn0.refl _ | apply Drawn0.step)⟩
/-! ### impl_isCoordinate: function 88 -/
def impl_isCoordinate.f (a0 : Int) : Option (Bool) := (impl_within.f a0 (-1000) 1000).bind fun t221 => (some t221)
set_option maxHeartbeats 8000000 in
set_option maxRecDepth 100000 in
theorem impl_isCoordinate.calls (a0 : Int) (r : Bool) (w : World) (h : impl_isCoordinate.f a0 = some r) :
  Calls Tryz.prog 88 #[.int .i64 a0] w fun e w' => e = .returned (.bool r) ∧ Drawn0 w w' := by
 have H : ((impl_within.f a0 (-1000) 1000).bind fun t221 => (some t221)) = some r := h
 clear h
 obtain ⟨t221, A2, H⟩ := ob H
 try dsimp only at H
 obtain rfl := Option.some.inj H
 go_enter Tryz.func88, Tryz.ntmps88
 go_wp2_with (first | ((with_reducible refine gate_callee (f := 68) rfl ?_); refine gl 4 Tryz.func68 #[.int .i64 a0, .int .i64 (-1000), .int .i64 1000] ?_; (with_reducible refine (impl_within.calls _ _ _ _ _ A2.out).mono ?_); rintro e w' ⟨rfl, ⟨nd, rfl⟩⟩; refine ⟨_, rfl, ?_⟩))
 go_ret
 exact ⟨by first | rfl | (simp; done) | (simp [*]; done), by repeat (first | exact Drawn0.refl _ | apply Drawn0.step)⟩
/-! ### impl_Mat_isSmall: function 96 -/
def impl_Mat_isSmall.f (a0_0 : Int) (a0_1 : Int) (a0_2 : Int) (a0_3 : Int) : Option (Bool) := (impl_isCoordinate.f a0_0).bind fun t223 => (if t223 = true then ((impl_isCoordinate.f a0_1).bind fun t224 => (if t224 = true then ((impl_isCoordinate.f a0_2).bind fun t225 => (if t225 = true then ((impl_isCoordinate.f a0_3).bind fun t226 => (some t226)) else (some false))) else (some false))) else (some false))
set_option maxHeartbeats 8000000 in
set_option maxRecDepth 100000 in
theorem impl_Mat_isSmall.calls (a0_0 : Int) (a0_1 : Int) (a0_2 : Int) (a0_3 : Int) (r : Bool) (w : World) (h : impl_Mat_isSmall.f a0_0 a0_1 a0_2 a0_3 = some r) :
  Calls Tryz.prog 96 #[.agg #[.int .i64 a0_0, .int .i64 a0_1, .int .i64 a0_2, .int .i64 a0_3]] w fun e w' => e = .returned (.bool r) ∧ Below w.heap.size w w' := by
 have hu25 := Tryz.underlying25
 have HB := asd (Below.refl w.heap.size w)
 have H : ((impl_isCoordinate.f a0_0).bind fun t223 => (if t223 = true then ((impl_isCoordinate.f a0_1).bind fun t224 => (if t224 = true then ((impl_isCoordinate.f a0_2).bind fun t225 => (if t225 = true then ((impl_isCoordinate.f a0_3).bind fun t226 => (some t226)) else (some false))) else (some false))) else (some false))) = some r := h
 clear h
 obtain ⟨t223, A2, H⟩ := ob H
 try dsimp only at H
 by_cases c3 : t223 = true
 subst c3
 replace H := ifT H
 obtain ⟨t224, A4, H⟩ := ob H
 try dsimp only at H
 by_cases c5 : t224 = true
 subst c5
 replace H := ifT H
 obtain ⟨t225, A6, H⟩ := ob H
 try dsimp only at H
 by_cases c7 : t225 = true
 subst c7
 replace H := ifT H
 obtain ⟨t226, A8, H⟩ := ob H
 try dsimp only at H
 obtain rfl := Option.some.inj H
 rotate_left
 replace c7 := Bool.eq_false_iff.mpr c7
 subst c7
 replace H := ifF H
 obtain rfl := Option.some.inj H
 rotate_left
 replace c5 := Bool.eq_false_iff.mpr c5
 subst c5
 replace H := ifF H
 obtain rfl := Option.some.inj H
 rotate_left
 replace c3 := Bool.eq_false_iff.mpr c3
 subst c3
 replace H := ifF H
 obtain rfl := Option.some.inj H
 rotate_left
 all_goals
  go_enter Tryz.func96, Tryz.ntmps96
  go_wp2_with (first | ((with_reducible refine gd 1 rfl ?_); refine bx #[.int .i64 a0_0, .int .i64 a0_1, .int .i64 a0_2, .int .i64 a0_3] 25 ?_; intro gb222 hg w9 BK222 hb; have GE222 := ngw0 hg HB; replace HB := bS0 HB hb; clear hb hg; obtain ⟨hcz10_0, hcz10_1, hcz10_2, hcz10_3, hfz10_0, hfz10_1, hfz10_2, hfz10_3⟩ := bz4 BK222) | ((with_reducible refine gate_callee (f := 88) rfl ?_); refine gl 5 Tryz.func88 #[.int .i64 a0_0] ?_; (with_reducible refine (impl_isCoordinate.calls _ _ _ A2.out).mono ?_); rintro e w' ⟨rfl, ⟨nd, rfl⟩⟩; refine ⟨_, rfl, ?_⟩) | (go_at_call 88; (with_reducible refine (impl_isCoordinate.calls _ _ _ A4.out).mono ?_); rintro e w' ⟨rfl, ⟨nd, rfl⟩⟩) | (go_at_call 88; (with_reducible refine (impl_isCoordinate.calls _ _ _ A6.out).mono ?_); rintro e w' ⟨rfl, ⟨nd, rfl⟩⟩) | (go_at_call 88; (with_reducible refine (impl_isCoordinate.calls _ _ _ A8.out).mono ?_); rintro e w' ⟨rfl, ⟨nd, rfl⟩⟩))
  go_ret
  exact er (bbw1 HB GE222)
/-! ### impl_IsMat: function 52 -/
def impl_IsMat.f (a0_0 : Int) (a0_1 : Int) (a0_2 : Int) (a0_3 : Int) : Option (Bool) := (impl_Mat_isSmall.f a0_0 a0_1 a0_2 a0_3).bind fun t228 => (if t228 = true then ((impl_Mat_det.f a0_0 a0_1 a0_2 a0_3).bind fun t229 => (if t229 = 1 then (some true) else ((impl_Mat_det.f a0_0 a0_1 a0_2 a0_3).bind fun t230 => (some (t230 == (-1)))))) else (some false))
set_option maxHeartbeats 8000000 in
set_option maxRecDepth 100000 in
theorem impl_IsMat.calls (a0_0 : Int) (a0_1 : Int) (a0_2 : Int) (a0_3 : Int) (r : Bool) (w : World) (h : impl_IsMat.f a0_0 a0_1 a0_2 a0_3 = some r) :
  Calls Tryz.prog 52 #[.agg #[.int .i64 a0_0, .int .i64 a0_1, .int .i64 a0_2, .int .i64 a0_3]] w fun e w' => e = .returned (.bool r) ∧ Below w.heap.size w w' := by
 have hu25 := Tryz.underlying25
 have HB := asd (Below.refl w.heap.size w)
 have H : ((impl_Mat_isSmall.f a0_0 a0_1 a0_2 a0_3).bind fun t228 => (if t228 = true then ((impl_Mat_det.f a0_0 a0_1 a0_2 a0_3).bind fun t229 => (if t229 = 1 then (some true) else ((impl_Mat_det.f a0_0 a0_1 a0_2 a0_3).bind fun t230 => (some (t230 == (-1)))))) else (some false))) = some r := h
 clear h
 obtain ⟨t228, A2, H⟩ := ob H
 try dsimp only at H
 by_cases c3 : t228 = true
 ·subst c3
  replace H := ifT H
  obtain ⟨t229, A4, H⟩ := ob H
  try dsimp only at H
  by_cases c5 : t229 = 1
  ·rw [if_pos c5] at H
   have c5b0 : (t229 == 1) = true := beq_iff_eq.mpr c5
   have c5b1 : (t229 != 1) = false := bne_eq_false_iff_eq.mpr c5
   clear c5
   obtain rfl := Option.some.inj H
   go_enter Tryz.func52, Tryz.ntmps52
   go_wp2_with (first | ((with_reducible refine gd 1 rfl ?_); refine bx #[.int .i64 a0_0, .int .i64 a0_1, .int .i64 a0_2, .int .i64 a0_3] 25 ?_; intro gb227 hg w6 BK227 hb; have GE227 := ngw0 hg HB; replace HB := bS0 HB hb; clear hb hg; obtain ⟨hcz7_0, hcz7_1, hcz7_2, hcz7_3, hfz7_0, hfz7_1, hfz7_2, hfz7_3⟩ := bz4 BK227) | ((with_reducible refine gate_callee (f := 96) rfl ?_); refine gl 4 Tryz.func96 #[.agg #[.int .i64 a0_0, .int .i64 a0_1, .int .i64 a0_2, .int .i64 a0_3]] ?_; (with_reducible refine (impl_Mat_isSmall.calls _ _ _ _ _ _ A2.out).mono ?_); rintro e w8 ⟨rfl, hb⟩; refine ⟨_, rfl, ?_⟩; replace BK227 := bB BK227 hb; replace HB := bS1 HB GE227 hb; (try clear hb); obtain ⟨hcz9_0, hcz9_1, hcz9_2, hcz9_3, hfz9_0, hfz9_1, hfz9_2, hfz9_3⟩ := bz4 BK227) | (go_at_call 86; (with_reducible refine (impl_Mat_det.calls _ _ _ _ _ _ A4.out).mono ?_); rintro e w10 ⟨rfl, hb⟩; replace BK227 := bB BK227 hb; replace HB := bS1 HB GE227 hb; (try clear hb)))
   go_ret
   exact er (bbw1 HB GE227)
  ·rw [if_neg c5] at H
   have c5b0 : (t229 == 1) = false := beq_eq_false_iff_ne.mpr c5
   have c5b1 : (t229 != 1) = true := bne_iff_ne.mpr c5
   obtain ⟨t230, A11, H⟩ := ob H
   try dsimp only at H
   have e_ : t229 = t230 := Option.some.inj (A4.out.symm.trans A11.out)
   subst e_
   obtain rfl := Option.some.inj H
   go_enter Tryz.func52, Tryz.ntmps52
   go_wp2_with (first | ((with_reducible refine gd 1 rfl ?_); refine bx #[.int .i64 a0_0, .int .i64 a0_1, .int .i64 a0_2, .int .i64 a0_3] 25 ?_; intro gb227 hg w12 BK227 hb; have GE227 := ngw0 hg HB; replace HB := bS0 HB hb; clear hb hg; obtain ⟨hcz13_0, hcz13_1, hcz13_2, hcz13_3, hfz13_0, hfz13_1, hfz13_2, hfz13_3⟩ := bz4 BK227) | ((with_reducible refine gate_callee (f := 96) rfl ?_); refine gl 4 Tryz.func96 #[.agg #[.int .i64 a0_0, .int .i64 a0_1, .int .i64 a0_2, .int .i64 a0_3]] ?_; (with_reducible refine (impl_Mat_isSmall.calls _ _ _ _ _ _ A2.out).mono ?_); rintro e w14 ⟨rfl, hb⟩; refine ⟨_, rfl, ?_⟩; replace BK227 := bB BK227 hb; replace HB := bS1 HB GE227 hb; (try clear hb); obtain ⟨hcz15_0, hcz15_1, hcz15_2, hcz15_3, hfz15_0, hfz15_1, hfz15_2, hfz15_3⟩ := bz4 BK227) | (go_at_call 86; (with_reducible refine (impl_Mat_det.calls _ _ _ _ _ _ A4.out).mono ?_); rintro e w16 ⟨rfl, hb⟩; replace BK227 := bB BK227 hb; replace HB := bS1 HB GE227 hb; (try clear hb); obtain ⟨hcz17_0, hcz17_1, hcz17_2, hcz17_3, hfz17_0, hfz17_1, hfz17_2, hfz17_3⟩ := bz4 BK227) | (go_at_call 86; (with_reducible refine (impl_Mat_det.calls _ _ _ _ _ _ A11.out).mono ?_); rintro e w18 ⟨rfl, hb⟩; replace BK227 := bB BK227 hb; replace HB := bS1 HB GE227 hb; (try clear hb)))
   go_ret
   exact er (bbw1 HB GE227)
 ·replace c3 := Bool.eq_false_iff.mpr c3
  subst c3
  replace H := ifF H
  obtain rfl := Option.some.inj H
  go_enter Tryz.func52, Tryz.ntmps52
  go_wp2_with (first | ((with_reducible refine gd 1 rfl ?_); refine bx #[.int .i64 a0_0, .int .i64 a0_1, .int .i64 a0_2, .int .i64 a0_3] 25 ?_; intro gb227 hg w19 BK227 hb; have GE227 := ngw0 hg HB; replace HB := bS0 HB hb; clear hb hg; obtain ⟨hcz20_0, hcz20_1, hcz20_2, hcz20_3, hfz20_0, hfz20_1, hfz20_2, hfz20_3⟩ := bz4 BK227) | ((with_reducible refine gate_callee (f := 96) rfl ?_); refine gl 4 Tryz.func96 #[.agg #[.int .i64 a0_0, .int .i64 a0_1, .int .i64 a0_2, .int .i64 a0_3]] ?_; (with_reducible refine (impl_Mat_isSmall.calls _ _ _ _ _ _ A2.out).mono ?_); rintro e w21 ⟨rfl, hb⟩; refine ⟨_, rfl, ?_⟩; replace BK227 := bB BK227 hb; replace HB := bS1 HB GE227 hb; (try clear hb)))
  go_ret
  exact er (bbw1 HB GE227)
/-! ### impl_unit: function 85 -/
def impl_unit.f  : Option (Int × Int × Int × Int) := some (1, 0, 0, 1)
set_option maxHeartbeats 8000000 in
set_option maxRecDepth 100000 in
theorem impl_unit.calls  (r1 : Int) (r2 : Int) (r3 : Int) (r4 : Int) (w : World) (h : impl_unit.f  = some (r1, r2, r3, r4)) :
  Calls Tryz.prog 85 #[] w fun e w' => e = .returned (.agg #[.int .i64 r1, .int .i64 r2, .int .i64 r3, .int .i64 r4]) ∧ Below w.heap.size w w' := by
 have hu25 := Tryz.underlying25
 have HB := asd (Below.refl w.heap.size w)
 have H : (some (1, 0, 0, 1)) = some (r1, r2, r3, r4) := h
 clear h
 simp only [Option.some.injEq, Prod.mk.injEq] at H
 obtain ⟨rfl, rfl, rfl, rfl⟩ := H
 go_enter Tryz.func85, Tryz.ntmps85
 go_wp2_with (first | ((with_reducible refine gd 0 rfl ?_); refine bx #[.int .i64 0, .int .i64 0, .int .i64 0, .int .i64 0] 25 ?_; intro gb231 hg w1 BK231 hb; have GE231 := ngw0 hg HB; replace HB := bS0 HB hb; clear hb hg; obtain ⟨hcz2_0, hcz2_1, hcz2_2, hcz2_3, hfz2_0, hfz2_1, hfz2_2, hfz2_3⟩ := bz4 BK231))
 refine bodyPost_ret (results_cell_row rfl _ _ gb231 25 #[.int .i64 1, .int .i64 0, .int .i64 0, .int .i64 1] (0, 0) _ rfl (bq0 BK231) Tryz.underlying25 rfl (by kernel_rfl)) rfl ?_
 exact er (bbw1 HB GE231)

end Go.Proofs.YtnblfcibgokccaaGreatDoor.PA
