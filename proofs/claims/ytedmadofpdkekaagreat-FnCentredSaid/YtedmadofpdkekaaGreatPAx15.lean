/- Walks written by program: each Go function that the law reaches comes to the plain function beside it. -/
import Derived.Test.YtedmadofpdkekaaGreatPAx0
import Derived.Test.YtedmadofpdkekaaGreatPAx5
import Derived.Test.YtedmadofpdkekaaGreatPAx8
import Derived.Test.YtedmadofpdkekaaGreatPAx9
import Derived.Test.YtedmadofpdkekaaGreatPAx10
import Derived.Test.YtedmadofpdkekaaGreatPAx11
namespace Go.Proofs.YtedmadofpdkekaaGreat.PA
open Go.RowKit Go.Proofs.YtedmadofpdkekaaGreatW.PrintWords Go.Proofs.YtedmadofpdkekaaGreatW.PrintLast Go.Proofs.YtedmadofpdkekaaGreatW.PrintMore
attribute [local go_sem] max2_int min2_int max_two min_two max_three min_three max_four min_four   -- for this text's walks alone
set_option linter.unusedVariables false
set_option linter.unusedSimpArgs false

/-! ### spec_l01Draw: function 28 -/
def spec_l01Draw.f (s0_0 : List Int) (s0_1 : Int) (s0_2 : Int) : Option (Int × Int × Int × Int) := (spec_l01Next.f s0_0 s0_1 s0_2 40).bind fun bt571 => (if bt571.1 = 0 then ((spec_l01Pick.f s0_0 bt571.2.1 bt571.2.2 (([(-1000), 1000, 1001, 0] : List Int))).bind fun bt577 => ((spec_l01Pick.f s0_0 bt577.2.1 bt577.2.2 (([(-1001), 1000, 0] : List Int))).bind fun bt583 => (some (bt577.1, bt583.1, bt583.2.1, bt583.2.2)))) else ((spec_l01Pick.f s0_0 bt571.2.1 bt571.2.2 (([4, 9, 30] : List Int))).bind fun bt589 => ((spec_l01Next.f s0_0 bt589.2.1 bt589.2.2 (wrap64 ((wrap64 (2 * bt589.1)) + 1))).bind fun bt592 => ((spec_l01Next.f s0_0 bt592.2.1 bt592.2.2 (wrap64 ((wrap64 (2 * bt589.1)) + 1))).bind fun bt595 => (some (wrap64 (bt592.1 - bt589.1), wrap64 (bt595.1 - bt589.1), bt595.2.1, bt595.2.2))))))
set_option maxHeartbeats 8000000 in
set_option maxRecDepth 100000 in
theorem spec_l01Draw.calls (g : Nat) (s0_0 : List Int) (s0_1 : Int) (s0_2 : Int) (r1 : Int) (r2 : Int) (r3 : Int) (r4 : Int) (w0 w : World) (hI : IsS75 w0 w g s0_0 s0_1 s0_2) (hB : Below w0.heap.size w0 w) (h : spec_l01Draw.f s0_0 s0_1 s0_2 = some (r1, r2, r3, r4)) :
  Calls Tryz.prog 28 #[.pointer (some ⟨g, 0, none⟩)] w fun e w' => e = .returned (.agg #[.int .i64 r1, .int .i64 r2]) ∧ IsS75 w0 w' g s0_0 r3 r4 ∧ Below w0.heap.size w0 w' ∧ KeepBut w w' g none := by
 have hu31 := Tryz.underlying31
 have HI0 := Aside0.mk hI
 have HK := asd (KeepBut.refl w g none)
 have HL := Aside0.mk hB.size
 clear hI
 have HW0 := Aside0.mk hB.size
 have HB := Aside0.mk hB
 clear hB
 have H : ((spec_l01Next.f s0_0 s0_1 s0_2 40).bind fun bt571 => (if bt571.1 = 0 then ((spec_l01Pick.f s0_0 bt571.2.1 bt571.2.2 (([(-1000), 1000, 1001, 0] : List Int))).bind fun bt577 => ((spec_l01Pick.f s0_0 bt577.2.1 bt577.2.2 (([(-1001), 1000, 0] : List Int))).bind fun bt583 => (some (bt577.1, bt583.1, bt583.2.1, bt583.2.2)))) else ((spec_l01Pick.f s0_0 bt571.2.1 bt571.2.2 (([4, 9, 30] : List Int))).bind fun bt589 => ((spec_l01Next.f s0_0 bt589.2.1 bt589.2.2 (wrap64 ((wrap64 (2 * bt589.1)) + 1))).bind fun bt592 => ((spec_l01Next.f s0_0 bt592.2.1 bt592.2.2 (wrap64 ((wrap64 (2 * bt589.1)) + 1))).bind fun bt595 => (some (wrap64 (bt592.1 - bt589.1), wrap64 (bt595.1 - bt589.1), bt595.2.1, bt595.2.2))))))) = some (r1, r2, r3, r4) := h
 clear h
 obtain ⟨⟨t571, t572, t573⟩, A2, H⟩ := ob H
 try dsimp only at H
 by_cases c3 : t571 = 0
 rw [if_pos c3] at H
 have c3b0 : (t571 == 0) = true := beq_iff_eq.mpr c3
 have c3b1 : (t571 != 0) = false := bne_eq_false_iff_eq.mpr c3
 clear c3
 obtain ⟨y574, hy574⟩ : ∃ y_ : List Int, y_ = (([(-1000), 1000, 1001, 0] : List Int)) := ⟨_, rfl⟩
 replace H : ((spec_l01Pick.f s0_0 t572 t573 y574).bind fun bt577 => ((spec_l01Pick.f s0_0 bt577.2.1 bt577.2.2 (([(-1001), 1000, 0] : List Int))).bind fun bt583 => (some (bt577.1, bt583.1, bt583.2.1, bt583.2.2)))) = some (r1, r2, r3, r4) := by first | (rw [hy574]; with_reducible exact H) | (have H2_ := (Option.bind_some _ _).symm.trans H; rw [hy574]; with_reducible exact H2_) | (have H2_ := (Option.bind_some _ _).symm.trans H; with_reducible exact H2_) | with_reducible exact H | (rw [hy574]; exact H) | exact H
 have Ny574 := Aside0.mk hy574
 clear hy574
 obtain ⟨⟨t577, t578, t579⟩, A4, H⟩ := ob H
 try dsimp only at H
 obtain ⟨y580, hy580⟩ : ∃ y_ : List Int, y_ = (([(-1001), 1000, 0] : List Int)) := ⟨_, rfl⟩
 replace H : ((spec_l01Pick.f s0_0 t578 t579 y580).bind fun bt583 => (some (t577, bt583.1, bt583.2.1, bt583.2.2))) = some (r1, r2, r3, r4) := by first | (rw [hy580]; with_reducible exact H) | (have H2_ := (Option.bind_some _ _).symm.trans H; rw [hy580]; with_reducible exact H2_) | (have H2_ := (Option.bind_some _ _).symm.trans H; with_reducible exact H2_) | with_reducible exact H | (rw [hy580]; exact H) | exact H
 have Ny580 := Aside0.mk hy580
 clear hy580
 obtain ⟨⟨t583, t584, t585⟩, A5, H⟩ := ob H
 try dsimp only at H
 rotate_left
 rw [if_neg c3] at H
 have c3b0 : (t571 == 0) = false := beq_eq_false_iff_ne.mpr c3
 have c3b1 : (t571 != 0) = true := bne_iff_ne.mpr c3
 obtain ⟨y586, hy586⟩ : ∃ y_ : List Int, y_ = (([4, 9, 30] : List Int)) := ⟨_, rfl⟩
 replace H : ((spec_l01Pick.f s0_0 t572 t573 y586).bind fun bt589 => ((spec_l01Next.f s0_0 bt589.2.1 bt589.2.2 (wrap64 ((wrap64 (2 * bt589.1)) + 1))).bind fun bt592 => ((spec_l01Next.f s0_0 bt592.2.1 bt592.2.2 (wrap64 ((wrap64 (2 * bt589.1)) + 1))).bind fun bt595 => (some (wrap64 (bt592.1 - bt589.1), wrap64 (bt595.1 - bt589.1), bt595.2.1, bt595.2.2))))) = some (r1, r2, r3, r4) := by first | (rw [hy586]; with_reducible exact H) | (have H2_ := (Option.bind_some _ _).symm.trans H; rw [hy586]; with_reducible exact H2_) | (have H2_ := (Option.bind_some _ _).symm.trans H; with_reducible exact H2_) | with_reducible exact H | (rw [hy586]; exact H) | exact H
 have Ny586 := Aside0.mk hy586
 clear hy586
 obtain ⟨⟨t589, t590, t591⟩, A18, H⟩ := ob H
 try dsimp only at H
 obtain ⟨⟨t592, t593, t594⟩, A19, H⟩ := ob H
 try dsimp only at H
 obtain ⟨⟨t595, t596, t597⟩, A20, H⟩ := ob H
 try dsimp only at H
 rotate_left
 all_goals
  simp only [Option.some.injEq, Prod.mk.injEq] at H
  obtain ⟨rfl, rfl, rfl, rfl⟩ := H
  go_enter Tryz.func28, Tryz.ntmps28
  go_wp2_with (first | ((with_reducible refine gd 2 rfl ?_); refine bx #[.int .i64 0, .int .i64 0] 31 ?_; intro gb570 hg w6 BK570 hb; replace HB := asd (below_step (by repeat (first | (with_reducible first | exact HB.out | apply below_alloc | apply pw_below_drewN | apply below_drew1 | refine below_set ?_ (IsS75.ge HI0.out)) | exact HB.out)) hb); have GW570 := asd ((by rw [hg]; exact (keep_size (w := w) (g := g) (row := none) (by repeat (first | (with_reducible first | exact HK.out | apply KeepBut.set_ | apply keep_drewN | apply keep_drew | apply keep_alloc) | exact HK.out))) : w.heap.size ≤ gb570)); have GE570 := asd ((Nat.le_trans HW0.out (by rw [hg]; exact (keep_size (w := w) (g := g) (row := none) (by repeat (first | (with_reducible first | exact HK.out | apply KeepBut.set_ | apply keep_drewN | apply keep_drew | apply keep_alloc) | exact HK.out))) : w.heap.size ≤ gb570) : w0.heap.size ≤ gb570)); replace HK := asd (KeepBut.trans (by repeat (first | (with_reducible first | exact HK.out | apply KeepBut.set_ | apply keep_drewN | apply keep_drew | apply keep_alloc) | exact HK.out)) (KeepBut.of_below hb g none) (.inl rfl)); have NB0_570 := asd ((by rw [hg]; exact Nat.ne_of_lt (IsS75.lt (show IsS75 w0 _ g s0_0 s0_1 s0_2 from by repeat (first | (with_reducible first | exact HI0.out | apply IsS75.alloc | apply IsS75.drewN | apply IsS75.drew | apply IsS75.set_1 | apply IsS75.set_2) | exact HI0.out))) : g ≠ gb570)); have NB570_0 := asd ((by rw [hg]; exact Nat.ne_of_gt (IsS75.lt (show IsS75 w0 _ g s0_0 s0_1 s0_2 from by repeat (first | (with_reducible first | exact HI0.out | apply IsS75.alloc | apply IsS75.drewN | apply IsS75.drew | apply IsS75.set_1 | apply IsS75.set_2) | exact HI0.out))) : gb570 ≠ g)); replace HI0 := asd (IsS75.below (by repeat (first | (with_reducible first | exact HI0.out | apply IsS75.alloc | apply IsS75.drewN | apply IsS75.drew | apply IsS75.set_1 | apply IsS75.set_2) | exact HI0.out)) hb); clear hb hg) | ((with_reducible refine gate_callee (f := 59) rfl ?_); refine gl 5 Tryz.func59 #[.pointer (some ⟨g, 0, none⟩), .int .i64 40] ?_; (with_reducible refine (spec_l01Next.calls _ _ _ _ _ _ _ _ w0 _ ?side1 ?side2 A2.out).mono ?_); (case side1 => repeat (first | (with_reducible first | exact HI0.out | apply IsS75.alloc | apply IsS75.drewN | apply IsS75.drew | apply IsS75.set_1 | apply IsS75.set_2 | refine IsS75.far ?_ NB0_570.out _) | exact HI0.out)); (case side2 => repeat (first | (with_reducible first | exact HB.out | apply below_alloc | apply pw_below_drewN | apply below_drew1 | refine below_set ?_ (IsS75.ge HI0.out) | refine below_set ?_ GE570.out) | exact HB.out)); rintro e w7 ⟨rfl, hi, hb, hk⟩; refine ⟨_, rfl, ?_⟩; replace BK570 := asd (KeepBut.blk hk (g' := gb570) (o := .cells #[.int .i64 0, .int .i64 0] 31 (0, 0)) (bkp BK570) NB570_0.out (by simp)); replace HK := asd (KeepBut.trans (by repeat (first | (with_reducible first | exact HK.out | apply KeepBut.set_ | apply keep_drewN | apply keep_drew | apply keep_alloc | refine keep_far ?_ GW570.out _) | exact HK.out)) hk (.inl rfl)); replace HB := asd (hb); replace HI0 := asd (hi); (try clear hb); (try clear hb2); (try clear hk); (try clear hi)) | ((with_reducible refine gd 8 rfl ?_); refine Kd.R_lit (Kd.int .i64) _ 2 ?hg (N := 8) ?hd (xs := ([(-1000), 1000, 1001, 0] : List Int)) (inner := [.int .i64 (-1000), .int .i64 1000, .int .i64 1001, .int .i64 0]) (ok := fun _ => True) (okp := fun _ => True) ?hr ?hp (fun _ hk => hk) trivial (Below.refl _ _) (Nat.le_refl _) (by simp) ?_; (case hd => rfl); (case hg => rfl); (case hr => first | (go_simp; done) | (go_simp; rfl)); (case hp => exact (Reps.one (show Kd.M (Kd.int .i64) _ _ _ (-1000) [.int .i64 (-1000)] from rfl) (Reps.one (show Kd.M (Kd.int .i64) _ _ _ 1000 [.int .i64 1000] from rfl) (Reps.one (show Kd.M (Kd.int .i64) _ _ _ 1001 [.int .i64 1001] from rfl) (Reps.one (show Kd.M (Kd.int .i64) _ _ _ 0 [.int .i64 0] from rfl) (Reps.none _ _)))))); intro v575 w8 ho9 hb hg_ hnew_; clear hg_ hnew_; (first | rw [← Ny574.out] at ho9 | (simp only [Int.reduceToNat] at ho9; rw [← Ny574.out] at ho9)); have HO576 := asd (Kd.R_lower ho9 (keep_size (w := w) (g := g) (row := none) (by repeat (first | (with_reducible first | exact HK.out | apply KeepBut.set_ | apply keep_drewN | apply keep_drew | apply keep_alloc | refine keep_far ?_ GW570.out _) | exact HK.out)))); replace BK570 := bB BK570 hb; replace HK := asd (KeepBut.trans (by repeat (first | (with_reducible first | exact HK.out | apply KeepBut.set_ | apply keep_drewN | apply keep_drew | apply keep_alloc | refine keep_far ?_ GW570.out _) | exact HK.out)) (KeepBut.of_below hb g none) (.inl rfl)); replace HB := asd (below_step (by repeat (first | (with_reducible first | exact HB.out | apply below_alloc | apply pw_below_drewN | apply below_drew1 | refine below_set ?_ (IsS75.ge HI0.out) | refine below_set ?_ GE570.out) | exact HB.out)) hb); replace HI0 := asd (IsS75.below (by repeat (first | (with_reducible first | exact HI0.out | apply IsS75.alloc | apply IsS75.drewN | apply IsS75.drew | apply IsS75.set_1 | apply IsS75.set_2 | refine IsS75.far ?_ NB0_570.out _) | exact HI0.out)) hb); clear hb ho9; obtain ⟨Ao10, co10, eo10⟩ := Kd.R_slice HO576.out; subst eo10) | ((with_reducible refine gate_callee (f := 60) rfl ?_); refine gl 9 Tryz.func60 #[.pointer (some ⟨g, 0, none⟩), .slice Ao10 y574.length co10] ?_; (with_reducible refine (spec_l01Pick.calls _ _ _ _ _ _ _ _ _ _ w0 _ ?side1 ?side2 ?side3 ?side4 ?side5 A4.out).mono ?_); (case side1 => repeat (first | (with_reducible first | exact HI0.out | apply IsS75.alloc | apply IsS75.drewN | apply IsS75.drew | apply IsS75.set_1 | apply IsS75.set_2 | refine IsS75.far ?_ NB0_570.out _) | exact HI0.out)); (case side2 => repeat (first | (with_reducible first | exact HB.out | apply below_alloc | apply pw_below_drewN | apply below_drew1 | refine below_set ?_ (IsS75.ge HI0.out) | refine below_set ?_ GE570.out) | exact HB.out)); (case side3 => exact ks (Kd.R_reads' HO576.out).2.2); (case side4 => exact (Kd.R_reads' HO576.out).2.1); (case side5 => exact far_slice (IsS75.own_ne HI0.out HO576.out (by decide))); rintro e w11 ⟨rfl, hi, hb, hk⟩; refine ⟨_, rfl, ?_⟩; replace BK570 := asd (KeepBut.blk hk (g' := gb570) (o := .cells #[.int .i64 0, .int .i64 0] 31 (0, 0)) (bkp BK570) NB570_0.out (by simp)); replace HO576 := asd (Kd.R_mono (Kd.R_keep (IsS75.apart (show IsS75 w0 _ g s0_0 t572 t573 from by repeat (first | (with_reducible first | exact HI0.out | apply IsS75.alloc | apply IsS75.drewN | apply IsS75.drew | apply IsS75.set_1 | apply IsS75.set_2 | refine IsS75.far ?_ NB0_570.out _) | exact HI0.out)) (kr HO576) (by decide)) hk (fun _ h => h.2)) (fun _ h => h.1)); replace HK := asd (KeepBut.trans (by repeat (first | (with_reducible first | exact HK.out | apply KeepBut.set_ | apply keep_drewN | apply keep_drew | apply keep_alloc | refine keep_far ?_ GW570.out _) | exact HK.out)) hk (.inl rfl)); replace HB := asd (hb); replace HI0 := asd (hi); (try clear hb); (try clear hb2); (try clear hk); (try clear hi)) | ((with_reducible refine gd 11 rfl ?_); refine Kd.R_lit (Kd.int .i64) _ 2 ?hg (N := 11) ?hd (xs := ([(-1001), 1000, 0] : List Int)) (inner := [.int .i64 (-1001), .int .i64 1000, .int .i64 0]) (ok := fun _ => True) (okp := fun _ => True) ?hr ?hp (fun _ hk => hk) trivial (Below.refl _ _) (Nat.le_refl _) (by simp) ?_; (case hd => rfl); (case hg => rfl); (case hr => first | (go_simp; done) | (go_simp; rfl)); (case hp => exact (Reps.one (show Kd.M (Kd.int .i64) _ _ _ (-1001) [.int .i64 (-1001)] from rfl) (Reps.one (show Kd.M (Kd.int .i64) _ _ _ 1000 [.int .i64 1000] from rfl) (Reps.one (show Kd.M (Kd.int .i64) _ _ _ 0 [.int .i64 0] from rfl) (Reps.none _ _))))); intro v581 w12 ho13 hb hg_ hnew_; clear hg_ hnew_; (first | rw [← Ny580.out] at ho13 | (simp only [Int.reduceToNat] at ho13; rw [← Ny580.out] at ho13)); have HO582 := asd (Kd.R_lower (Kd.R_new' ho13 (Kd.R_lt (kr HO576))) (keep_size (w := w) (g := g) (row := none) (by repeat (first | (with_reducible first | exact HK.out | apply KeepBut.set_ | apply keep_drewN | apply keep_drew | apply keep_alloc | refine keep_far ?_ GW570.out _) | exact HK.out)))); replace HO576 := asd (Kd.R_elder' (kr HO576) (Kd.R_base ho13) hb); replace BK570 := bB BK570 hb; replace HK := asd (KeepBut.trans (by repeat (first | (with_reducible first | exact HK.out | apply KeepBut.set_ | apply keep_drewN | apply keep_drew | apply keep_alloc | refine keep_far ?_ GW570.out _) | exact HK.out)) (KeepBut.of_below hb g none) (.inl rfl)); replace HB := asd (below_step (by repeat (first | (with_reducible first | exact HB.out | apply below_alloc | apply pw_below_drewN | apply below_drew1 | refine below_set ?_ (IsS75.ge HI0.out) | refine below_set ?_ GE570.out) | exact HB.out)) hb); replace HI0 := asd (IsS75.below (by repeat (first | (with_reducible first | exact HI0.out | apply IsS75.alloc | apply IsS75.drewN | apply IsS75.drew | apply IsS75.set_1 | apply IsS75.set_2 | refine IsS75.far ?_ NB0_570.out _) | exact HI0.out)) hb); clear hb ho13; obtain ⟨Ao14, co14, eo14⟩ := Kd.R_slice HO582.out; subst eo14) | ((with_reducible refine gate_callee (f := 60) rfl ?_); refine gl 12 Tryz.func60 #[.pointer (some ⟨g, 0, none⟩), .slice Ao14 y580.length co14] ?_; (with_reducible refine (spec_l01Pick.calls _ _ _ _ _ _ _ _ _ _ w0 _ ?side1 ?side2 ?side3 ?side4 ?side5 A5.out).mono ?_); (case side1 => repeat (first | (with_reducible first | exact HI0.out | apply IsS75.alloc | apply IsS75.drewN | apply IsS75.drew | apply IsS75.set_1 | apply IsS75.set_2 | refine IsS75.far ?_ NB0_570.out _) | exact HI0.out)); (case side2 => repeat (first | (with_reducible first | exact HB.out | apply below_alloc | apply pw_below_drewN | apply below_drew1 | refine below_set ?_ (IsS75.ge HI0.out) | refine below_set ?_ GE570.out) | exact HB.out)); (case side3 => exact ks (Kd.R_reads' HO582.out).2.2); (case side4 => exact (Kd.R_reads' HO582.out).2.1); (case side5 => exact far_slice (IsS75.own_ne HI0.out HO582.out (by decide))); rintro e w15 ⟨rfl, hi, hb, hk⟩; refine ⟨_, rfl, ?_⟩; replace BK570 := asd (KeepBut.blk hk (g' := gb570) (o := .cells #[.int .i64 0, .int .i64 0] 31 (0, 0)) (bkp BK570) NB570_0.out (by simp)); replace HO576 := asd (Kd.R_mono (Kd.R_keep (IsS75.apart (show IsS75 w0 _ g s0_0 t578 t579 from by repeat (first | (with_reducible first | exact HI0.out | apply IsS75.alloc | apply IsS75.drewN | apply IsS75.drew | apply IsS75.set_1 | apply IsS75.set_2 | refine IsS75.far ?_ NB0_570.out _) | exact HI0.out)) (kr HO576) (by decide)) hk (fun _ h => h.2)) (fun _ h => h.1)); replace HO582 := asd (Kd.R_mono (Kd.R_keep (IsS75.apart (show IsS75 w0 _ g s0_0 t578 t579 from by repeat (first | (with_reducible first | exact HI0.out | apply IsS75.alloc | apply IsS75.drewN | apply IsS75.drew | apply IsS75.set_1 | apply IsS75.set_2 | refine IsS75.far ?_ NB0_570.out _) | exact HI0.out)) (kr HO582) (by decide)) hk (fun _ h => h.2)) (fun _ h => h.1)); replace HK := asd (KeepBut.trans (by repeat (first | (with_reducible first | exact HK.out | apply KeepBut.set_ | apply keep_drewN | apply keep_drew | apply keep_alloc | refine keep_far ?_ GW570.out _) | exact HK.out)) hk (.inl rfl)); replace HB := asd (hb); replace HI0 := asd (hi); (try clear hb); (try clear hb2); (try clear hk); (try clear hi); have hnb16 := NB570_0.out; have hnc16 := NB0_570.out; obtain ⟨hcz17_0, hcz17_1, hfz17_0, hfz17_1⟩ := bz2 BK570) | ((with_reducible refine gd 15 rfl ?_); refine Kd.R_lit (Kd.int .i64) _ 2 ?hg (N := 15) ?hd (xs := ([4, 9, 30] : List Int)) (inner := [.int .i64 4, .int .i64 9, .int .i64 30]) (ok := fun _ => True) (okp := fun _ => True) ?hr ?hp (fun _ hk => hk) trivial (Below.refl _ _) (Nat.le_refl _) (by simp) ?_; (case hd => rfl); (case hg => rfl); (case hr => first | (go_simp; done) | (go_simp; rfl)); (case hp => exact (Reps.one (show Kd.M (Kd.int .i64) _ _ _ 4 [.int .i64 4] from rfl) (Reps.one (show Kd.M (Kd.int .i64) _ _ _ 9 [.int .i64 9] from rfl) (Reps.one (show Kd.M (Kd.int .i64) _ _ _ 30 [.int .i64 30] from rfl) (Reps.none _ _))))); intro v587 w23 ho24 hb hg_ hnew_; clear hg_ hnew_; (first | rw [← Ny586.out] at ho24 | (simp only [Int.reduceToNat] at ho24; rw [← Ny586.out] at ho24)); have HO588 := asd (Kd.R_lower ho24 (keep_size (w := w) (g := g) (row := none) (by repeat (first | (with_reducible first | exact HK.out | apply KeepBut.set_ | apply keep_drewN | apply keep_drew | apply keep_alloc | refine keep_far ?_ GW570.out _) | exact HK.out)))); replace BK570 := bB BK570 hb; replace HK := asd (KeepBut.trans (by repeat (first | (with_reducible first | exact HK.out | apply KeepBut.set_ | apply keep_drewN | apply keep_drew | apply keep_alloc | refine keep_far ?_ GW570.out _) | exact HK.out)) (KeepBut.of_below hb g none) (.inl rfl)); replace HB := asd (below_step (by repeat (first | (with_reducible first | exact HB.out | apply below_alloc | apply pw_below_drewN | apply below_drew1 | refine below_set ?_ (IsS75.ge HI0.out) | refine below_set ?_ GE570.out) | exact HB.out)) hb); replace HI0 := asd (IsS75.below (by repeat (first | (with_reducible first | exact HI0.out | apply IsS75.alloc | apply IsS75.drewN | apply IsS75.drew | apply IsS75.set_1 | apply IsS75.set_2 | refine IsS75.far ?_ NB0_570.out _) | exact HI0.out)) hb); clear hb ho24; obtain ⟨Ao25, co25, eo25⟩ := Kd.R_slice HO588.out; subst eo25) | ((with_reducible refine gate_callee (f := 60) rfl ?_); refine gl 16 Tryz.func60 #[.pointer (some ⟨g, 0, none⟩), .slice Ao25 y586.length co25] ?_; (with_reducible refine (spec_l01Pick.calls _ _ _ _ _ _ _ _ _ _ w0 _ ?side1 ?side2 ?side3 ?side4 ?side5 A18.out).mono ?_); (case side1 => repeat (first | (with_reducible first | exact HI0.out | apply IsS75.alloc | apply IsS75.drewN | apply IsS75.drew | apply IsS75.set_1 | apply IsS75.set_2 | refine IsS75.far ?_ NB0_570.out _) | exact HI0.out)); (case side2 => repeat (first | (with_reducible first | exact HB.out | apply below_alloc | apply pw_below_drewN | apply below_drew1 | refine below_set ?_ (IsS75.ge HI0.out) | refine below_set ?_ GE570.out) | exact HB.out)); (case side3 => exact ks (Kd.R_reads' HO588.out).2.2); (case side4 => exact (Kd.R_reads' HO588.out).2.1); (case side5 => exact far_slice (IsS75.own_ne HI0.out HO588.out (by decide))); rintro e w26 ⟨rfl, hi, hb, hk⟩; refine ⟨_, rfl, ?_⟩; replace BK570 := asd (KeepBut.blk hk (g' := gb570) (o := .cells #[.int .i64 0, .int .i64 0] 31 (0, 0)) (bkp BK570) NB570_0.out (by simp)); replace HO588 := asd (Kd.R_mono (Kd.R_keep (IsS75.apart (show IsS75 w0 _ g s0_0 t572 t573 from by repeat (first | (with_reducible first | exact HI0.out | apply IsS75.alloc | apply IsS75.drewN | apply IsS75.drew | apply IsS75.set_1 | apply IsS75.set_2 | refine IsS75.far ?_ NB0_570.out _) | exact HI0.out)) (kr HO588) (by decide)) hk (fun _ h => h.2)) (fun _ h => h.1)); replace HK := asd (KeepBut.trans (by repeat (first | (with_reducible first | exact HK.out | apply KeepBut.set_ | apply keep_drewN | apply keep_drew | apply keep_alloc | refine keep_far ?_ GW570.out _) | exact HK.out)) hk (.inl rfl)); replace HB := asd (hb); replace HI0 := asd (hi); (try clear hb); (try clear hb2); (try clear hk); (try clear hi)) | ((with_reducible refine gate_callee (f := 59) rfl ?_); refine gl 21 Tryz.func59 #[.pointer (some ⟨g, 0, none⟩), .int .i64 (wrap64 ((wrap64 (2 * t589)) + 1))] ?_; (with_reducible refine (spec_l01Next.calls _ _ _ _ _ _ _ _ w0 _ ?side1 ?side2 A19.out).mono ?_); (case side1 => repeat (first | (with_reducible first | exact HI0.out | apply IsS75.alloc | apply IsS75.drewN | apply IsS75.drew | apply IsS75.set_1 | apply IsS75.set_2 | refine IsS75.far ?_ NB0_570.out _) | exact HI0.out)); (case side2 => repeat (first | (with_reducible first | exact HB.out | apply below_alloc | apply pw_below_drewN | apply below_drew1 | refine below_set ?_ (IsS75.ge HI0.out) | refine below_set ?_ GE570.out) | exact HB.out)); rintro e w27 ⟨rfl, hi, hb, hk⟩; refine ⟨_, rfl, ?_⟩; replace BK570 := asd (KeepBut.blk hk (g' := gb570) (o := .cells #[.int .i64 0, .int .i64 0] 31 (0, 0)) (bkp BK570) NB570_0.out (by simp)); replace HO588 := asd (Kd.R_mono (Kd.R_keep (IsS75.apart (show IsS75 w0 _ g s0_0 t590 t591 from by repeat (first | (with_reducible first | exact HI0.out | apply IsS75.alloc | apply IsS75.drewN | apply IsS75.drew | apply IsS75.set_1 | apply IsS75.set_2 | refine IsS75.far ?_ NB0_570.out _) | exact HI0.out)) (kr HO588) (by decide)) hk (fun _ h => h.2)) (fun _ h => h.1)); replace HK := asd (KeepBut.trans (by repeat (first | (with_reducible first | exact HK.out | apply KeepBut.set_ | apply keep_drewN | apply keep_drew | apply keep_alloc | refine keep_far ?_ GW570.out _) | exact HK.out)) hk (.inl rfl)); replace HB := asd (hb); replace HI0 := asd (hi); (try clear hb); (try clear hb2); (try clear hk); (try clear hi)) | ((with_reducible refine gate_callee (f := 59) rfl ?_); refine gl 28 Tryz.func59 #[.pointer (some ⟨g, 0, none⟩), .int .i64 (wrap64 ((wrap64 (2 * t589)) + 1))] ?_; (with_reducible refine (spec_l01Next.calls _ _ _ _ _ _ _ _ w0 _ ?side1 ?side2 A20.out).mono ?_); (case side1 => repeat (first | (with_reducible first | exact HI0.out | apply IsS75.alloc | apply IsS75.drewN | apply IsS75.drew | apply IsS75.set_1 | apply IsS75.set_2 | refine IsS75.far ?_ NB0_570.out _) | exact HI0.out)); (case side2 => repeat (first | (with_reducible first | exact HB.out | apply below_alloc | apply pw_below_drewN | apply below_drew1 | refine below_set ?_ (IsS75.ge HI0.out) | refine below_set ?_ GE570.out) | exact HB.out)); rintro e w28 ⟨rfl, hi, hb, hk⟩; refine ⟨_, rfl, ?_⟩; replace BK570 := asd (KeepBut.blk hk (g' := gb570) (o := .cells #[.int .i64 0, .int .i64 0] 31 (0, 0)) (bkp BK570) NB570_0.out (by simp)); replace HO588 := asd (Kd.R_mono (Kd.R_keep (IsS75.apart (show IsS75 w0 _ g s0_0 t593 t594 from by repeat (first | (with_reducible first | exact HI0.out | apply IsS75.alloc | apply IsS75.drewN | apply IsS75.drew | apply IsS75.set_1 | apply IsS75.set_2 | refine IsS75.far ?_ NB0_570.out _) | exact HI0.out)) (kr HO588) (by decide)) hk (fun _ h => h.2)) (fun _ h => h.1)); replace HK := asd (KeepBut.trans (by repeat (first | (with_reducible first | exact HK.out | apply KeepBut.set_ | apply keep_drewN | apply keep_drew | apply keep_alloc | refine keep_far ?_ GW570.out _) | exact HK.out)) hk (.inl rfl)); replace HB := asd (hb); replace HI0 := asd (hi); (try clear hb); (try clear hb2); (try clear hk); (try clear hi); have hnb29 := NB570_0.out; have hnc29 := NB0_570.out; obtain ⟨hcz30_0, hcz30_1, hfz30_0, hfz30_1⟩ := bz2 BK570))
 refine bodyPost_ret (results_cell_row rfl _ _ gb570 31 #[.int .i64 t577, .int .i64 t583] (0, 0) _ rfl (bq0 BK570) Tryz.underlying31 rfl (by kernel_rfl)) rfl ?_
 rotate_left
 refine bodyPost_ret (results_cell_row rfl _ _ gb570 31 #[.int .i64 (wrap64 (t592 - t589)), .int .i64 (wrap64 (t595 - t589))] (0, 0) _ rfl (bq0 BK570) Tryz.underlying31 rfl (by kernel_rfl)) rfl ?_
 rotate_left
 all_goals
  exact ⟨by first | rfl | (simp [errW_none, errW_some] <;> rfl) | (simp [*, errW_none, errW_some] <;> rfl), by repeat (first | (with_reducible first | exact HI0.out | apply IsS75.alloc | apply IsS75.drewN | apply IsS75.drew | apply IsS75.set_1 | apply IsS75.set_2 | refine IsS75.far ?_ NB0_570.out _) | exact HI0.out), by repeat (first | (with_reducible first | exact HB.out | apply below_alloc | apply pw_below_drewN | apply below_drew1 | refine below_set ?_ (IsS75.ge HI0.out) | refine below_set ?_ GE570.out) | exact HB.out), by repeat (first | (with_reducible first | exact HK.out | apply KeepBut.set_ | apply keep_drewN | apply keep_drew | apply keep_alloc | refine keep_far ?_ GW570.out _) | exact HK.out)⟩
/-! ### spec_DrawMayReflect: function 10 -/
def spec_DrawMayReflect.f (k : Nat) (l0 : List Int) : Option (Int × Int × Int × Int × Int × Int × Int × Int × Int × Int) := (spec_l01From.f k l0).bind fun bt600 => ((spec_l11DrawMirror.f k bt600.1 bt600.2.1 bt600.2.2).bind fun bt604 => ((spec_l01Draw.f bt600.1 bt604.2.2.2.2.2.2.2.2.1 bt604.2.2.2.2.2.2.2.2.2).bind fun bt616 => (some (bt604.1, bt604.2.1, bt604.2.2.1, bt604.2.2.2.1, bt604.2.2.2.2.1, bt604.2.2.2.2.2.1, bt604.2.2.2.2.2.2.1, bt604.2.2.2.2.2.2.2.1, bt616.1, bt616.2.1))))
def spec_DrawMayReflect.T3 : Bool × List (List Nat × List Nat) := (true, [([], []), ([], []), ([], []), ([], []), ([3], [3]), ([2, 4], [2, 4]), ([0, 4, 0], [0]), ([1, 6, 0, 1, 6], [1]), ([5, 7, 0, 1, 2, 3, 4, 5, 6, 7], [5])])
def spec_DrawMayReflect.B3 : List Nat := [0, 0, 0, 0, 8, 28, 25, 91, 255]
theorem spec_DrawMayReflect.tab3 : rtab .any (opsOf Tryz.f10 3) = spec_DrawMayReflect.T3 := by kernel_rfl
theorem spec_DrawMayReflect.bits3 : waitsOk spec_DrawMayReflect.T3.2 spec_DrawMayReflect.B3 = true := by kernel_rfl
set_option maxHeartbeats 8000000 in
set_option maxRecDepth 100000 in
theorem spec_DrawMayReflect.calls (k : Nat) (A0 : Option Addr) (c0 : Nat) (l0 : List Int) (r1 : Int) (r2 : Int) (r3 : Int) (r4 : Int) (r5 : Int) (r6 : Int) (r7 : Int) (r8 : Int) (r9 : Int) (r10 : Int) (w : World) (hr0 : Kd.C (Kd.int .u8) w A0 l0.length l0) (hc0 : l0.length ≤ c0) (h : spec_DrawMayReflect.f k l0 = some (r1, r2, r3, r4, r5, r6, r7, r8, r9, r10)) :
  Calls Tryz.prog 10 #[.slice A0 l0.length c0] w fun e w' => e = .returned (.tuple #[.int .i64 r1, .agg #[.int .i64 r2, .int .i64 r3, .int .i64 r4], .agg #[.int .i64 r5, .int .i64 r6, .int .i64 r7, .int .i64 r8, .int .i64 r9, .int .i64 r10]]) ∧ Below w.heap.size w w' := by
 have hu25 := Tryz.underlying25
 have hu37 := Tryz.underlying37
 have hu27 := Tryz.underlying27
 have HR0 := Aside0.mk hr0
 have HC0 := Aside0.mk hc0
 clear hr0 hc0
 have HB := asd (Below.refl w.heap.size w)
 have H : ((spec_l01From.f k l0).bind fun bt600 => ((spec_l11DrawMirror.f k bt600.1 bt600.2.1 bt600.2.2).bind fun bt604 => ((spec_l01Draw.f bt600.1 bt604.2.2.2.2.2.2.2.2.1 bt604.2.2.2.2.2.2.2.2.2).bind fun bt616 => (some (bt604.1, bt604.2.1, bt604.2.2.1, bt604.2.2.2.1, bt604.2.2.2.2.1, bt604.2.2.2.2.2.1, bt604.2.2.2.2.2.2.1, bt604.2.2.2.2.2.2.2.1, bt616.1, bt616.2.1))))) = some (r1, r2, r3, r4, r5, r6, r7, r8, r9, r10) := h
 clear h
 obtain ⟨⟨t600, t601, t602⟩, A2, H⟩ := ob H
 try dsimp only at H
 obtain ⟨⟨t604, t605, t606, t607, t608, t609, t610, t611, t612, t613⟩, A3, H⟩ := ob H
 try dsimp only at H
 obtain ⟨⟨t616, t617, t618, t619⟩, A4, H⟩ := ob H
 try dsimp only at H
 simp only [Option.some.injEq, Prod.mk.injEq] at H
 obtain ⟨rfl, rfl, rfl, rfl, rfl, rfl, rfl, rfl, rfl, rfl⟩ := H
 go_enter Tryz.func10, Tryz.ntmps10
 try go_wp2_with (first | ((with_reducible refine gd 3 rfl ?_); refine bx #[.int .i64 0, .int .i64 0, .int .i64 0] 25 ?_; intro gb598 hg w5 BK598 hb; have GE598 := ngw0 hg HB; replace HB := bS0 HB hb; clear hb hg) | ((with_reducible refine gd 4 rfl ?_); refine bx #[.int .i64 0, .int .i64 0, .int .i64 0, .int .i64 0, .int .i64 0, .int .i64 0] 37 ?_; intro gb599 hg w6 BK599 hb; have GE599 := ngw1 hg HB GE598; replace HB := bS1 HB GE598 hb; have NB598_599 := nlt hg BK598; have NB599_598 := nsy (nlt hg BK598); replace BK598 := bB BK598 hb; clear hb hg) | ((with_reducible refine gate_callee (f := 19) rfl ?_); refine gl 10 Tryz.func19 #[.slice A0 l0.length c0] ?_; (with_reducible refine (spec_l01From.calls _ _ _ _ _ _ _ w _ ?side1 ?side2 ?side3 A2.out).mono ?_); (case side1 => repeat (first | (with_reducible first | exact HB.out | apply below_alloc | apply pw_below_drewN | apply below_drew1 | refine below_set ?_ GE598.out | refine below_set ?_ GE599.out) | exact HB.out)); (case side2 => exact HR0.out); (case side3 => exact HC0.out); rintro e w7 ⟨g603, rfl, hi, hb, hb2⟩; refine ⟨_, rfl, ?_⟩; replace HB := asd (hb); have HI603 := asd (hi); have NB603_598 := asd (IsS75.ne_blk hi (bbl BK598 hb2) (by decide)); have NB598_603 := asd (Ne.symm (IsS75.ne_blk hi (bbl BK598 hb2) (by decide))); replace BK598 := asd (bbl BK598 hb2); have NB603_599 := asd (IsS75.ne_blk hi (bbl BK599 hb2) (by decide)); have NB599_603 := asd (Ne.symm (IsS75.ne_blk hi (bbl BK599 hb2) (by decide))); replace BK599 := asd (bbl BK599 hb2); (try clear hb); (try clear hb2); (try clear hk); (try clear hi)) | ((with_reducible refine gate_callee (f := 18) rfl ?_); refine gl 13 Tryz.func18 #[.pointer (some ⟨g603, 0, none⟩)] ?_; (with_reducible refine (spec_l11DrawMirror.calls _ _ _ _ _ _ _ _ _ _ _ _ _ _ _ w _ ?side1 ?side2 A3.out).mono ?_); (case side1 => repeat (first | (with_reducible first | exact HI603.out | apply IsS75.alloc | apply IsS75.drewN | apply IsS75.drew | apply IsS75.set_1 | apply IsS75.set_2 | refine IsS75.far ?_ NB603_598.out _ | refine IsS75.far ?_ NB603_599.out _) | exact HI603.out)); (case side2 => repeat (first | (with_reducible first | exact HB.out | apply below_alloc | apply pw_below_drewN | apply below_drew1 | refine below_set ?_ (IsS75.ge HI603.out) | refine below_set ?_ GE598.out | refine below_set ?_ GE599.out) | exact HB.out)); rintro e w8 ⟨rfl, hi, hb, hk⟩; refine ⟨_, rfl, ?_⟩; replace BK598 := asd (KeepBut.blk hk (g' := gb598) (o := .cells #[.int .i64 0, .int .i64 0, .int .i64 0] 25 (0, 0)) (bkp BK598) NB598_603.out (by simp)); replace BK599 := asd (KeepBut.blk hk (g' := gb599) (o := .cells #[.int .i64 0, .int .i64 0, .int .i64 0, .int .i64 0, .int .i64 0, .int .i64 0] 37 (0, 0)) (bkp BK599) NB599_603.out (by simp)); replace HB := asd (hb); replace HI603 := asd (hi); (try clear hb); (try clear hb2); (try clear hk); (try clear hi)) | ((with_reducible refine gd 7 rfl ?_); refine bx #[.int .i64 0, .int .i64 0, .int .i64 0] 25 ?_; intro gb614 hg w9 BK614 hb; have GW614 := asd ((by rw [hg]; exact (below_size (by repeat (first | (with_reducible first | exact HB.out | apply below_alloc | apply pw_below_drewN | apply below_drew1 | refine below_set ?_ (IsS75.ge HI603.out) | refine below_set ?_ GE598.out | refine below_set ?_ GE599.out) | exact HB.out))) : w.heap.size ≤ gb614)); have GE614 := asd ((by rw [hg]; exact (below_size (by repeat (first | (with_reducible first | exact HB.out | apply below_alloc | apply pw_below_drewN | apply below_drew1 | refine below_set ?_ (IsS75.ge HI603.out) | refine below_set ?_ GE598.out | refine below_set ?_ GE599.out) | exact HB.out))) : w.heap.size ≤ gb614)); replace HB := asd (below_step (by repeat (first | (with_reducible first | exact HB.out | apply below_alloc | apply pw_below_drewN | apply below_drew1 | refine below_set ?_ (IsS75.ge HI603.out) | refine below_set ?_ GE598.out | refine below_set ?_ GE599.out) | exact HB.out)) hb); have NB598_614 := nlt hg BK598; have NB614_598 := nsy (nlt hg BK598); replace BK598 := bB BK598 hb; have NB599_614 := nlt hg BK599; have NB614_599 := nsy (nlt hg BK599); replace BK599 := bB BK599 hb; have NB603_614 := asd ((by rw [hg]; exact Nat.ne_of_lt (IsS75.lt (show IsS75 w _ g603 t600 t612 t613 from by repeat (first | (with_reducible first | exact HI603.out | apply IsS75.alloc | apply IsS75.drewN | apply IsS75.drew | apply IsS75.set_1 | apply IsS75.set_2 | refine IsS75.far ?_ NB603_598.out _ | refine IsS75.far ?_ NB603_599.out _) | exact HI603.out))) : g603 ≠ gb614)); have NB614_603 := asd ((by rw [hg]; exact Nat.ne_of_gt (IsS75.lt (show IsS75 w _ g603 t600 t612 t613 from by repeat (first | (with_reducible first | exact HI603.out | apply IsS75.alloc | apply IsS75.drewN | apply IsS75.drew | apply IsS75.set_1 | apply IsS75.set_2 | refine IsS75.far ?_ NB603_598.out _ | refine IsS75.far ?_ NB603_599.out _) | exact HI603.out))) : gb614 ≠ g603)); replace HI603 := asd (IsS75.below (by repeat (first | (with_reducible first | exact HI603.out | apply IsS75.alloc | apply IsS75.drewN | apply IsS75.drew | apply IsS75.set_1 | apply IsS75.set_2 | refine IsS75.far ?_ NB603_598.out _ | refine IsS75.far ?_ NB603_599.out _) | exact HI603.out)) hb); clear hb hg) | ((with_reducible refine gd 8 rfl ?_); refine bx #[.int .i64 0, .int .i64 0, .int .i64 0, .int .i64 0] 27 ?_; intro gb615 hg w10 BK615 hb; have GW615 := asd ((by rw [hg]; exact (below_size (by repeat (first | (with_reducible first | exact HB.out | apply below_alloc | apply pw_below_drewN | apply below_drew1 | refine below_set ?_ (IsS75.ge HI603.out) | refine below_set ?_ GE598.out | refine below_set ?_ GE599.out | refine below_set ?_ GE614.out) | exact HB.out))) : w.heap.size ≤ gb615)); have GE615 := asd ((by rw [hg]; exact (below_size (by repeat (first | (with_reducible first | exact HB.out | apply below_alloc | apply pw_below_drewN | apply below_drew1 | refine below_set ?_ (IsS75.ge HI603.out) | refine below_set ?_ GE598.out | refine below_set ?_ GE599.out | refine below_set ?_ GE614.out) | exact HB.out))) : w.heap.size ≤ gb615)); replace HB := asd (below_step (by repeat (first | (with_reducible first | exact HB.out | apply below_alloc | apply pw_below_drewN | apply below_drew1 | refine below_set ?_ (IsS75.ge HI603.out) | refine below_set ?_ GE598.out | refine below_set ?_ GE599.out | refine below_set ?_ GE614.out) | exact HB.out)) hb); have NB598_615 := nlt hg BK598; have NB615_598 := nsy (nlt hg BK598); replace BK598 := bB BK598 hb; have NB599_615 := nlt hg BK599; have NB615_599 := nsy (nlt hg BK599); replace BK599 := bB BK599 hb; have NB614_615 := nlt hg BK614; have NB615_614 := nsy (nlt hg BK614); replace BK614 := bB BK614 hb; have NB603_615 := asd ((by rw [hg]; exact Nat.ne_of_lt (IsS75.lt (show IsS75 w _ g603 t600 t612 t613 from by repeat (first | (with_reducible first | exact HI603.out | apply IsS75.alloc | apply IsS75.drewN | apply IsS75.drew | apply IsS75.set_1 | apply IsS75.set_2 | refine IsS75.far ?_ NB603_598.out _ | refine IsS75.far ?_ NB603_599.out _ | refine IsS75.far ?_ NB603_614.out _) | exact HI603.out))) : g603 ≠ gb615)); have NB615_603 := asd ((by rw [hg]; exact Nat.ne_of_gt (IsS75.lt (show IsS75 w _ g603 t600 t612 t613 from by repeat (first | (with_reducible first | exact HI603.out | apply IsS75.alloc | apply IsS75.drewN | apply IsS75.drew | apply IsS75.set_1 | apply IsS75.set_2 | refine IsS75.far ?_ NB603_598.out _ | refine IsS75.far ?_ NB603_599.out _ | refine IsS75.far ?_ NB603_614.out _) | exact HI603.out))) : gb615 ≠ g603)); replace HI603 := asd (IsS75.below (by repeat (first | (with_reducible first | exact HI603.out | apply IsS75.alloc | apply IsS75.drewN | apply IsS75.drew | apply IsS75.set_1 | apply IsS75.set_2 | refine IsS75.far ?_ NB603_598.out _ | refine IsS75.far ?_ NB603_599.out _ | refine IsS75.far ?_ NB603_614.out _) | exact HI603.out)) hb); clear hb hg; have hnb11 := NB614_598.out; have hnc11 := NB598_614.out; have hnb12 := NB614_599.out; have hnc12 := NB599_614.out; have hnb13 := NB614_615.out; have hnc13 := NB615_614.out; have hnb14 := NB614_603.out; have hnc14 := NB603_614.out; obtain ⟨hcz15_0, hcz15_1, hcz15_2, hfz15_0, hfz15_1, hfz15_2⟩ := bz3 BK614; have hnb16 := NB615_598.out; have hnc16 := NB598_615.out; have hnb17 := NB615_599.out; have hnc17 := NB599_615.out; have hnb18 := NB615_603.out; have hnc18 := NB603_615.out; obtain ⟨hcz19_0, hcz19_1, hcz19_2, hcz19_3, hfz19_0, hfz19_1, hfz19_2, hfz19_3⟩ := bz4 BK615))
 obtain ⟨w20, h_w20⟩ : ∃ w_, (((((((w10.setCell ⟨gb614, 0, none⟩ (.int .i64 t605)).setCell ⟨gb614, 1, none⟩ (.int .i64 t606)).setCell ⟨gb614, 2, none⟩ (.int .i64 t607)).setCell ⟨gb615, 0, none⟩ (.int .i64 t608)).setCell ⟨gb615, 1, none⟩ (.int .i64 t609)).setCell ⟨gb615, 2, none⟩ (.int .i64 t610)).setCell ⟨gb615, 3, none⟩ (.int .i64 t611)) = w_ := ⟨_, rfl⟩
 replace BK598 : Aside0 (w20.heap[gb598]? = some (.cells #[.int .i64 0, .int .i64 0, .int .i64 0] 25 (0, 0))) := by rw [← h_w20]; exact ⟨bq2 BK598 NB598_615 NB598_614⟩
 replace BK599 : Aside0 (w20.heap[gb599]? = some (.cells #[.int .i64 0, .int .i64 0, .int .i64 0, .int .i64 0, .int .i64 0, .int .i64 0] 37 (0, 0))) := by rw [← h_w20]; exact ⟨bq2 BK599 NB599_615 NB599_614⟩
 replace BK614 : Aside0 (w20.heap[gb614]? = some (.cells #[.int .i64 t605, .int .i64 t606, .int .i64 t607] 25 (0, 0))) := by rw [← h_w20]; exact ⟨bq1 BK614 NB614_615⟩
 replace BK615 : Aside0 (w20.heap[gb615]? = some (.cells #[.int .i64 t608, .int .i64 t609, .int .i64 t610, .int .i64 t611] 27 (0, 0))) := by rw [← h_w20]; exact ⟨bq1 BK615 NB615_614⟩
 replace HB : Aside0 (Below w.heap.size w w20) := by rw [← h_w20]; exact ⟨by repeat (first | (with_reducible first | exact HB.out | apply below_alloc | apply pw_below_drewN | apply below_drew1 | refine below_set ?_ (IsS75.ge HI603.out) | refine below_set ?_ GE598.out | refine below_set ?_ GE599.out | refine below_set ?_ GE614.out | refine below_set ?_ GE615.out) | exact HB.out)⟩
 replace HI603 : Aside0 (IsS75 w w20 g603 t600 t612 t613) := by rw [← h_w20]; exact ⟨by repeat (first | (with_reducible first | exact HI603.out | apply IsS75.alloc | apply IsS75.drewN | apply IsS75.drew | apply IsS75.set_1 | apply IsS75.set_2 | refine IsS75.far ?_ NB603_598.out _ | refine IsS75.far ?_ NB603_599.out _ | refine IsS75.far ?_ NB603_614.out _ | refine IsS75.far ?_ NB603_615.out _) | exact HI603.out)⟩
 (try rw [h_w20]); clear h_w20
 replace BK598 := asd (blk_drew BK598.out)
 replace BK599 := asd (blk_drew BK599.out)
 replace BK614 := asd (blk_drew BK614.out)
 replace BK615 := asd (blk_drew BK615.out)
 replace HI603 := asd (IsS75.drew HI603.out)
 replace HB := asd (below_drew1 HB.out)
 refine sh 9 (cb3 BK614 (eb4 BK615)) (fun hHeld => ?_); refine with_tabW spec_DrawMayReflect.tab3 spec_DrawMayReflect.bits3 (fun HT_ HW_ => ?_)
 generalize w20.drew = w21 at BK598 BK599 BK614 BK615 HI603 HB hHeld ⊢
 refine pu 0 (some 17) (bT 9 1) HT_ ?_
 refine pu 3 (some 20) (bs 9 9) HT_ ?_
 refine ta 1 (some 18) (bs 9 11) HT_ HW_ hHeld ?_
 refine ta 2 (some 19) (bT 9 4) HT_ HW_ hHeld ?_
 refine ro 4 (some 21) (bT 9 5) HT_ (fun K hK => ?_)
 refine gs Tryz.func28 #[.pointer (some ⟨g603, 0, none⟩)] ?_
 with_reducible refine (spec_l01Draw.calls _ _ _ _ _ _ _ _ w _ ?side1 ?side2 A4.out).mono ?_
 (case side1 => repeat (first | (with_reducible first | exact HI603.out | apply IsS75.alloc | apply IsS75.drewN | apply IsS75.drew | apply IsS75.set_1 | apply IsS75.set_2 | refine IsS75.far ?_ NB603_598.out _ | refine IsS75.far ?_ NB603_599.out _ | refine IsS75.far ?_ NB603_614.out _ | refine IsS75.far ?_ NB603_615.out _) | exact HI603.out))
 (case side2 => repeat (first | (with_reducible first | exact HB.out | apply below_alloc | apply pw_below_drewN | apply below_drew1 | refine below_set ?_ (IsS75.ge HI603.out) | refine below_set ?_ GE598.out | refine below_set ?_ GE599.out | refine below_set ?_ GE614.out | refine below_set ?_ GE615.out) | exact HB.out))
 rintro e w22 ⟨rfl, hi, hb, hk⟩
 refine ⟨_, rfl, ?_⟩
 replace BK598 := asd (KeepBut.blk hk (g' := gb598) (o := .cells #[.int .i64 0, .int .i64 0, .int .i64 0] 25 (0, 0)) (bkp BK598) NB598_603.out (by simp))
 replace BK599 := asd (KeepBut.blk hk (g' := gb599) (o := .cells #[.int .i64 0, .int .i64 0, .int .i64 0, .int .i64 0, .int .i64 0, .int .i64 0] 37 (0, 0)) (bkp BK599) NB599_603.out (by simp))
 replace BK614 := asd (KeepBut.blk hk (g' := gb614) (o := .cells #[.int .i64 t605, .int .i64 t606, .int .i64 t607] 25 (0, 0)) (bkp BK614) NB614_603.out (by simp))
 replace BK615 := asd (KeepBut.blk hk (g' := gb615) (o := .cells #[.int .i64 t608, .int .i64 t609, .int .i64 t610, .int .i64 t611] 27 (0, 0)) (bkp BK615) NB615_603.out (by simp))
 replace HB := asd (hb)
 replace HI603 := asd (hi)
 (try clear hb)
 (try clear hb2)
 (try clear hk)
 (try clear hi)
 refine hK.out _ _ (cb3 BK614 (eb4 BK615)).out (fun hHeld => ?_)
 clear hK K
 refine norm_ (a' := ?_) ?_ ?_
 rotate_left
 ·show Act.put _ (some 21) _ = _
  simp only [Act.put, sA, sB, sC, i64_w, i32_w]
  rfl
 refine pu 5 (some 22) (bT 9 6) HT_ ?_
 refine pu 6 (some 2) (bT 9 7) HT_ ?_
 refine ro 7 (none) (bT 9 8) HT_ (fun K hK => ?_)
 have hs23 : w22.cell? ⟨gb598, 0, none⟩ = some (.int .i64 0) := bcl BK598 0
 have hfs23 := blk_frozen BK598.out 0
 have hns23_1 := NB599_598.out
 have hns23_2 := NB614_598.out
 have hns23_3 := NB615_598.out
 have hms23_1 := NB598_599.out
 have hms23_2 := NB598_614.out
 have hms23_3 := NB598_615.out
 have hs24 : w22.cell? ⟨gb598, 1, none⟩ = some (.int .i64 0) := bcl BK598 1
 have hfs24 := blk_frozen BK598.out 1
 have hns24_1 := NB599_598.out
 have hns24_2 := NB614_598.out
 have hns24_3 := NB615_598.out
 have hms24_1 := NB598_599.out
 have hms24_2 := NB598_614.out
 have hms24_3 := NB598_615.out
 have hs25 : w22.cell? ⟨gb598, 2, none⟩ = some (.int .i64 0) := bcl BK598 2
 have hfs25 := blk_frozen BK598.out 2
 have hns25_1 := NB599_598.out
 have hns25_2 := NB614_598.out
 have hns25_3 := NB615_598.out
 have hms25_1 := NB598_599.out
 have hms25_2 := NB598_614.out
 have hms25_3 := NB598_615.out
 refine skip_ (w1 := ?_) (by rfl) rfl ?_ ?_
 rotate_left
 ·go_simp
  rfl
 refine hK.out _ _ ⟨(cf3 NB614_598 (hHeld.1)), (cf3 NB614_598 (hHeld.2.1)), (cf3 NB614_598 (hHeld.2.2.1)), (cf3 NB615_598 (hHeld.2.2.2.1)), (cf3 NB615_598 (hHeld.2.2.2.2.1)), (cf3 NB615_598 (hHeld.2.2.2.2.2.1)), (cf3 NB615_598 (hHeld.2.2.2.2.2.2))⟩ (fun hHeld => ?_)
 clear hK K
 refine ro 8 (none) (bT 9 9) HT_ (fun K hK => ?_)
 have hs26 : w22.cell? ⟨gb599, 0, none⟩ = some (.int .i64 0) := bcl BK599 0
 have hfs26 := blk_frozen BK599.out 0
 have hns26_0 := NB598_599.out
 have hns26_2 := NB614_599.out
 have hns26_3 := NB615_599.out
 have hms26_0 := NB599_598.out
 have hms26_2 := NB599_614.out
 have hms26_3 := NB599_615.out
 have hs27 : w22.cell? ⟨gb599, 1, none⟩ = some (.int .i64 0) := bcl BK599 1
 have hfs27 := blk_frozen BK599.out 1
 have hns27_0 := NB598_599.out
 have hns27_2 := NB614_599.out
 have hns27_3 := NB615_599.out
 have hms27_0 := NB599_598.out
 have hms27_2 := NB599_614.out
 have hms27_3 := NB599_615.out
 have hs28 : w22.cell? ⟨gb599, 2, none⟩ = some (.int .i64 0) := bcl BK599 2
 have hfs28 := blk_frozen BK599.out 2
 have hns28_0 := NB598_599.out
 have hns28_2 := NB614_599.out
 have hns28_3 := NB615_599.out
 have hms28_0 := NB599_598.out
 have hms28_2 := NB599_614.out
 have hms28_3 := NB599_615.out
 have hs29 : w22.cell? ⟨gb599, 3, none⟩ = some (.int .i64 0) := bcl BK599 3
 have hfs29 := blk_frozen BK599.out 3
 have hns29_0 := NB598_599.out
 have hns29_2 := NB614_599.out
 have hns29_3 := NB615_599.out
 have hms29_0 := NB599_598.out
 have hms29_2 := NB599_614.out
 have hms29_3 := NB599_615.out
 have hs30 : w22.cell? ⟨gb599, 4, none⟩ = some (.int .i64 0) := bcl BK599 4
 have hfs30 := blk_frozen BK599.out 4
 have hns30_0 := NB598_599.out
 have hns30_2 := NB614_599.out
 have hns30_3 := NB615_599.out
 have hms30_0 := NB599_598.out
 have hms30_2 := NB599_614.out
 have hms30_3 := NB599_615.out
 have hs31 : w22.cell? ⟨gb599, 5, none⟩ = some (.int .i64 0) := bcl BK599 5
 have hfs31 := blk_frozen BK599.out 5
 have hns31_0 := NB598_599.out
 have hns31_2 := NB614_599.out
 have hns31_3 := NB615_599.out
 have hms31_0 := NB599_598.out
 have hms31_2 := NB599_614.out
 have hms31_3 := NB599_615.out
 refine skip_ (w1 := ?_) (by rfl) rfl ?_ ?_
 rotate_left
 ·go_simp
  rfl
 refine hK.out _ _ ⟨(cf6 NB614_599 (hHeld.1)), (cf6 NB614_599 (hHeld.2.1)), (cf6 NB614_599 (hHeld.2.2.1)), (cf6 NB615_599 (hHeld.2.2.2.1)), (cf6 NB615_599 (hHeld.2.2.2.2.1)), (cf6 NB615_599 (hHeld.2.2.2.2.2.1)), (cf6 NB615_599 (hHeld.2.2.2.2.2.2))⟩ (fun hHeld => ?_)
 clear hK K
 refine done_ (done_of HT_.out (by kernel_rfl)) ?_
 try go_wp2
 refine bodyPost_ret (results_list (rs := [.tmp 2, .cell 3 25, .cell 4 37]) rfl (by simp) (.tmp (.cell gb598 25 #[.int .i64 t605, .int .i64 t606, .int .i64 t607] (0, 0) _ rfl (bq1 BK598 NB598_599) Tryz.underlying25 rfl (by kernel_rfl) (.cell gb599 37 #[.int .i64 t608, .int .i64 t609, .int .i64 t610, .int .i64 t611, .int .i64 t616, .int .i64 t617] (0, 0) _ rfl (bq1 BK599 NB599_598) Tryz.underlying37 rfl (by kernel_rfl) .nil)))) rfl ?_
 exact ⟨by first | rfl | (simp [errW_none, errW_some] <;> rfl) | (simp [*, errW_none, errW_some] <;> rfl), by repeat (first | (with_reducible first | exact HB.out | apply below_alloc | apply pw_below_drewN | apply below_drew1 | refine below_set ?_ (IsS75.ge HI603.out) | refine below_set ?_ GE598.out | refine below_set ?_ GE599.out | refine below_set ?_ GE614.out | refine below_set ?_ GE615.out) | exact HB.out)⟩
/-! ### impl_isSuitable: function 30 -/
def impl_isSuitable.f (k : Nat) (a0 : Int) (a1_0 : Int) (a1_1 : Int) (a1_2 : Int) (a2_0 : Int) (a2_1 : Int) (a2_2 : Int) (a2_3 : Int) (a2_4 : Int) (a2_5 : Int) : Option (Bool) := (impl_IsVec.f a2_4 a2_5).bind fun t622 => (if t622 = true then ((impl_latticeMats.f k a0 a1_0 a1_1 a1_2).bind fun t623 => ((impl_Mat_47.f k t623 a2_0 a2_1 a2_2 a2_3).bind fun t626 => (some t626))) else (some false))
def impl_isSuitable.T1 : Bool × List (List Nat × List Nat) := (true, [([], []), ([0], [0]), ([1], [1]), ([2, 2], [2]), ([3], [3]), ([3], [3]), ([4, 5, 3, 3], [3, 4, 5]), ([3], [3]), ([7, 3], [3, 7]), ([6, 8, 6, 3], [3, 6, 8]), ([3, 9], [3, 9]), ([10, 9, 0, 1, 2, 3, 4, 5, 6, 7, 8, 9, 10], [10])])
def impl_isSuitable.B1 : List Nat := [0, 1, 3, 7, 15, 15, 63, 15, 143, 511, 1023, 2047]
theorem impl_isSuitable.tab1 : rtab .any (opsOf Tryz.f30 1) = impl_isSuitable.T1 := by kernel_rfl
theorem impl_isSuitable.bits1 : waitsOk impl_isSuitable.T1.2 impl_isSuitable.B1 = true := by kernel_rfl
set_option maxHeartbeats 8000000 in
set_option maxRecDepth 100000 in
theorem impl_isSuitable.calls (k : Nat) (a0 : Int) (a1_0 : Int) (a1_1 : Int) (a1_2 : Int) (a2_0 : Int) (a2_1 : Int) (a2_2 : Int) (a2_3 : Int) (a2_4 : Int) (a2_5 : Int) (r : Bool) (w : World) (h : impl_isSuitable.f k a0 a1_0 a1_1 a1_2 a2_0 a2_1 a2_2 a2_3 a2_4 a2_5 = some r) :
  Calls Tryz.prog 30 #[.int .i64 a0, .agg #[.int .i64 a1_0, .int .i64 a1_1, .int .i64 a1_2], .agg #[.int .i64 a2_0, .int .i64 a2_1, .int .i64 a2_2, .int .i64 a2_3, .int .i64 a2_4, .int .i64 a2_5]] w fun e w' => e = .returned (.bool r) ∧ Below w.heap.size w w' := by
 have hu25 := Tryz.underlying25
 have hu37 := Tryz.underlying37
 have hu31 := Tryz.underlying31
 have hu27 := Tryz.underlying27
 have HB := asd (Below.refl w.heap.size w)
 have H : ((impl_IsVec.f a2_4 a2_5).bind fun t622 => (if t622 = true then ((impl_latticeMats.f k a0 a1_0 a1_1 a1_2).bind fun t623 => ((impl_Mat_47.f k t623 a2_0 a2_1 a2_2 a2_3).bind fun t626 => (some t626))) else (some false))) = some r := h
 clear h
 obtain ⟨t622, A4, H⟩ := ob H
 try dsimp only at H
 by_cases c5 : t622 = true
 subst c5
 replace H := ifT H
 obtain ⟨t623, A6, H⟩ := ob H
 try dsimp only at H
 obtain ⟨t626, A7, H⟩ := ob H
 try dsimp only at H
 obtain rfl := Option.some.inj H
 rotate_left
 replace c5 := Bool.eq_false_iff.mpr c5
 subst c5
 replace H := ifF H
 obtain rfl := Option.some.inj H
 rotate_left
 all_goals
  go_enter Tryz.func30, Tryz.ntmps30
  try go_wp2_with (first | ((with_reducible refine gd 4 rfl ?_); refine bx #[.int .i64 a1_0, .int .i64 a1_1, .int .i64 a1_2] 25 ?_; intro gb620 hg w8 BK620 hb; have GE620 := ngw0 hg HB; replace HB := bS0 HB hb; clear hb hg) | ((with_reducible refine gd 5 rfl ?_); refine bx #[.int .i64 a2_0, .int .i64 a2_1, .int .i64 a2_2, .int .i64 a2_3, .int .i64 a2_4, .int .i64 a2_5] 37 ?_; intro gb621 hg w9 BK621 hb; have GE621 := ngw1 hg HB GE620; replace HB := bS1 HB GE620 hb; have NB620_621 := nlt hg BK620; have NB621_620 := nsy (nlt hg BK620); replace BK620 := bB BK620 hb; clear hb hg))
  replace BK620 := asd (blk_drew BK620.out)
  replace BK621 := asd (blk_drew BK621.out)
  replace HB := asd (below_drew1 HB.out)
 refine sh 12 (cb6 BK621 (eb3 BK620)) (fun hHeld => ?_); refine with_tabW impl_isSuitable.tab1 impl_isSuitable.bits1 (fun HT_ HW_ => ?_)
 rotate_left
 refine sh 12 (eb6 BK621) (fun hHeld => ?_); refine with_tabW impl_isSuitable.tab1 impl_isSuitable.bits1 (fun HT_ HW_ => ?_)
 rotate_left
 all_goals
  generalize w9.drew = w10 at BK620 BK621 HB hHeld ⊢
  refine pu 0 (some 7) (bT 12 1) HT_ ?_
  refine ta 1 (some 8) (bT 12 2) HT_ HW_ hHeld ?_
  refine ro 2 (some 9) (bT 12 3) HT_ (fun K hK => ?_)
  refine gs Tryz.func41 #[.agg #[.int .i64 a2_4, .int .i64 a2_5]] ?_
  with_reducible refine (impl_IsVec.calls _ _ _ _ A4.out).mono ?_
  rintro e w11 ⟨rfl, hb⟩
  refine ⟨_, rfl, ?_⟩
  replace BK620 := bB BK620 hb
  replace BK621 := bB BK621 hb
  replace HB := bS2 HB GE620 GE621 hb
  (try clear hb)
  (try clear hb2)
  (try clear hk)
  (try clear hi)
 refine hK.out _ _ (cb6 BK621 (eb3 BK620)).out (fun hHeld => ?_)
 rotate_left
 refine hK.out _ _ (eb6 BK621).out (fun hHeld => ?_)
 rotate_left
 all_goals
  clear hK K
  refine norm_ (a' := ?_) ?_ ?_
  rotate_left
  ·show Act.put _ (some 9) _ = _
   simp only [Act.put, sA, sB, sC, i64_w, i32_w]
   rfl
  refine pu 3 (some 10) (bT 12 4) HT_ ?_
 ·refine pu 4 (some 11) (bT 12 5) HT_ ?_
  refine pu 7 (some 14) (bs 12 159) HT_ ?_
  refine ta 5 (some 12) (bs 12 191) HT_ HW_ hHeld ?_
  refine ta 8 (some 15) (bs 12 447) HT_ HW_ hHeld ?_
  refine ro 6 (some 13) (bT 12 9) HT_ (fun K hK => ?_)
  refine gs Tryz.func48 #[.int .i64 a0, .agg #[.int .i64 a1_0, .int .i64 a1_1, .int .i64 a1_2]] ?_
  with_reducible refine (impl_latticeMats.calls _ _ _ _ _ _ _ A6.out).mono ?_
  rintro e w12 ⟨v624, rfl, ho0, hb⟩
  refine ⟨_, rfl, ?_⟩
  have HO625 := asd (Kd.R_lower ho0 (bsz2 HB GE620 GE621))
  replace BK620 := bB BK620 hb
  replace BK621 := bB BK621 hb
  replace HB := bS2 HB GE620 GE621 hb
  (try clear hb)
  (try clear hb2)
  (try clear hk)
  (try clear hi)
  (try clear ho0)
  obtain ⟨Ao13, co13, eo13⟩ := Kd.R_slice HO625.out
  (first | subst eo13 | (injection eo13 with f1_ f2_ f3_; have f4_ := f1_.symm; have f5_ := f3_.symm; clear f1_ f2_ f3_; subst f4_; subst f5_))
  refine hK.out _ _ (cb6 BK621 (eb3 BK620)).out (fun hHeld => ?_)
  clear hK K
  refine norm_ (a' := ?_) ?_ ?_
  rotate_left
  ·show Act.put _ (some 13) _ = _
   simp only [Act.put, sA, sB, sC, i64_w, i32_w]
   rfl
  refine ro 9 (some 16) (bT 12 10) HT_ (fun K hK => ?_)
  refine gs Tryz.func47 #[.slice Ao13 t623.length co13, .agg #[.int .i64 a2_0, .int .i64 a2_1, .int .i64 a2_2, .int .i64 a2_3]] ?_
  with_reducible refine (impl_Mat_47.calls _ _ _ _ _ _ _ _ _ _ ?side1 ?side2 A7.out).mono ?_
  (case side1 => exact ks (Kd.R_reads' HO625.out).2.2)
  (case side2 => exact (Kd.R_reads' HO625.out).2.1)
  rintro e w14 ⟨rfl, hb⟩
  refine ⟨_, rfl, ?_⟩
  replace HO625 := asd (Kd.R_below (kr HO625) hb)
  replace BK620 := bB BK620 hb
  replace BK621 := bB BK621 hb
  replace HB := bS2 HB GE620 GE621 hb
  (try clear hb)
  (try clear hb2)
  (try clear hk)
  (try clear hi)
  refine hK.out _ _ (cb6 BK621 (eb3 BK620)).out (fun hHeld => ?_)
  clear hK K
  refine norm_ (a' := ?_) ?_ ?_
  rotate_left
  ·show Act.put _ (some 16) _ = _
   simp only [Act.put, sA, sB, sC, i64_w, i32_w]
   rfl
  refine pu 10 (some 17) (bT 12 11) HT_ ?_
  refine pu 11 (some 6) (bT 12 12) HT_ ?_
  refine done_ (done_of HT_.out (by kernel_rfl)) ?_
  try go_wp2
  go_ret
  exact er (bbw2 HB GE620 GE621)
 ·refine pf 4 (some 11) (bT 12 5) HT_ ?_
  refine pf 5 (some 12) (bT 12 6) HT_ ?_
  refine pf 6 (some 13) (bT 12 7) HT_ ?_
  refine pf 7 (some 14) (bT 12 8) HT_ ?_
  refine pf 8 (some 15) (bT 12 9) HT_ ?_
  refine pf 9 (some 16) (bT 12 10) HT_ ?_
  refine pu 10 (some 17) (bT 12 11) HT_ ?_
  refine pu 11 (some 6) (bT 12 12) HT_ ?_
  refine done_ (done_of HT_.out (by kernel_rfl)) ?_
  try go_wp2
  go_ret
  exact er (bbw2 HB GE620 GE621)

end Go.Proofs.YtedmadofpdkekaaGreat.PA
