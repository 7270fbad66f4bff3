/- Walks written by program: each Go function that the law reaches comes to the plain function beside it. -/
import Derived.Test.YtnblfcibgokccaaDoorPGx0
import Derived.Test.YtnblfcibgokccaaDoorPGx1
import Derived.Test.YtnblfcibgokccaaDoorPGx4
import Derived.Test.YtnblfcibgokccaaDoorPGx5
namespace Go.Proofs.YtnblfcibgokccaaDoor.PG
open Go.RowKit Go.Proofs.YtnblfcibgokccaaDoorW.PrintWords Go.Proofs.YtnblfcibgokccaaDoorW.PrintLast Go.Proofs.YtnblfcibgokccaaDoorW.PrintMore
attribute [local go_sem] max2_int min2_int max_two min_two max_three min_three max_four min_four   -- for this text's walks alone
set_option linter.unusedVariables false
set_option linter.unusedSimpArgs false

/-! ### spec_l08Draw: function 23 -/
mutual
def spec_l08Draw.l0 : Nat → Int → Int → List Int → Int → Int → Int → Int → List Int → Option (Int × Int × List Int × Int × Int)
 | 0, _, _, _, _, _, _, _, _ => none
 | k + 1, x4, x5, x1000, x1001, x1002, x231000, x231001, x231002 => if x5 > 0 then ((spec_l01Next.f x1000 x1001 x1002 x4).bind fun bt234 => (if x231002.length < 17592186044416 then (spec_l08Draw.l0 k x4 (wrap64 (x5 - 1)) x1000 bt234.2.1 bt234.2.2 x231000 x231001 (x231002 ++ [bt234.1])) else (none))) else ((spec_l01Next.f x1000 x1001 x1002 4).bind fun bt240 => (if bt240.1 > 0 then ((spec_l08DrawName.f x1000 bt240.2.1 bt240.2.2).bind fun bt243 => ((spec_FillFrieze.f k x231000 x231001 x231002 bt243.1).bind fun bt246 => (if bt246.2.2.2 = 0 then (spec_l08Draw.j1 k x1000 bt243.2.1 bt243.2.2 bt246.1 bt246.2.1 bt246.2.2.1) else (spec_l08Draw.j1 k x1000 bt243.2.1 bt243.2.2 x231000 x231001 x231002)))) else (spec_l08Draw.j1 k x1000 bt240.2.1 bt240.2.2 x231000 x231001 x231002)))
def spec_l08Draw.j1 : Nat → List Int → Int → Int → Int → Int → List Int → Option (Int × Int × List Int × Int × Int)
 | 0, _, _, _, _, _, _ => none
 | k + 1, x1000, x1001, x1002, x231000, x231001, x231002 => (spec_l01Next.f x1000 x1001 x1002 5).bind fun bt253 => (if bt253.1 = 0 then (spec_l08Draw.j2 k (decide (x231001 ≤ 12)) x1000 bt253.2.1 bt253.2.2 x231000 x231001 x231002) else (spec_l08Draw.j2 k false x1000 bt253.2.1 bt253.2.2 x231000 x231001 x231002))
def spec_l08Draw.j2 : Nat → Bool → List Int → Int → Int → Int → Int → List Int → Option (Int × Int × List Int × Int × Int)
 | 0, _, _, _, _, _, _, _ => none
 | k + 1, x66, x1000, x1001, x1002, x231000, x231001, x231002 => if x66 = true then (spec_l08Draw.l1 k 0 x1000 x1001 x1002 x231000 x231001 x231002 x231000 (wrap64 (2 * x231001)) (([] : List Int))) else (spec_l08Draw.j5 k x1000 x1001 x1002 x231000 x231001 x231002)
def spec_l08Draw.j5 : Nat → List Int → Int → Int → Int → Int → List Int → Option (Int × Int × List Int × Int × Int)
 | 0, _, _, _, _, _, _ => none
 | k + 1, x1000, x1001, x1002, x231000, x231001, x231002 => (spec_l01Next.f x1000 x1001 x1002 60).bind fun bt264 => (if bt264.1 = 0 then ((spec_l01Pick.f x1000 bt264.2.1 bt264.2.2 (([(-1), 9, 10] : List Int))).bind fun bt270 => (if 0 < (x231002.length : Int) then (some (x231000, x231001, (x231002.set (0 : Int).toNat bt270.1), bt270.2.1, bt270.2.2)) else (none))) else (if bt264.1 = 1 then ((spec_l01Pick.f x1000 bt264.2.1 bt264.2.2 (([0, wrap64 (x231001 + 1), 25] : List Int))).bind fun bt277 => (some (x231000, bt277.1, x231002, bt277.2.1, bt277.2.2))) else (some (x231000, x231001, x231002, bt264.2.1, bt264.2.2))))
def spec_l08Draw.l1 : Nat → Int → List Int → Int → Int → Int → Int → List Int → Int → Int → List Int → Option (Int × Int × List Int × Int × Int)
 | 0, _, _, _, _, _, _, _, _, _, _ => none
 | k + 1, x9, x1000, x1001, x1002, x231000, x231001, x231002, x260000, x260001, x260002 => if x9 < x231000 then (spec_l08Draw.l2 k x9 0 x1000 x1001 x1002 x231000 x231001 x231002 x260000 x260001 x260002) else (spec_l08Draw.j5 k x1000 x1001 x1002 x260000 x260001 x260002)
def spec_l08Draw.l2 : Nat → Int → Int → List Int → Int → Int → Int → Int → List Int → Int → Int → List Int → Option (Int × Int × List Int × Int × Int)
 | 0, _, _, _, _, _, _, _, _, _, _, _ => none
 | k + 1, x9, x10, x1000, x1001, x1002, x231000, x231001, x231002, x260000, x260001, x260002 => if x10 < x260001 then ((spec_l08At.f x231000 x231001 x231002 x10 x9).bind fun t260 => (if x260002.length < 17592186044416 then (spec_l08Draw.l2 k x9 (wrap64 (x10 + 1)) x1000 x1001 x1002 x231000 x231001 x231002 x260000 x260001 (x260002 ++ [t260])) else (none))) else (spec_l08Draw.l1 k (wrap64 (x9 + 1)) x1000 x1001 x1002 x231000 x231001 x231002 x260000 x260001 x260002)
end
def spec_l08Draw.f (k : Nat) (s0_0 : List Int) (s0_1 : Int) (s0_2 : Int) : Option (Int × Int × List Int × Int × Int) := (spec_l01Next.f s0_0 s0_1 s0_2 4).bind fun bt212 => ((spec_l01Next.f s0_0 bt212.2.1 bt212.2.2 12).bind fun bt215 => ((spec_l01Next.f s0_0 bt215.2.1 bt215.2.2 5).bind fun bt218 => ((spec_l01Pick.f s0_0 bt218.2.1 bt218.2.2 (([wrap64 (1 + bt215.1), wrap64 (2 + (wrap64 (2 * bt218.1)))] : List Int))).bind fun bt224 => ((spec_l01Next.f s0_0 bt224.2.1 bt224.2.2 3).bind fun bt231 => (spec_l08Draw.l0 k (wrap64 (2 + bt231.1)) (wrap64 ((wrap64 (1 + bt212.1)) * bt224.1)) s0_0 bt231.2.1 bt231.2.2 (wrap64 (1 + bt212.1)) bt224.1 (([] : List Int)))))))
def spec_l08Draw.T6 : Bool × List (List Nat × List Nat) := (true, [([], []), ([0], [0]), ([], []), ([], []), ([2, 3], [2, 3]), ([4], [4]), ([1, 5, 4], [1, 5]), ([0, 1, 2, 3, 4, 5, 6], []), ([7, 6, 6, 0, 1, 2, 3, 4, 5, 6], [6, 7])])
def spec_l08Draw.B6 : List Nat := [0, 1, 0, 0, 12, 28, 63, 127, 255]
theorem spec_l08Draw.tab6 : rtab .any (opsOf Tryd.f23 6) = spec_l08Draw.T6 := by kernel_rfl
theorem spec_l08Draw.bits6 : waitsOk spec_l08Draw.T6.2 spec_l08Draw.B6 = true := by kernel_rfl
def spec_l08Draw.T8 : Bool × List (List Nat × List Nat) := (true, [([], []), ([], []), ([1], [1]), ([0, 2, 2], [0, 2]), ([3], [3]), ([4], [4]), ([4], [4]), ([], []), ([7, 5, 3, 0, 1, 2, 3, 4, 5, 7], [5, 7]), ([6, 8, 0, 1, 2, 3, 4, 5, 6, 7, 8], [6])])
def spec_l08Draw.B8 : List Nat := [0, 0, 2, 7, 15, 31, 31, 0, 191, 511]
theorem spec_l08Draw.tab8 : rtab .any (opsOf Tryd.f23 8) = spec_l08Draw.T8 := by kernel_rfl
theorem spec_l08Draw.bits8 : waitsOk spec_l08Draw.T8.2 spec_l08Draw.B8 = true := by kernel_rfl
def spec_l08Draw.T19 : Bool × List (List Nat × List Nat) := (true, [([], []), ([0], [0]), ([], []), ([], []), ([], []), ([2, 3, 4], [2, 3, 4]), ([5], [5]), ([1, 6, 5], [1, 6]), ([0, 1, 2, 3, 4, 5, 6, 7], []), ([8, 7, 7, 0, 1, 2, 3, 4, 5, 6, 7], [7, 8])])
def spec_l08Draw.B19 : List Nat := [0, 1, 0, 0, 0, 28, 60, 127, 255, 511]
theorem spec_l08Draw.tab19 : rtab .any (opsOf Tryd.f23 19) = spec_l08Draw.T19 := by kernel_rfl
theorem spec_l08Draw.bits19 : waitsOk spec_l08Draw.T19.2 spec_l08Draw.B19 = true := by kernel_rfl
set_option maxHeartbeats 8000000 in
set_option maxRecDepth 100000 in
theorem spec_l08Draw.calls (k : Nat) (g : Nat) (s0_0 : List Int) (s0_1 : Int) (s0_2 : Int) (r1 : Int) (r2 : Int) (r3 : List Int) (r4 : Int) (r5 : Int) (w0 w : World) (hI : IsS67 w0 w g s0_0 s0_1 s0_2) (hB : Below w0.heap.size w0 w) (h : spec_l08Draw.f k s0_0 s0_1 s0_2 = some (r1, r2, r3, r4, r5)) :
  Calls Tryd.prog 23 #[.pointer (some ⟨g, 0, none⟩)] w fun e w' => ∃ v2_ : Value, e = .returned (.agg #[.int .i64 r1, .int .i64 r2, v2_]) ∧ Kd.R (Kd.int .i64) 2 w' w.heap.size (fun _ => True) v2_ r3 ∧ IsS67 w0 w' g s0_0 r4 r5 ∧ Below w0.heap.size w0 w' ∧ KeepBut w w' g none := by
 have hu28 := Tryd.underlying28
 have HI0 := Aside0.mk hI
 have HK := asd (KeepBut.refl w g none)
 have HL := Aside0.mk hB.size
 clear hI
 have HW0 := Aside0.mk hB.size
 have HB := Aside0.mk hB
 clear hB
 have H : ((spec_l01Next.f s0_0 s0_1 s0_2 4).bind fun bt212 => ((spec_l01Next.f s0_0 bt212.2.1 bt212.2.2 12).bind fun bt215 => ((spec_l01Next.f s0_0 bt215.2.1 bt215.2.2 5).bind fun bt218 => ((spec_l01Pick.f s0_0 bt218.2.1 bt218.2.2 (([wrap64 (1 + bt215.1), wrap64 (2 + (wrap64 (2 * bt218.1)))] : List Int))).bind fun bt224 => ((spec_l01Next.f s0_0 bt224.2.1 bt224.2.2 3).bind fun bt231 => (spec_l08Draw.l0 k (wrap64 (2 + bt231.1)) (wrap64 ((wrap64 (1 + bt212.1)) * bt224.1)) s0_0 bt231.2.1 bt231.2.2 (wrap64 (1 + bt212.1)) bt224.1 (([] : List Int)))))))) = some (r1, r2, r3, r4, r5) := h
 clear h
 obtain ⟨⟨t212, t213, t214⟩, A2, H⟩ := ob H
 try dsimp only at H
 obtain ⟨⟨t215, t216, t217⟩, A3, H⟩ := ob H
 try dsimp only at H
 obtain ⟨⟨t218, t219, t220⟩, A4, H⟩ := ob H
 try dsimp only at H
 obtain ⟨y221, hy221⟩ : ∃ y_ : List Int, y_ = (([wrap64 (1 + t215), wrap64 (2 + (wrap64 (2 * t218)))] : List Int)) := ⟨_, rfl⟩
 replace H : ((spec_l01Pick.f s0_0 t219 t220 y221).bind fun bt224 => ((spec_l01Next.f s0_0 bt224.2.1 bt224.2.2 3).bind fun bt231 => (spec_l08Draw.l0 k (wrap64 (2 + bt231.1)) (wrap64 ((wrap64 (1 + t212)) * bt224.1)) s0_0 bt231.2.1 bt231.2.2 (wrap64 (1 + t212)) bt224.1 (([] : List Int))))) = some (r1, r2, r3, r4, r5) := by first | (rw [hy221]; with_reducible exact H) | (have H2_ := (Option.bind_some _ _).symm.trans H; rw [hy221]; with_reducible exact H2_) | (have H2_ := (Option.bind_some _ _).symm.trans H; with_reducible exact H2_) | with_reducible exact H | (rw [hy221]; exact H) | exact H
 have Ny221 := Aside0.mk hy221
 clear hy221
 obtain ⟨⟨t224, t225, t226⟩, A5, H⟩ := ob H
 try dsimp only at H
 obtain ⟨y227, hy227⟩ : ∃ y_ : List Int, y_ = (([] : List Int)) := ⟨_, rfl⟩
 replace H : ((spec_l01Next.f s0_0 t225 t226 3).bind fun bt231 => (spec_l08Draw.l0 k (wrap64 (2 + bt231.1)) (wrap64 ((wrap64 (1 + t212)) * t224)) s0_0 bt231.2.1 bt231.2.2 (wrap64 (1 + t212)) t224 y227)) = some (r1, r2, r3, r4, r5) := by first | (rw [hy227]; with_reducible exact H) | (have H2_ := (Option.bind_some _ _).symm.trans H; rw [hy227]; with_reducible exact H2_) | (have H2_ := (Option.bind_some _ _).symm.trans H; with_reducible exact H2_) | with_reducible exact H | (rw [hy227]; exact H) | exact H
 have Ny227 := Aside0.mk hy227
 clear hy227
 obtain ⟨⟨t231, t232, t233⟩, A6, H⟩ := ob H
 try dsimp only at H
 have H' := Aside0.mk H
 clear H
 go_enter Tryd.func23, Tryd.ntmps23
 go_wp2_with (first | ((with_reducible refine gd 2 rfl ?_); refine bx #[.int .i64 0, .int .i64 0, .slice none 0 0] 28 ?_; intro gb211 hg w7 BK211 hb; replace HB := asd (below_step (by repeat (first | (with_reducible first | exact HB.out | apply below_alloc | apply pw_below_drewN | apply below_drew1 | refine below_set ?_ (IsS67.ge HI0.out)) | exact HB.out)) hb); have GW211 := asd ((by rw [hg]; exact (keep_size (w := w) (g := g) (row := none) (by repeat (first | (with_reducible first | exact HK.out | apply KeepBut.set_ | apply keep_drewN | apply keep_drew | apply keep_alloc) | exact HK.out))) : w.heap.size ≤ gb211)); have GE211 := asd ((Nat.le_trans HW0.out (by rw [hg]; exact (keep_size (w := w) (g := g) (row := none) (by repeat (first | (with_reducible first | exact HK.out | apply KeepBut.set_ | apply keep_drewN | apply keep_drew | apply keep_alloc) | exact HK.out))) : w.heap.size ≤ gb211) : w0.heap.size ≤ gb211)); replace HK := asd (KeepBut.trans (by repeat (first | (with_reducible first | exact HK.out | apply KeepBut.set_ | apply keep_drewN | apply keep_drew | apply keep_alloc) | exact HK.out)) (KeepBut.of_below hb g none) (.inl rfl)); have NB0_211 := asd ((by rw [hg]; exact Nat.ne_of_lt (IsS67.lt (show IsS67 w0 _ g s0_0 s0_1 s0_2 from by repeat (first | (with_reducible first | exact HI0.out | apply IsS67.alloc | apply IsS67.drewN | apply IsS67.drew | apply IsS67.set_1 | apply IsS67.set_2) | exact HI0.out))) : g ≠ gb211)); have NB211_0 := asd ((by rw [hg]; exact Nat.ne_of_gt (IsS67.lt (show IsS67 w0 _ g s0_0 s0_1 s0_2 from by repeat (first | (with_reducible first | exact HI0.out | apply IsS67.alloc | apply IsS67.drewN | apply IsS67.drew | apply IsS67.set_1 | apply IsS67.set_2) | exact HI0.out))) : gb211 ≠ g)); replace HI0 := asd (IsS67.below (by repeat (first | (with_reducible first | exact HI0.out | apply IsS67.alloc | apply IsS67.drewN | apply IsS67.drew | apply IsS67.set_1 | apply IsS67.set_2) | exact HI0.out)) hb); clear hb hg) | ((with_reducible refine gate_callee (f := 25) rfl ?_); refine gl 12 Tryd.func25 #[.pointer (some ⟨g, 0, none⟩), .int .i64 4] ?_; (with_reducible refine (spec_l01Next.calls _ _ _ _ _ _ _ _ w0 _ ?side1 ?side2 A2.out).mono ?_); (case side1 => repeat (first | (with_reducible first | exact HI0.out | apply IsS67.alloc | apply IsS67.drewN | apply IsS67.drew | apply IsS67.set_1 | apply IsS67.set_2 | refine IsS67.far ?_ NB0_211.out _) | exact HI0.out)); (case side2 => repeat (first | (with_reducible first | exact HB.out | apply below_alloc | apply pw_below_drewN | apply below_drew1 | refine below_set ?_ (IsS67.ge HI0.out) | refine below_set ?_ GE211.out) | exact HB.out)); rintro e w8 ⟨rfl, hi, hb, hk⟩; refine ⟨_, rfl, ?_⟩; replace BK211 := asd (KeepBut.blk hk (g' := gb211) (o := .cells #[.int .i64 0, .int .i64 0, .slice none 0 0] 28 (0, 0)) (bkp BK211) NB211_0.out (by simp)); replace HK := asd (KeepBut.trans (by repeat (first | (with_reducible first | exact HK.out | apply KeepBut.set_ | apply keep_drewN | apply keep_drew | apply keep_alloc | refine keep_far ?_ GW211.out _) | exact HK.out)) hk (.inl rfl)); replace HB := asd (hb); replace HI0 := asd (hi); (try clear hb); (try clear hb2); (try clear hk); (try clear hi)) | ((with_reducible refine gate_callee (f := 25) rfl ?_); refine gl 16 Tryd.func25 #[.pointer (some ⟨g, 0, none⟩), .int .i64 12] ?_; (with_reducible refine (spec_l01Next.calls _ _ _ _ _ _ _ _ w0 _ ?side1 ?side2 A3.out).mono ?_); (case side1 => repeat (first | (with_reducible first | exact HI0.out | apply IsS67.alloc | apply IsS67.drewN | apply IsS67.drew | apply IsS67.set_1 | apply IsS67.set_2 | refine IsS67.far ?_ NB0_211.out _) | exact HI0.out)); (case side2 => repeat (first | (with_reducible first | exact HB.out | apply below_alloc | apply pw_below_drewN | apply below_drew1 | refine below_set ?_ (IsS67.ge HI0.out) | refine below_set ?_ GE211.out) | exact HB.out)); rintro e w9 ⟨rfl, hi, hb, hk⟩; refine ⟨_, rfl, ?_⟩; replace BK211 := asd (KeepBut.blk hk (g' := gb211) (o := .cells #[.int .i64 0, .int .i64 0, .slice none 0 0] 28 (0, 0)) (bkp BK211) NB211_0.out (by simp)); replace HK := asd (KeepBut.trans (by repeat (first | (with_reducible first | exact HK.out | apply KeepBut.set_ | apply keep_drewN | apply keep_drew | apply keep_alloc | refine keep_far ?_ GW211.out _) | exact HK.out)) hk (.inl rfl)); replace HB := asd (hb); replace HI0 := asd (hi); (try clear hb); (try clear hb2); (try clear hk); (try clear hi)) | ((with_reducible refine gate_callee (f := 25) rfl ?_); refine gl 19 Tryd.func25 #[.pointer (some ⟨g, 0, none⟩), .int .i64 5] ?_; (with_reducible refine (spec_l01Next.calls _ _ _ _ _ _ _ _ w0 _ ?side1 ?side2 A4.out).mono ?_); (case side1 => repeat (first | (with_reducible first | exact HI0.out | apply IsS67.alloc | apply IsS67.drewN | apply IsS67.drew | apply IsS67.set_1 | apply IsS67.set_2 | refine IsS67.far ?_ NB0_211.out _) | exact HI0.out)); (case side2 => repeat (first | (with_reducible first | exact HB.out | apply below_alloc | apply pw_below_drewN | apply below_drew1 | refine below_set ?_ (IsS67.ge HI0.out) | refine below_set ?_ GE211.out) | exact HB.out)); rintro e w10 ⟨rfl, hi, hb, hk⟩; refine ⟨_, rfl, ?_⟩; replace BK211 := asd (KeepBut.blk hk (g' := gb211) (o := .cells #[.int .i64 0, .int .i64 0, .slice none 0 0] 28 (0, 0)) (bkp BK211) NB211_0.out (by simp)); replace HK := asd (KeepBut.trans (by repeat (first | (with_reducible first | exact HK.out | apply KeepBut.set_ | apply keep_drewN | apply keep_drew | apply keep_alloc | refine keep_far ?_ GW211.out _) | exact HK.out)) hk (.inl rfl)); replace HB := asd (hb); replace HI0 := asd (hi); (try clear hb); (try clear hb2); (try clear hk); (try clear hi)) | ((with_reducible refine gd 22 rfl ?_); refine Kd.R_lit (Kd.int .i64) _ 2 ?hg (N := 22) ?hd (xs := ([wrap64 (1 + t215), wrap64 (2 + (wrap64 (2 * t218)))] : List Int)) (inner := [.int .i64 (wrap64 (1 + t215)), .int .i64 (wrap64 (2 + (wrap64 (2 * t218))))]) (ok := fun _ => True) (okp := fun _ => True) ?hr ?hp (fun _ hk => hk) trivial (Below.refl _ _) (Nat.le_refl _) (by simp) ?_; (case hd => rfl); (case hg => rfl); (case hr => first | (go_simp; done) | (go_simp; rfl)); (case hp => exact (Reps.one (show Kd.M (Kd.int .i64) _ _ _ (wrap64 (1 + t215)) [.int .i64 (wrap64 (1 + t215))] from rfl) (Reps.one (show Kd.M (Kd.int .i64) _ _ _ (wrap64 (2 + (wrap64 (2 * t218)))) [.int .i64 (wrap64 (2 + (wrap64 (2 * t218))))] from rfl) (Reps.none _ _)))); intro v222 w11 ho12 hb hg_ hnew_; clear hg_ hnew_; (first | rw [← Ny221.out] at ho12 | (simp only [Int.reduceToNat] at ho12; rw [← Ny221.out] at ho12)); have HO223 := asd (Kd.R_lower ho12 (keep_size (w := w) (g := g) (row := none) (by repeat (first | (with_reducible first | exact HK.out | apply KeepBut.set_ | apply keep_drewN | apply keep_drew | apply keep_alloc | refine keep_far ?_ GW211.out _) | exact HK.out)))); replace BK211 := bB BK211 hb; replace HK := asd (KeepBut.trans (by repeat (first | (with_reducible first | exact HK.out | apply KeepBut.set_ | apply keep_drewN | apply keep_drew | apply keep_alloc | refine keep_far ?_ GW211.out _) | exact HK.out)) (KeepBut.of_below hb g none) (.inl rfl)); replace HB := asd (below_step (by repeat (first | (with_reducible first | exact HB.out | apply below_alloc | apply pw_below_drewN | apply below_drew1 | refine below_set ?_ (IsS67.ge HI0.out) | refine below_set ?_ GE211.out) | exact HB.out)) hb); replace HI0 := asd (IsS67.below (by repeat (first | (with_reducible first | exact HI0.out | apply IsS67.alloc | apply IsS67.drewN | apply IsS67.drew | apply IsS67.set_1 | apply IsS67.set_2 | refine IsS67.far ?_ NB0_211.out _) | exact HI0.out)) hb); clear hb ho12; obtain ⟨Ao13, co13, eo13⟩ := Kd.R_slice HO223.out; subst eo13) | ((with_reducible refine gate_callee (f := 37) rfl ?_); refine gl 23 Tryd.func37 #[.pointer (some ⟨g, 0, none⟩), .slice Ao13 y221.length co13] ?_; (with_reducible refine (spec_l01Pick.calls _ _ _ _ _ _ _ _ _ _ w0 _ ?side1 ?side2 ?side3 ?side4 ?side5 A5.out).mono ?_); (case side1 => repeat (first | (with_reducible first | exact HI0.out | apply IsS67.alloc | apply IsS67.drewN | apply IsS67.drew | apply IsS67.set_1 | apply IsS67.set_2 | refine IsS67.far ?_ NB0_211.out _) | exact HI0.out)); (case side2 => repeat (first | (with_reducible first | exact HB.out | apply below_alloc | apply pw_below_drewN | apply below_drew1 | refine below_set ?_ (IsS67.ge HI0.out) | refine below_set ?_ GE211.out) | exact HB.out)); (case side3 => exact ks (Kd.R_reads' HO223.out).2.2); (case side4 => exact (Kd.R_reads' HO223.out).2.1); (case side5 => exact far_slice (IsS67.own_ne HI0.out HO223.out (by decide))); rintro e w14 ⟨rfl, hi, hb, hk⟩; refine ⟨_, rfl, ?_⟩; replace BK211 := asd (KeepBut.blk hk (g' := gb211) (o := .cells #[.int .i64 0, .int .i64 0, .slice none 0 0] 28 (0, 0)) (bkp BK211) NB211_0.out (by simp)); replace HO223 := asd (Kd.R_mono (Kd.R_keep (IsS67.apart (show IsS67 w0 _ g s0_0 t219 t220 from by repeat (first | (with_reducible first | exact HI0.out | apply IsS67.alloc | apply IsS67.drewN | apply IsS67.drew | apply IsS67.set_1 | apply IsS67.set_2 | refine IsS67.far ?_ NB0_211.out _) | exact HI0.out)) (kr HO223) (by decide)) hk (fun _ h => h.2)) (fun _ h => h.1)); replace HK := asd (KeepBut.trans (by repeat (first | (with_reducible first | exact HK.out | apply KeepBut.set_ | apply keep_drewN | apply keep_drew | apply keep_alloc | refine keep_far ?_ GW211.out _) | exact HK.out)) hk (.inl rfl)); replace HB := asd (hb); replace HI0 := asd (hi); (try clear hb); (try clear hb2); (try clear hk); (try clear hi)) | ((with_reducible refine gd 24 rfl ?_); refine Kd.R_lit (Kd.int .i64) _ 2 ?hg (N := 24) ?hd (xs := ([] : List Int)) (inner := []) (ok := fun _ => True) (okp := fun _ => True) ?hr ?hp (fun _ hk => hk) trivial (Below.refl _ _) (Nat.le_refl _) (by simp) ?_; (case hd => rfl); (case hg => rfl); (case hr => first | (go_simp; done) | (go_simp; rfl)); (case hp => exact (Reps.none _ _)); intro v228 w15 ho16 hb hg_ hnew_; clear hg_ hnew_; (first | rw [← Ny227.out] at ho16 | (simp only [Int.reduceToNat] at ho16; rw [← Ny227.out] at ho16)); have HO229 := asd (Kd.R_lower (Kd.R_new' ho16 (Kd.R_lt (kr HO223))) (keep_size (w := w) (g := g) (row := none) (by repeat (first | (with_reducible first | exact HK.out | apply KeepBut.set_ | apply keep_drewN | apply keep_drew | apply keep_alloc | refine keep_far ?_ GW211.out _) | exact HK.out)))); replace HO223 := asd (Kd.R_elder' (kr HO223) (Kd.R_base ho16) hb); replace BK211 := bB BK211 hb; replace HK := asd (KeepBut.trans (by repeat (first | (with_reducible first | exact HK.out | apply KeepBut.set_ | apply keep_drewN | apply keep_drew | apply keep_alloc | refine keep_far ?_ GW211.out _) | exact HK.out)) (KeepBut.of_below hb g none) (.inl rfl)); replace HB := asd (below_step (by repeat (first | (with_reducible first | exact HB.out | apply below_alloc | apply pw_below_drewN | apply below_drew1 | refine below_set ?_ (IsS67.ge HI0.out) | refine below_set ?_ GE211.out) | exact HB.out)) hb); replace HI0 := asd (IsS67.below (by repeat (first | (with_reducible first | exact HI0.out | apply IsS67.alloc | apply IsS67.drewN | apply IsS67.drew | apply IsS67.set_1 | apply IsS67.set_2 | refine IsS67.far ?_ NB0_211.out _) | exact HI0.out)) hb); clear hb ho16; obtain ⟨Ao17, co17, eo17⟩ := Kd.R_slice HO229.out; subst eo17) | ((with_reducible refine gd 3 rfl ?_); refine bx #[.int .i64 0, .int .i64 0, .slice none 0 0] 28 ?_; intro gb230 hg w18 BK230 hb; replace HO223 := asd (Kd.R_below (kr HO223) hb); replace HO229 := asd (Kd.R_below (kr HO229) hb); replace HB := asd (below_step (by repeat (first | (with_reducible first | exact HB.out | apply below_alloc | apply pw_below_drewN | apply below_drew1 | refine below_set ?_ (IsS67.ge HI0.out) | refine below_set ?_ GE211.out) | exact HB.out)) hb); have GW230 := asd ((by rw [hg]; exact (keep_size (w := w) (g := g) (row := none) (by repeat (first | (with_reducible first | exact HK.out | apply KeepBut.set_ | apply keep_drewN | apply keep_drew | apply keep_alloc | refine keep_far ?_ GW211.out _) | exact HK.out))) : w.heap.size ≤ gb230)); have GE230 := asd ((Nat.le_trans HW0.out (by rw [hg]; exact (keep_size (w := w) (g := g) (row := none) (by repeat (first | (with_reducible first | exact HK.out | apply KeepBut.set_ | apply keep_drewN | apply keep_drew | apply keep_alloc | refine keep_far ?_ GW211.out _) | exact HK.out))) : w.heap.size ≤ gb230) : w0.heap.size ≤ gb230)); replace HK := asd (KeepBut.trans (by repeat (first | (with_reducible first | exact HK.out | apply KeepBut.set_ | apply keep_drewN | apply keep_drew | apply keep_alloc | refine keep_far ?_ GW211.out _) | exact HK.out)) (KeepBut.of_below hb g none) (.inl rfl)); have NB211_230 := nlt hg BK211; have NB230_211 := nsy (nlt hg BK211); replace BK211 := bB BK211 hb; have NB0_230 := asd ((by rw [hg]; exact Nat.ne_of_lt (IsS67.lt (show IsS67 w0 _ g s0_0 t225 t226 from by repeat (first | (with_reducible first | exact HI0.out | apply IsS67.alloc | apply IsS67.drewN | apply IsS67.drew | apply IsS67.set_1 | apply IsS67.set_2 | refine IsS67.far ?_ NB0_211.out _) | exact HI0.out))) : g ≠ gb230)); have NB230_0 := asd ((by rw [hg]; exact Nat.ne_of_gt (IsS67.lt (show IsS67 w0 _ g s0_0 t225 t226 from by repeat (first | (with_reducible first | exact HI0.out | apply IsS67.alloc | apply IsS67.drewN | apply IsS67.drew | apply IsS67.set_1 | apply IsS67.set_2 | refine IsS67.far ?_ NB0_211.out _) | exact HI0.out))) : gb230 ≠ g)); replace HI0 := asd (IsS67.below (by repeat (first | (with_reducible first | exact HI0.out | apply IsS67.alloc | apply IsS67.drewN | apply IsS67.drew | apply IsS67.set_1 | apply IsS67.set_2 | refine IsS67.far ?_ NB0_211.out _) | exact HI0.out)) hb); clear hb hg; have hnb19 := NB230_211.out; have hnc19 := NB211_230.out; have hnb20 := NB230_0.out; have hnc20 := NB0_230.out; obtain ⟨hcz21_0, hcz21_1, hcz21_2, hfz21_0, hfz21_1, hfz21_2⟩ := bz3 BK230) | ((with_reducible refine gate_callee (f := 25) rfl ?_); refine gl 27 Tryd.func25 #[.pointer (some ⟨g, 0, none⟩), .int .i64 3] ?_; (with_reducible refine (spec_l01Next.calls _ _ _ _ _ _ _ _ w0 _ ?side1 ?side2 A6.out).mono ?_); (case side1 => repeat (first | (with_reducible first | exact HI0.out | apply IsS67.alloc | apply IsS67.drewN | apply IsS67.drew | apply IsS67.set_1 | apply IsS67.set_2 | refine IsS67.far ?_ NB0_211.out _ | refine IsS67.far ?_ NB0_230.out _) | exact HI0.out)); (case side2 => repeat (first | (with_reducible first | exact HB.out | apply below_alloc | apply pw_below_drewN | apply below_drew1 | refine below_set ?_ (IsS67.ge HI0.out) | refine below_set ?_ GE211.out | refine below_set ?_ GE230.out) | exact HB.out)); rintro e w22 ⟨rfl, hi, hb, hk⟩; refine ⟨_, rfl, ?_⟩; replace BK211 := asd (KeepBut.blk hk (g' := gb211) (o := .cells #[.int .i64 0, .int .i64 0, .slice none 0 0] 28 (0, 0)) (bq1 BK211 NB211_230) NB211_0.out (by simp)); replace HO223 := asd (Kd.R_mono (Kd.R_keep (IsS67.apart (show IsS67 w0 _ g s0_0 t225 t226 from by repeat (first | (with_reducible first | exact HI0.out | apply IsS67.alloc | apply IsS67.drewN | apply IsS67.drew | apply IsS67.set_1 | apply IsS67.set_2 | refine IsS67.far ?_ NB0_211.out _ | refine IsS67.far ?_ NB0_230.out _) | exact HI0.out)) (by (with_reducible repeat (first | apply Kd.R_alloc | apply Kd.R_drewN | apply Kd.R_drew)); exact (Kd.R_mono (rw3 (Kd.R_types HO223.out BK230.out (by decide))) (fun _ h_ => h_.1))) (by decide)) hk (fun _ h => h.2)) (fun _ h => h.1)); replace HO229 := asd (Kd.R_mono (Kd.R_keep (IsS67.apart (show IsS67 w0 _ g s0_0 t225 t226 from by repeat (first | (with_reducible first | exact HI0.out | apply IsS67.alloc | apply IsS67.drewN | apply IsS67.drew | apply IsS67.set_1 | apply IsS67.set_2 | refine IsS67.far ?_ NB0_211.out _ | refine IsS67.far ?_ NB0_230.out _) | exact HI0.out)) (by (with_reducible repeat (first | apply Kd.R_alloc | apply Kd.R_drewN | apply Kd.R_drew)); exact (Kd.R_mono (rw3 (Kd.R_types HO229.out BK230.out (by decide))) (fun _ h_ => h_.1))) (by decide)) hk (fun _ h => h.2)) (fun _ h => h.1)); replace BK230 := asd (KeepBut.blk hk (g' := gb230) (o := .cells #[.int .i64 (wrap64 (1 + t212)), .int .i64 t224, .slice Ao17 y227.length co17] 28 (0, 0)) (bq0 BK230) NB230_0.out (by simp)); replace HK := asd (KeepBut.trans (by repeat (first | (with_reducible first | exact HK.out | apply KeepBut.set_ | apply keep_drewN | apply keep_drew | apply keep_alloc | refine keep_far ?_ GW211.out _ | refine keep_far ?_ GW230.out _) | exact HK.out)) hk (.inl rfl)); replace HB := asd (hb); replace HI0 := asd (hi); (try clear hb); (try clear hb2); (try clear hk); (try clear hi); obtain ⟨hcz23_0, hcz23_1, hcz23_2, hfz23_0, hfz23_1, hfz23_2⟩ := bz3 BK230))
 go_loopg [5] k (fun kq v5 w' => ∃ (x5_1 : Int) (x1001_1 : Int) (x1002_1 : Int) (x231002_1 : List Int) (u231002 : Value), v5 = .int .i64 x5_1 ∧ Aside0 (spec_l08Draw.l0 kq (wrap64 (2 + t231)) x5_1 s0_0 x1001_1 x1002_1 (wrap64 (1 + t212)) t224 x231002_1 = some (r1, r2, r3, r4, r5)) ∧ Aside0 (kq ≤ k) ∧ Aside0 (Kd.R (Kd.int .i64) 2 w' w.heap.size (fun _ => True) u231002 x231002_1) ∧ Aside0 (w'.heap[gb211]? = some (.cells #[.int .i64 0, .int .i64 0, (.slice none 0 0)] 28 (0, 0))) ∧ Aside0 (w'.heap[gb230]? = some (.cells #[.int .i64 (wrap64 (1 + t212)), .int .i64 t224, u231002] 28 (0, 0))) ∧ Aside0 (IsS67 w0 w' g s0_0 x1001_1 x1002_1) ∧ Aside0 (KeepBut w w' g none) ∧ Aside0 (Below w0.heap.size w0 w'))
 case atStart => exact ⟨(wrap64 ((wrap64 (1 + t212)) * t224)), (t232), (t233), (y227), (.slice Ao17 y227.length co17), (by first | rfl | (simp; done) | (simp [*]; done)), H', ⟨Nat.le_refl _⟩, ⟨by (with_reducible repeat (first | apply Kd.R_alloc | apply Kd.R_drewN | apply Kd.R_drew)); exact Kd.R_mono HO229.out (fun _ hk => trivial)⟩, ⟨bkp BK211⟩, ⟨bkp BK230⟩, ⟨by repeat (first | (with_reducible first | exact HI0.out | apply IsS67.alloc | apply IsS67.drewN | apply IsS67.drew | apply IsS67.set_1 | apply IsS67.set_2 | refine IsS67.far ?_ NB0_211.out _ | refine IsS67.far ?_ NB0_230.out _) | exact HI0.out)⟩, ⟨by repeat (first | (with_reducible first | exact HK.out | apply KeepBut.set_ | apply keep_drewN | apply keep_drew | apply keep_alloc | refine keep_far ?_ GW211.out _ | refine keep_far ?_ GW230.out _) | exact HK.out)⟩, ⟨by repeat (first | (with_reducible first | exact HB.out | apply below_alloc | apply pw_below_drewN | apply below_drew1 | refine below_set ?_ (IsS67.ge HI0.out) | refine below_set ?_ GE211.out | refine below_set ?_ GE230.out) | exact HB.out)⟩⟩
 case round =>
  clear H'
  try clear c1
  try clear c2
  try clear p2
  try clear c3
  try clear p6
  try clear c19
  try clear c20
  try clear c23
  try clear hcz21_0
  try clear hcz21_1
  try clear hcz21_2
  try clear hcz23_0
  try clear hcz23_1
  try clear hcz23_2
  try clear hfz21_0
  try clear hfz21_1
  try clear hfz21_2
  try clear hfz23_0
  try clear hfz23_1
  try clear hfz23_2
  obtain ⟨x5_1, x1001_1, x1002_1, x231002_1, u231002, rfl, HA, HK1, HO_231002, BK211, BK230, HI0, HK, HB⟩ := hrel
  cases gk with
  | zero => exact absurd HA.out (by simp [spec_l08Draw.l0])
  | succ k1 =>
   have H := HA.out
   clear HA
   simp only [spec_l08Draw.l0] at H
   by_cases c24 : x5_1 > 0
   ·rw [if_pos c24] at H
    have c24b0 : decide (0 < x5_1) = true := decide_eq_true c24
    clear c24
    obtain ⟨⟨t234, t235, t236⟩, A25, H⟩ := ob H
    try dsimp only at H
    by_cases c26 : x231002_1.length < 17592186044416
    ·rw [if_pos c26] at H
     have LMc26 := Aside0.mk c26
     clear c26
     obtain ⟨y237, hy237⟩ : ∃ y_ : List Int, y_ = (x231002_1 ++ [t234]) := ⟨_, rfl⟩
     replace H : (spec_l08Draw.l0 k1 (wrap64 (2 + t231)) (wrap64 (x5_1 - 1)) s0_0 t235 t236 (wrap64 (1 + t212)) t224 y237) = some (r1, r2, r3, r4, r5) := by first | (rw [hy237]; with_reducible exact H) | (have H2_ := (Option.bind_some _ _).symm.trans H; rw [hy237]; with_reducible exact H2_) | (have H2_ := (Option.bind_some _ _).symm.trans H; with_reducible exact H2_) | with_reducible exact H | (rw [hy237]; exact H) | exact H
     have Ny237 := Aside0.mk hy237
     clear hy237
     have H' := Aside0.mk H
     clear H
     try go_wp2
     replace HO_231002 := asd (Kd.R_drew HO_231002.out)
     replace BK211 := asd (blk_drew BK211.out)
     replace BK230 := asd (blk_drew BK230.out)
     replace HI0 := asd (IsS67.drew HI0.out)
     replace HK := asd (keep_drew HK.out)
     replace HB := asd (below_drew1 HB.out)
     refine start_ (n := 9) (S := fun w' => w'.cell? ⟨gb230, 0, none⟩ = some (.int .i64 (wrap64 (1 + t212))) ∧ w'.cell? ⟨gb230, 1, none⟩ = some (.int .i64 t224) ∧ w'.cell? ⟨gb230, 2, none⟩ = some (u231002)) (ds := [8]) (bT 9 0) (by kernel_rfl) rfl rfl ⟨bcl BK230 0, bcl BK230 1, bcl BK230 2⟩ (fun hHeld => ?_); refine with_tabW spec_l08Draw.tab6 spec_l08Draw.bits6 (fun HT_ HW_ => ?_)
     generalize wr.drew = w27 at HO_231002 BK211 BK230 HI0 HK HB hHeld ⊢
     refine pu 0 (some 38) (bT 9 1) HT_ ?_
     refine pu 2 (some 40) (bs 9 5) HT_ ?_
     refine pu 3 (some 41) (bs 9 13) HT_ ?_
     refine ta 1 (some 39) (bT 9 4) HT_ HW_ hHeld ?_
     refine ro 4 (some 42) (bT 9 5) HT_ (fun K hK => ?_)
     refine gs Tryd.func25 #[.pointer (some ⟨g, 0, none⟩), .int .i64 (wrap64 (2 + t231))] ?_
     with_reducible refine (spec_l01Next.calls _ _ _ _ _ _ _ _ w0 _ ?side1 ?side2 A25.out).mono ?_
     (case side1 => repeat (first | (with_reducible first | exact HI0.out | apply IsS67.alloc | apply IsS67.drewN | apply IsS67.drew | apply IsS67.set_1 | apply IsS67.set_2 | refine IsS67.far ?_ NB0_211.out _ | refine IsS67.far ?_ NB0_230.out _) | exact HI0.out))
     (case side2 => repeat (first | (with_reducible first | exact HB.out | apply below_alloc | apply pw_below_drewN | apply below_drew1 | refine below_set ?_ (IsS67.ge HI0.out) | refine below_set ?_ GE211.out | refine below_set ?_ GE230.out) | exact HB.out))
     rintro e w28 ⟨rfl, hi, hb, hk⟩
     refine ⟨_, rfl, ?_⟩
     replace HO_231002 := asd (Kd.R_mono (Kd.R_keep (IsS67.apart (show IsS67 w0 _ g s0_0 x1001_1 x1002_1 from by repeat (first | (with_reducible first | exact HI0.out | apply IsS67.alloc | apply IsS67.drewN | apply IsS67.drew | apply IsS67.set_1 | apply IsS67.set_2 | refine IsS67.far ?_ NB0_211.out _ | refine IsS67.far ?_ NB0_230.out _) | exact HI0.out)) (kr HO_231002) (by decide)) hk (fun _ h => h.2)) (fun _ h => h.1))
     replace BK211 := asd (KeepBut.blk hk (g' := gb211) (o := .cells #[.int .i64 0, .int .i64 0, .slice none 0 0] 28 (0, 0)) (bkp BK211) NB211_0.out (by simp))
     replace BK230 := asd (KeepBut.blk hk (g' := gb230) (o := .cells #[.int .i64 (wrap64 (1 + t212)), .int .i64 t224, u231002] 28 (0, 0)) (bkp BK230) NB230_0.out (by simp))
     replace HK := asd (KeepBut.trans (by repeat (first | (with_reducible first | exact HK.out | apply KeepBut.set_ | apply keep_drewN | apply keep_drew | apply keep_alloc | refine keep_far ?_ GW211.out _ | refine keep_far ?_ GW230.out _) | exact HK.out)) hk (.inl rfl))
     replace HB := asd (hb)
     replace HI0 := asd (hi)
     (try clear hb)
     (try clear hb2)
     (try clear hk)
     (try clear hi)
     refine hK.out _ _ (eb3 BK230).out (fun hHeld => ?_)
     clear hK K
     refine norm_ (a' := ?_) ?_ ?_
     rotate_left
     ·show Act.put _ (some 42) _ = _
      simp only [Act.put, sA, sB, sC, i64_w, i32_w]
      rfl
     refine ro 5 (some 43) (bT 9 6) HT_ (fun K hK => ?_)
     refine value_ (w1 := ?_) (v := ?_) (by rfl) rfl ?_ ?_
     rotate_left 2
     ·go_simp
      constructor
      ·rfl
      ·rfl
     refine hK.out _ _ ⟨(blk_cell (blk_alloc BK230.out _) 0).trans rfl, (blk_cell (blk_alloc BK230.out _) 1).trans rfl, (blk_cell (blk_alloc BK230.out _) 2).trans rfl⟩ (fun hHeld => ?_)
     clear hK K
     refine norm_ (a' := ?_) ?_ ?_
     rotate_left
     ·show Act.put _ (some 43) _ = _
      simp only [Act.put, sA, sB, sC, i64_w, i32_w]
      rfl
     refine ro 6 (some 44) (bT 9 7) HT_ (fun K hK => ?_)
     refine Kd.R_append_step (Kd.int .i64) w.heap.size (by rfl) (.tmp 39) (.tmp 43) 22 2 (.int .i64 0) 8 rfl Tryd.underlying22 info2 rfl (by decide) (by omega) u231002 x231002_1 t234 [.int .i64 t234] (fun _ => True) (fun _ => False) rfl rfl ?aP (fun _ hk => hk.elim) ?aF ?aO (Below.refl _ _) ?aS ?aL ?_
     (case aP => exact rfl)
     (case aF => exact (fun _ _ => trivial))
     (case aO => exact (kr HO_231002))
     (case aS => exact (keep_size (w := w) (g := g) (row := none) (by repeat (first | (with_reducible first | exact HK.out | apply KeepBut.set_ | apply keep_drewN | apply keep_drew | apply keep_alloc | refine keep_far ?_ GW211.out _ | refine keep_far ?_ GW230.out _) | exact HK.out))))
     (case aL => have := LMc26.out; omega)
     intro v238 w29 ho hb hg hat
     rw [← Ny237.out] at ho
     have n0_ := asd (blk_grown (g := gb211) (o := .cells #[.int .i64 0, .int .i64 0, .slice none 0 0] 28 (0, 0)) (bkp BK211) hg (Kd.R_ne HO_231002.out BK211.out (by decide)))
     have n1_ := asd (blk_grown (g := gb230) (o := .cells #[.int .i64 (wrap64 (1 + t212)), .int .i64 t224, u231002] 28 (0, 0)) (bkp BK230) hg (Kd.R_ne HO_231002.out BK230.out (by decide)))
     have n2_ := asd (IsS67.grown (by repeat (first | (with_reducible first | exact HI0.out | apply IsS67.alloc | apply IsS67.drewN | apply IsS67.drew | apply IsS67.set_1 | apply IsS67.set_2 | refine IsS67.far ?_ NB0_211.out _ | refine IsS67.far ?_ NB0_230.out _) | exact HI0.out)) hg (IsS67.own_ne HI0.out HO_231002.out (by decide)))
     have n3_ := asd (below_weaken (by repeat (first | (with_reducible first | exact HB.out | apply below_alloc | apply pw_below_drewN | apply below_drew1 | refine below_set ?_ (IsS67.ge HI0.out) | refine below_set ?_ GE211.out | refine below_set ?_ GE230.out) | exact HB.out)) HL.out hb)
     have n4_ := asd (KeepBut.trans (by repeat (first | (with_reducible first | exact HK.out | apply KeepBut.set_ | apply keep_drewN | apply keep_drew | apply keep_alloc | refine keep_far ?_ GW211.out _ | refine keep_far ?_ GW230.out _) | exact HK.out)) (KeepBut.of_grown hg g) (Kd.R_base2 HO_231002.out))
     have n5_ := asd (ho)
     clear BK211
     clear BK230
     clear HI0
     clear HB
     clear HK
     clear HO_231002
     have BK211 := n0_
     have BK230 := n1_
     have HI0 := n2_
     have HB := n3_
     have HK := n4_
     have HO239 := n5_
     clear n0_ n1_ n2_ n3_ n4_ n5_
     clear ho hb hg hat
     obtain ⟨Ao30, co30, eo30⟩ := Kd.R_slice HO239.out
     (first | subst eo30 | (injection eo30 with f1_ f2_ f3_; have f4_ := f1_.symm; have f5_ := f3_.symm; clear f1_ f2_ f3_; subst f4_; subst f5_))
     refine hK.out _ _ (eb3 BK230).out (fun hHeld => ?_)
     clear hK K
     refine norm_ (a' := ?_) ?_ ?_
     rotate_left
     ·show Act.put _ (some 44) _ = _
      simp only [Act.put, sA, sB, sC, i64_w, i32_w]
      rfl
     refine pu 7 (some 45) (bT 9 8) HT_ ?_
     refine last_ (i := 8) (N := none) (bT 9 9) rfl rfl (one_of HT_.out (by kernel_rfl)) (by decide) (fun K hK => ?_)
     have hs31 : w29.cell? ⟨gb230, 2, none⟩ = some (u231002) := bcl BK230 2
     have hfs31 := blk_frozen BK230.out 2
     have hns31_0 := NB211_230.out
     have hms31_0 := NB230_211.out
     refine skip_ (w1 := ?_) (by rfl) rfl ?_ ?_
     rotate_left
     ·go_simp
      rfl
     refine hK.out _ _ ?_
     clear hK K
     refine done_ (done_of HT_.out (by kernel_rfl)) ?_
     try go_wp2
     go_roundg k1
     case measure => have := HK1.out; omega
     case rel => exact ⟨(wrap64 (x5_1 - 1)), (t235), (t236), (y237), (.slice Ao30 y237.length co30), (by first | rfl | (simp; done) | (simp [*]; done)), H', ⟨by have := HK1.out; omega⟩, ⟨by (with_reducible repeat (first | apply Kd.R_alloc | apply Kd.R_drewN | apply Kd.R_drew)); exact Kd.R_mono (Kd.R_far (p := ⟨gb230, 2, none⟩) (Kd.R_types HO239.out BK230.out (by decide)) (fun _ hk => hk.2) (.slice Ao30 y237.length co30)) (fun _ hk => trivial)⟩, ⟨bq1 BK211 NB211_230⟩, ⟨bq0 BK230⟩, ⟨by repeat (first | (with_reducible first | exact HI0.out | apply IsS67.alloc | apply IsS67.drewN | apply IsS67.drew | apply IsS67.set_1 | apply IsS67.set_2 | refine IsS67.far ?_ NB0_211.out _ | refine IsS67.far ?_ NB0_230.out _) | exact HI0.out)⟩, ⟨by repeat (first | (with_reducible first | exact HK.out | apply KeepBut.set_ | apply keep_drewN | apply keep_drew | apply keep_alloc | refine keep_far ?_ GW211.out _ | refine keep_far ?_ GW230.out _) | exact HK.out)⟩, ⟨by repeat (first | (with_reducible first | exact HB.out | apply below_alloc | apply pw_below_drewN | apply below_drew1 | refine below_set ?_ (IsS67.ge HI0.out) | refine below_set ?_ GE211.out | refine below_set ?_ GE230.out) | exact HB.out)⟩⟩
    ·rw [if_neg c26] at H
     exact absurd H (by simp)
   ·rw [if_neg c24] at H
    have c24b0 : decide (0 < x5_1) = false := decide_eq_false c24
    clear c24
    obtain ⟨⟨t240, t241, t242⟩, A32, H⟩ := ob H
    try dsimp only at H
    have HC33 := Aside0.mk H
    clear H
    go_upto_if 48 with (first | ((with_reducible refine gate_callee (f := 25) rfl ?_); refine gl 47 Tryd.func25 #[.pointer (some ⟨g, 0, none⟩), .int .i64 4] ?_; (with_reducible refine (spec_l01Next.calls _ _ _ _ _ _ _ _ w0 _ ?side1 ?side2 A32.out).mono ?_); (case side1 => repeat (first | (with_reducible first | exact HI0.out | apply IsS67.alloc | apply IsS67.drewN | apply IsS67.drew | apply IsS67.set_1 | apply IsS67.set_2 | refine IsS67.far ?_ NB0_211.out _ | refine IsS67.far ?_ NB0_230.out _) | exact HI0.out)); (case side2 => repeat (first | (with_reducible first | exact HB.out | apply below_alloc | apply pw_below_drewN | apply below_drew1 | refine below_set ?_ (IsS67.ge HI0.out) | refine below_set ?_ GE211.out | refine below_set ?_ GE230.out) | exact HB.out)); rintro e w34 ⟨rfl, hi, hb, hk⟩; refine ⟨_, rfl, ?_⟩; replace HO_231002 := asd (Kd.R_mono (Kd.R_keep (IsS67.apart (show IsS67 w0 _ g s0_0 x1001_1 x1002_1 from by repeat (first | (with_reducible first | exact HI0.out | apply IsS67.alloc | apply IsS67.drewN | apply IsS67.drew | apply IsS67.set_1 | apply IsS67.set_2 | refine IsS67.far ?_ NB0_211.out _ | refine IsS67.far ?_ NB0_230.out _) | exact HI0.out)) (kr HO_231002) (by decide)) hk (fun _ h => h.2)) (fun _ h => h.1)); replace BK211 := asd (KeepBut.blk hk (g' := gb211) (o := .cells #[.int .i64 0, .int .i64 0, .slice none 0 0] 28 (0, 0)) (bkp BK211) NB211_0.out (by simp)); replace BK230 := asd (KeepBut.blk hk (g' := gb230) (o := .cells #[.int .i64 (wrap64 (1 + t212)), .int .i64 t224, u231002] 28 (0, 0)) (bkp BK230) NB230_0.out (by simp)); replace HK := asd (KeepBut.trans (by repeat (first | (with_reducible first | exact HK.out | apply KeepBut.set_ | apply keep_drewN | apply keep_drew | apply keep_alloc | refine keep_far ?_ GW211.out _ | refine keep_far ?_ GW230.out _) | exact HK.out)) hk (.inl rfl)); replace HB := asd (hb); replace HI0 := asd (hi); (try clear hb); (try clear hb2); (try clear hk); (try clear hi)))
    (try simp only [Act.put, sA, sB, sC])
    go_cut [] (fun wc => ∃ (kq : Nat) (x1001_32 : Int) (x1002_32 : Int) (x231000_32 : Int) (x231001_32 : Int) (x231002_32 : List Int) (u231002 : Value), Aside0 (spec_l08Draw.j1 kq s0_0 x1001_32 x1002_32 x231000_32 x231001_32 x231002_32 = some (r1, r2, r3, r4, r5)) ∧ Aside0 (kq ≤ k1) ∧ Aside0 (Kd.R (Kd.int .i64) 2 wc w.heap.size (fun _ => True) u231002 x231002_32) ∧ Aside0 (wc.heap[gb211]? = some (.cells #[.int .i64 0, .int .i64 0, (.slice none 0 0)] 28 (0, 0))) ∧ Aside0 (wc.heap[gb230]? = some (.cells #[.int .i64 x231000_32, .int .i64 x231001_32, u231002] 28 (0, 0))) ∧ Aside0 (IsS67 w0 wc g s0_0 x1001_32 x1002_32) ∧ Aside0 (KeepBut w wc g none) ∧ Aside0 (Below w0.heap.size w0 wc))
    case first =>
     have H := HC33.out
     clear HC33
     by_cases c35 : t240 > 0
     ·rw [if_pos c35] at H
      have c35b0 : decide (0 < t240) = true := decide_eq_true c35
      clear c35
      (first | rw [c35b0] | (simp only [i64_w, i32_w]; rw [c35b0]) | skip)
      obtain ⟨⟨t243, t244, t245⟩, A36, H⟩ := ob H
      try dsimp only at H
      obtain ⟨⟨t246, t247, t248, t251⟩, A37, H⟩ := ob H
      try dsimp only at H
      by_cases c38 : t251 = 0
      rw [if_pos c38] at H
      have c38b0 : (t251 == 0) = true := beq_iff_eq.mpr c38
      have c38b1 : (t251 != 0) = false := bne_eq_false_iff_eq.mpr c38
      clear c38
      have H' := Aside0.mk H
      clear H
      rotate_left
      rw [if_neg c38] at H
      have c38b0 : (t251 == 0) = false := beq_eq_false_iff_ne.mpr c38
      have c38b1 : (t251 != 0) = true := bne_iff_ne.mpr c38
      have H' := Aside0.mk H
      clear H
      rotate_left
      all_goals
       obtain ⟨Ao39, co39, eo39⟩ := Kd.R_slice HO_231002.out
       subst eo39
       try go_wp2
       replace HO_231002 := asd (Kd.R_drew HO_231002.out)
       replace BK211 := asd (blk_drew BK211.out)
       replace BK230 := asd (blk_drew BK230.out)
       replace HI0 := asd (IsS67.drew HI0.out)
       replace HK := asd (keep_drew HK.out)
       replace HB := asd (below_drew1 HB.out)
       refine sh 10 (eb3 BK230) (fun hHeld => ?_); refine with_tabW spec_l08Draw.tab8 spec_l08Draw.bits8 (fun HT_ HW_ => ?_)
       generalize w34.drew = w40 at HO_231002 BK211 BK230 HI0 HK HB hHeld ⊢
       refine pu 1 (some 51) (bs 10 2) HT_ ?_
       refine ta 0 (some 50) (bT 10 2) HT_ HW_ hHeld ?_
       refine join_ (σ := Value × Nat) 2 (bT 10 8) (fun s_ => [(52, .string t243), (53, .tuple #[.agg #[.int .i64 t246, .int .i64 t247, s_.1], .int .i64 t251]), (6, .pointer (some ⟨s_.2, 0, none⟩)), (49, .tuple #[.agg #[.int .i64 t246, .int .i64 t247, s_.1], .int .i64 t251]), (54, .agg #[.int .i64 t246, .int .i64 t247, s_.1]), (55, .int .i64 t251)]) (fun s_ w' => (w'.cell? ⟨gb230, 0, none⟩ = some (.int .i64 (wrap64 (1 + t212))) ∧ w'.cell? ⟨gb230, 1, none⟩ = some (.int .i64 t224) ∧ w'.cell? ⟨gb230, 2, none⟩ = some (.slice Ao39 x231002_1.length co39)) ∧ (Kd.R (Kd.int .i64) 2 w' w.heap.size (fun k_ => some k_ ≠ (.slice Ao39 x231002_1.length co39 : Value).ownBlock) s_.1 t248) ∧ (Kd.R (Kd.int .i64) 2 w' w.heap.size (fun k_ => some k_ ≠ (s_.1 : Value).ownBlock) (.slice Ao39 x231002_1.length co39) x231002_1) ∧ (w'.heap[gb211]? = some (.cells #[.int .i64 0, .int .i64 0, .slice none 0 0] 28 (0, 0))) ∧ (w'.heap[gb230]? = some (.cells #[.int .i64 (wrap64 (1 + t212)), .int .i64 t224, .slice Ao39 x231002_1.length co39] 28 (0, 0))) ∧ (w'.heap[s_.2]? = some (.cells #[.int .i64 0, .int .i64 0, .slice none 0 0] 28 (0, 0))) ∧ (w.heap.size ≤ s_.2) ∧ (w0.heap.size ≤ s_.2) ∧ (g ≠ s_.2) ∧ (s_.2 ≠ g) ∧ (gb211 ≠ s_.2) ∧ (s_.2 ≠ gb211) ∧ (gb230 ≠ s_.2) ∧ (s_.2 ≠ gb230) ∧ (IsS67 w0 w' g s0_0 t244 t245) ∧ (KeepBut w w' g none) ∧ (Below w0.heap.size w0 w')) ?_ ?_
       rotate_left
       ·intro hCont
        refine two_ (i := 2) (j := 7) (Ni := some 52) (Nj := some 6) (bT 10 3) (bs 10 131) rfl rfl rfl rfl (two_of HT_.out (by kernel_rfl)) (by decide) (by decide) (fun K hK => ?_) (fun K hK => ?_)
        ·skip
         refine gs Tryd.func39 #[.pointer (some ⟨g, 0, none⟩)] ?_
         with_reducible refine (spec_l08DrawName.calls _ _ _ _ _ _ _ w0 _ ?side1 ?side2 A36.out).mono ?_
         (case side1 => repeat (first | (with_reducible first | exact HI0.out | apply IsS67.alloc | apply IsS67.drewN | apply IsS67.drew | apply IsS67.set_1 | apply IsS67.set_2 | refine IsS67.far ?_ NB0_211.out _ | refine IsS67.far ?_ NB0_230.out _) | exact HI0.out))
         (case side2 => repeat (first | (with_reducible first | exact HB.out | apply below_alloc | apply pw_below_drewN | apply below_drew1 | refine below_set ?_ (IsS67.ge HI0.out) | refine below_set ?_ GE211.out | refine below_set ?_ GE230.out) | exact HB.out))
         rintro e w41 ⟨rfl, hi, hb, hk⟩
         refine ⟨_, rfl, ?_⟩
         replace HO_231002 := asd (Kd.R_mono (Kd.R_keep (IsS67.apart (show IsS67 w0 _ g s0_0 t241 t242 from by repeat (first | (with_reducible first | exact HI0.out | apply IsS67.alloc | apply IsS67.drewN | apply IsS67.drew | apply IsS67.set_1 | apply IsS67.set_2 | refine IsS67.far ?_ NB0_211.out _ | refine IsS67.far ?_ NB0_230.out _) | exact HI0.out)) (kr HO_231002) (by decide)) hk (fun _ h => h.2)) (fun _ h => h.1))
         replace BK211 := asd (KeepBut.blk hk (g' := gb211) (o := .cells #[.int .i64 0, .int .i64 0, .slice none 0 0] 28 (0, 0)) (bkp BK211) NB211_0.out (by simp))
         replace BK230 := asd (KeepBut.blk hk (g' := gb230) (o := .cells #[.int .i64 (wrap64 (1 + t212)), .int .i64 t224, .slice Ao39 x231002_1.length co39] 28 (0, 0)) (bkp BK230) NB230_0.out (by simp))
         replace HK := asd (KeepBut.trans (by repeat (first | (with_reducible first | exact HK.out | apply KeepBut.set_ | apply keep_drewN | apply keep_drew | apply keep_alloc | refine keep_far ?_ GW211.out _ | refine keep_far ?_ GW230.out _) | exact HK.out)) hk (.inl rfl))
         replace HB := asd (hb)
         replace HI0 := asd (hi)
         (try clear hb)
         (try clear hb2)
         (try clear hk)
         (try clear hi)
         refine hK.out _ _ (eb3 BK230).out (fun hHeld => ?_)
         clear hK K
         refine norm_ (a' := ?_) ?_ ?_
         rotate_left
         ·show Act.put _ (some 52) _ = _
          simp only [Act.put, sA, sB, sC, i64_w, i32_w]
          rfl
         refine two_ (i := 3) (j := 7) (Ni := some 53) (Nj := some 6) (bT 10 4) (bs 10 135) rfl rfl rfl rfl (two_of HT_.out (by kernel_rfl)) (by decide) (by decide) (fun K hK => ?_) (fun K hK => ?_)
         ·skip
          refine gs Tryd.func38 #[.agg #[.int .i64 (wrap64 (1 + t212)), .int .i64 t224, .slice Ao39 x231002_1.length co39], .string t243] ?_
          with_reducible refine (spec_FillFrieze.calls _ _ _ _ _ _ _ _ _ _ _ _ ?side1 ?side2 A37.out).mono ?_
          (case side1 => exact ks (Kd.R_reads' HO_231002.out).2.2)
          (case side2 => exact (Kd.R_reads' HO_231002.out).2.1)
          rintro e w42 ⟨v249, rfl, ho0, hb⟩
          refine ⟨_, rfl, ?_⟩
          have HO250 := asd (Kd.R_lower (Kd.R_new' ho0 (Kd.R_lt (kr HO_231002))) (keep_size (w := w) (g := g) (row := none) (by repeat (first | (with_reducible first | exact HK.out | apply KeepBut.set_ | apply keep_drewN | apply keep_drew | apply keep_alloc | refine keep_far ?_ GW211.out _ | refine keep_far ?_ GW230.out _) | exact HK.out))))
          replace HO_231002 := asd (Kd.R_elder' (kr HO_231002) (Kd.R_base ho0) hb)
          replace BK211 := bB BK211 hb
          replace BK230 := bB BK230 hb
          replace HK := asd (KeepBut.trans (by repeat (first | (with_reducible first | exact HK.out | apply KeepBut.set_ | apply keep_drewN | apply keep_drew | apply keep_alloc | refine keep_far ?_ GW211.out _ | refine keep_far ?_ GW230.out _) | exact HK.out)) (KeepBut.of_below hb g none) (.inl rfl))
          replace HB := asd (below_step (by repeat (first | (with_reducible first | exact HB.out | apply below_alloc | apply pw_below_drewN | apply below_drew1 | refine below_set ?_ (IsS67.ge HI0.out) | refine below_set ?_ GE211.out | refine below_set ?_ GE230.out) | exact HB.out)) hb)
          replace HI0 := asd (IsS67.below (by repeat (first | (with_reducible first | exact HI0.out | apply IsS67.alloc | apply IsS67.drewN | apply IsS67.drew | apply IsS67.set_1 | apply IsS67.set_2 | refine IsS67.far ?_ NB0_211.out _ | refine IsS67.far ?_ NB0_230.out _) | exact HI0.out)) hb)
          (try clear hb)
          (try clear hb2)
          (try clear hk)
          (try clear hi)
          (try clear ho0)
          refine hK.out _ _ (eb3 BK230).out (fun hHeld => ?_)
          clear hK K
          refine norm_ (a' := ?_) ?_ ?_
          rotate_left
          ·show Act.put _ (some 53) _ = _
           simp only [Act.put, sA, sB, sC, i64_w, i32_w]
           rfl
          refine pu 4 (some 49) (bT 10 5) HT_ ?_
          refine pu 5 (some 54) (bT 10 6) HT_ ?_
          refine pu 6 (some 55) (bT 10 7) HT_ ?_
          refine ro 7 (some 6) (bT 10 8) HT_ (fun K hK => ?_)
          refine box_step ?hg (N := 6) ?hd (cs := #[.int .i64 0, .int .i64 0, .slice none 0 0]) (t := 28) ?hr ?_; (case hd => rfl); (case hg => rfl); (case hr => first | (go_simp; done) | (go_simp; rfl))
          intro gb252 hg w43 hbox hb
          replace HO_231002 := asd (Kd.R_below (kr HO_231002) hb)
          replace HO250 := asd (Kd.R_below (kr HO250) hb)
          replace HB := asd (below_step (by repeat (first | (with_reducible first | exact HB.out | apply below_alloc | apply pw_below_drewN | apply below_drew1 | refine below_set ?_ (IsS67.ge HI0.out) | refine below_set ?_ GE211.out | refine below_set ?_ GE230.out) | exact HB.out)) hb)
          have BK252 := asd (hbox)
          have GW252 := asd ((by rw [hg]; exact (keep_size (w := w) (g := g) (row := none) (by repeat (first | (with_reducible first | exact HK.out | apply KeepBut.set_ | apply keep_drewN | apply keep_drew | apply keep_alloc | refine keep_far ?_ GW211.out _ | refine keep_far ?_ GW230.out _) | exact HK.out))) : w.heap.size ≤ gb252))
          have GE252 := asd ((Nat.le_trans HW0.out (by rw [hg]; exact (keep_size (w := w) (g := g) (row := none) (by repeat (first | (with_reducible first | exact HK.out | apply KeepBut.set_ | apply keep_drewN | apply keep_drew | apply keep_alloc | refine keep_far ?_ GW211.out _ | refine keep_far ?_ GW230.out _) | exact HK.out))) : w.heap.size ≤ gb252) : w0.heap.size ≤ gb252))
          replace HK := asd (KeepBut.trans (by repeat (first | (with_reducible first | exact HK.out | apply KeepBut.set_ | apply keep_drewN | apply keep_drew | apply keep_alloc | refine keep_far ?_ GW211.out _ | refine keep_far ?_ GW230.out _) | exact HK.out)) (KeepBut.of_below hb g none) (.inl rfl))
          have NB211_252 := nlt hg BK211
          have NB252_211 := nsy (nlt hg BK211)
          replace BK211 := bB BK211 hb
          have NB230_252 := nlt hg BK230
          have NB252_230 := nsy (nlt hg BK230)
          replace BK230 := bB BK230 hb
          have NB0_252 := asd ((by rw [hg]; exact Nat.ne_of_lt (IsS67.lt (show IsS67 w0 _ g s0_0 t244 t245 from by repeat (first | (with_reducible first | exact HI0.out | apply IsS67.alloc | apply IsS67.drewN | apply IsS67.drew | apply IsS67.set_1 | apply IsS67.set_2 | refine IsS67.far ?_ NB0_211.out _ | refine IsS67.far ?_ NB0_230.out _) | exact HI0.out))) : g ≠ gb252))
          have NB252_0 := asd ((by rw [hg]; exact Nat.ne_of_gt (IsS67.lt (show IsS67 w0 _ g s0_0 t244 t245 from by repeat (first | (with_reducible first | exact HI0.out | apply IsS67.alloc | apply IsS67.drewN | apply IsS67.drew | apply IsS67.set_1 | apply IsS67.set_2 | refine IsS67.far ?_ NB0_211.out _ | refine IsS67.far ?_ NB0_230.out _) | exact HI0.out))) : gb252 ≠ g))
          replace HI0 := asd (IsS67.below (by repeat (first | (with_reducible first | exact HI0.out | apply IsS67.alloc | apply IsS67.drewN | apply IsS67.drew | apply IsS67.set_1 | apply IsS67.set_2 | refine IsS67.far ?_ NB0_211.out _ | refine IsS67.far ?_ NB0_230.out _) | exact HI0.out)) hb)
          clear hb hbox hg
          refine hK.out _ _ (eb3 BK230).out (fun hHeld => ?_)
          clear hK K
          refine norm_ (a' := ?_) ?_ ?_
          rotate_left
          ·show Act.put _ (some 6) _ = _
           simp only [Act.put, sA, sB, sC, i64_w, i32_w]
           rfl
          exact norm_ (by simp only [putAll, Act.put, sA, sB, sC]) (hCont (v249, gb252) _ ⟨hHeld, (by (with_reducible repeat (first | apply Kd.R_alloc | apply Kd.R_drewN | apply Kd.R_drew)); exact Kd.R_mono HO250.out (fun _ hk => hk.2)), (by (with_reducible repeat (first | apply Kd.R_alloc | apply Kd.R_drewN | apply Kd.R_drew)); exact Kd.R_mono HO_231002.out (fun _ hk => hk.2)), (bkp BK211), (bkp BK230), (bkp BK252), GW252.out, GE252.out, NB0_252.out, NB252_0.out, NB211_252.out, NB252_211.out, NB230_252.out, NB252_230.out, (by repeat (first | (with_reducible first | exact HI0.out | apply IsS67.alloc | apply IsS67.drewN | apply IsS67.drew | apply IsS67.set_1 | apply IsS67.set_2 | refine IsS67.far ?_ NB0_211.out _ | refine IsS67.far ?_ NB0_230.out _ | refine IsS67.far ?_ NB0_252.out _) | exact HI0.out)), (by repeat (first | (with_reducible first | exact HK.out | apply KeepBut.set_ | apply keep_drewN | apply keep_drew | apply keep_alloc | refine keep_far ?_ GW211.out _ | refine keep_far ?_ GW230.out _ | refine keep_far ?_ GW252.out _) | exact HK.out)), (by repeat (first | (with_reducible first | exact HB.out | apply below_alloc | apply pw_below_drewN | apply below_drew1 | refine below_set ?_ (IsS67.ge HI0.out) | refine below_set ?_ GE211.out | refine below_set ?_ GE230.out | refine below_set ?_ GE252.out) | exact HB.out))⟩)
         ·skip
          refine box_step ?hg (N := 6) ?hd (cs := #[.int .i64 0, .int .i64 0, .slice none 0 0]) (t := 28) ?hr ?_; (case hd => rfl); (case hg => rfl); (case hr => first | (go_simp; done) | (go_simp; rfl))
          intro gb252 hg w42 hbox hb
          replace HO_231002 := asd (Kd.R_below (kr HO_231002) hb)
          replace HB := asd (below_step (by repeat (first | (with_reducible first | exact HB.out | apply below_alloc | apply pw_below_drewN | apply below_drew1 | refine below_set ?_ (IsS67.ge HI0.out) | refine below_set ?_ GE211.out | refine below_set ?_ GE230.out) | exact HB.out)) hb)
          have BK252 := asd (hbox)
          have GW252 := asd ((by rw [hg]; exact (keep_size (w := w) (g := g) (row := none) (by repeat (first | (with_reducible first | exact HK.out | apply KeepBut.set_ | apply keep_drewN | apply keep_drew | apply keep_alloc | refine keep_far ?_ GW211.out _ | refine keep_far ?_ GW230.out _) | exact HK.out))) : w.heap.size ≤ gb252))
          have GE252 := asd ((Nat.le_trans HW0.out (by rw [hg]; exact (keep_size (w := w) (g := g) (row := none) (by repeat (first | (with_reducible first | exact HK.out | apply KeepBut.set_ | apply keep_drewN | apply keep_drew | apply keep_alloc | refine keep_far ?_ GW211.out _ | refine keep_far ?_ GW230.out _) | exact HK.out))) : w.heap.size ≤ gb252) : w0.heap.size ≤ gb252))
          replace HK := asd (KeepBut.trans (by repeat (first | (with_reducible first | exact HK.out | apply KeepBut.set_ | apply keep_drewN | apply keep_drew | apply keep_alloc | refine keep_far ?_ GW211.out _ | refine keep_far ?_ GW230.out _) | exact HK.out)) (KeepBut.of_below hb g none) (.inl rfl))
          have NB211_252 := nlt hg BK211
          have NB252_211 := nsy (nlt hg BK211)
          replace BK211 := bB BK211 hb
          have NB230_252 := nlt hg BK230
          have NB252_230 := nsy (nlt hg BK230)
          replace BK230 := bB BK230 hb
          have NB0_252 := asd ((by rw [hg]; exact Nat.ne_of_lt (IsS67.lt (show IsS67 w0 _ g s0_0 t244 t245 from by repeat (first | (with_reducible first | exact HI0.out | apply IsS67.alloc | apply IsS67.drewN | apply IsS67.drew | apply IsS67.set_1 | apply IsS67.set_2 | refine IsS67.far ?_ NB0_211.out _ | refine IsS67.far ?_ NB0_230.out _) | exact HI0.out))) : g ≠ gb252))
          have NB252_0 := asd ((by rw [hg]; exact Nat.ne_of_gt (IsS67.lt (show IsS67 w0 _ g s0_0 t244 t245 from by repeat (first | (with_reducible first | exact HI0.out | apply IsS67.alloc | apply IsS67.drewN | apply IsS67.drew | apply IsS67.set_1 | apply IsS67.set_2 | refine IsS67.far ?_ NB0_211.out _ | refine IsS67.far ?_ NB0_230.out _) | exact HI0.out))) : gb252 ≠ g))
          replace HI0 := asd (IsS67.below (by repeat (first | (with_reducible first | exact HI0.out | apply IsS67.alloc | apply IsS67.drewN | apply IsS67.drew | apply IsS67.set_1 | apply IsS67.set_2 | refine IsS67.far ?_ NB0_211.out _ | refine IsS67.far ?_ NB0_230.out _) | exact HI0.out)) hb)
          clear hb hbox hg
          refine hK.out _ _ (eb3 BK230).out (fun hHeld => ?_)
          clear hK K
          refine norm_ (a' := ?_) ?_ ?_
          rotate_left
          ·show Act.put _ (some 6) _ = _
           simp only [Act.put, sA, sB, sC, i64_w, i32_w]
           rfl
          refine ro 3 (some 53) (bs 10 143) HT_ (fun K hK => ?_)
          refine gs Tryd.func38 #[.agg #[.int .i64 (wrap64 (1 + t212)), .int .i64 t224, .slice Ao39 x231002_1.length co39], .string t243] ?_
          with_reducible refine (spec_FillFrieze.calls _ _ _ _ _ _ _ _ _ _ _ _ ?side1 ?side2 A37.out).mono ?_
          (case side1 => exact ks (Kd.R_reads' HO_231002.out).2.2)
          (case side2 => exact (Kd.R_reads' HO_231002.out).2.1)
          rintro e w43 ⟨v249, rfl, ho0, hb⟩
          refine ⟨_, rfl, ?_⟩
          have HO250 := asd (Kd.R_lower (Kd.R_new' ho0 (Kd.R_lt (kr HO_231002))) (keep_size (w := w) (g := g) (row := none) (by repeat (first | (with_reducible first | exact HK.out | apply KeepBut.set_ | apply keep_drewN | apply keep_drew | apply keep_alloc | refine keep_far ?_ GW211.out _ | refine keep_far ?_ GW230.out _ | refine keep_far ?_ GW252.out _) | exact HK.out))))
          replace HO_231002 := asd (Kd.R_elder' (kr HO_231002) (Kd.R_base ho0) hb)
          replace BK211 := bB BK211 hb
          replace BK230 := bB BK230 hb
          replace BK252 := bB BK252 hb
          replace HK := asd (KeepBut.trans (by repeat (first | (with_reducible first | exact HK.out | apply KeepBut.set_ | apply keep_drewN | apply keep_drew | apply keep_alloc | refine keep_far ?_ GW211.out _ | refine keep_far ?_ GW230.out _ | refine keep_far ?_ GW252.out _) | exact HK.out)) (KeepBut.of_below hb g none) (.inl rfl))
          replace HB := asd (below_step (by repeat (first | (with_reducible first | exact HB.out | apply below_alloc | apply pw_below_drewN | apply below_drew1 | refine below_set ?_ (IsS67.ge HI0.out) | refine below_set ?_ GE211.out | refine below_set ?_ GE230.out | refine below_set ?_ GE252.out) | exact HB.out)) hb)
          replace HI0 := asd (IsS67.below (by repeat (first | (with_reducible first | exact HI0.out | apply IsS67.alloc | apply IsS67.drewN | apply IsS67.drew | apply IsS67.set_1 | apply IsS67.set_2 | refine IsS67.far ?_ NB0_211.out _ | refine IsS67.far ?_ NB0_230.out _ | refine IsS67.far ?_ NB0_252.out _) | exact HI0.out)) hb)
          (try clear hb)
          (try clear hb2)
          (try clear hk)
          (try clear hi)
          (try clear ho0)
          refine hK.out _ _ (eb3 BK230).out (fun hHeld => ?_)
          clear hK K
          refine norm_ (a' := ?_) ?_ ?_
          rotate_left
          ·show Act.put _ (some 53) _ = _
           simp only [Act.put, sA, sB, sC, i64_w, i32_w]
           rfl
          refine pu 4 (some 49) (bs 10 159) HT_ ?_
          refine pu 5 (some 54) (bs 10 191) HT_ ?_
          refine pu 6 (some 55) (bT 10 8) HT_ ?_
          exact norm_ (by simp only [putAll, Act.put, sA, sB, sC]) (hCont (v249, gb252) _ ⟨hHeld, (by (with_reducible repeat (first | apply Kd.R_alloc | apply Kd.R_drewN | apply Kd.R_drew)); exact Kd.R_mono HO250.out (fun _ hk => hk.2)), (by (with_reducible repeat (first | apply Kd.R_alloc | apply Kd.R_drewN | apply Kd.R_drew)); exact Kd.R_mono HO_231002.out (fun _ hk => hk.2)), (bkp BK211), (bkp BK230), (bkp BK252), GW252.out, GE252.out, NB0_252.out, NB252_0.out, NB211_252.out, NB252_211.out, NB230_252.out, NB252_230.out, (by repeat (first | (with_reducible first | exact HI0.out | apply IsS67.alloc | apply IsS67.drewN | apply IsS67.drew | apply IsS67.set_1 | apply IsS67.set_2 | refine IsS67.far ?_ NB0_211.out _ | refine IsS67.far ?_ NB0_230.out _ | refine IsS67.far ?_ NB0_252.out _) | exact HI0.out)), (by repeat (first | (with_reducible first | exact HK.out | apply KeepBut.set_ | apply keep_drewN | apply keep_drew | apply keep_alloc | refine keep_far ?_ GW211.out _ | refine keep_far ?_ GW230.out _ | refine keep_far ?_ GW252.out _) | exact HK.out)), (by repeat (first | (with_reducible first | exact HB.out | apply below_alloc | apply pw_below_drewN | apply below_drew1 | refine below_set ?_ (IsS67.ge HI0.out) | refine below_set ?_ GE211.out | refine below_set ?_ GE230.out | refine below_set ?_ GE252.out) | exact HB.out))⟩)
        ·skip
         refine box_step ?hg (N := 6) ?hd (cs := #[.int .i64 0, .int .i64 0, .slice none 0 0]) (t := 28) ?hr ?_; (case hd => rfl); (case hg => rfl); (case hr => first | (go_simp; done) | (go_simp; rfl))
         intro gb252 hg w41 hbox hb
         replace HO_231002 := asd (Kd.R_below (kr HO_231002) hb)
         replace HB := asd (below_step (by repeat (first | (with_reducible first | exact HB.out | apply below_alloc | apply pw_below_drewN | apply below_drew1 | refine below_set ?_ (IsS67.ge HI0.out) | refine below_set ?_ GE211.out | refine below_set ?_ GE230.out) | exact HB.out)) hb)
         have BK252 := asd (hbox)
         have GW252 := asd ((by rw [hg]; exact (keep_size (w := w) (g := g) (row := none) (by repeat (first | (with_reducible first | exact HK.out | apply KeepBut.set_ | apply keep_drewN | apply keep_drew | apply keep_alloc | refine keep_far ?_ GW211.out _ | refine keep_far ?_ GW230.out _) | exact HK.out))) : w.heap.size ≤ gb252))
         have GE252 := asd ((Nat.le_trans HW0.out (by rw [hg]; exact (keep_size (w := w) (g := g) (row := none) (by repeat (first | (with_reducible first | exact HK.out | apply KeepBut.set_ | apply keep_drewN | apply keep_drew | apply keep_alloc | refine keep_far ?_ GW211.out _ | refine keep_far ?_ GW230.out _) | exact HK.out))) : w.heap.size ≤ gb252) : w0.heap.size ≤ gb252))
         replace HK := asd (KeepBut.trans (by repeat (first | (with_reducible first | exact HK.out | apply KeepBut.set_ | apply keep_drewN | apply keep_drew | apply keep_alloc | refine keep_far ?_ GW211.out _ | refine keep_far ?_ GW230.out _) | exact HK.out)) (KeepBut.of_below hb g none) (.inl rfl))
         have NB211_252 := nlt hg BK211
         have NB252_211 := nsy (nlt hg BK211)
         replace BK211 := bB BK211 hb
         have NB230_252 := nlt hg BK230
         have NB252_230 := nsy (nlt hg BK230)
         replace BK230 := bB BK230 hb
         have NB0_252 := asd ((by rw [hg]; exact Nat.ne_of_lt (IsS67.lt (show IsS67 w0 _ g s0_0 t241 t242 from by repeat (first | (with_reducible first | exact HI0.out | apply IsS67.alloc | apply IsS67.drewN | apply IsS67.drew | apply IsS67.set_1 | apply IsS67.set_2 | refine IsS67.far ?_ NB0_211.out _ | refine IsS67.far ?_ NB0_230.out _) | exact HI0.out))) : g ≠ gb252))
         have NB252_0 := asd ((by rw [hg]; exact Nat.ne_of_gt (IsS67.lt (show IsS67 w0 _ g s0_0 t241 t242 from by repeat (first | (with_reducible first | exact HI0.out | apply IsS67.alloc | apply IsS67.drewN | apply IsS67.drew | apply IsS67.set_1 | apply IsS67.set_2 | refine IsS67.far ?_ NB0_211.out _ | refine IsS67.far ?_ NB0_230.out _) | exact HI0.out))) : gb252 ≠ g))
         replace HI0 := asd (IsS67.below (by repeat (first | (with_reducible first | exact HI0.out | apply IsS67.alloc | apply IsS67.drewN | apply IsS67.drew | apply IsS67.set_1 | apply IsS67.set_2 | refine IsS67.far ?_ NB0_211.out _ | refine IsS67.far ?_ NB0_230.out _) | exact HI0.out)) hb)
         clear hb hbox hg
         refine hK.out _ _ (eb3 BK230).out (fun hHeld => ?_)
         clear hK K
         refine norm_ (a' := ?_) ?_ ?_
         rotate_left
         ·show Act.put _ (some 6) _ = _
          simp only [Act.put, sA, sB, sC, i64_w, i32_w]
          rfl
         refine ro 2 (some 52) (bs 10 135) HT_ (fun K hK => ?_)
         refine gs Tryd.func39 #[.pointer (some ⟨g, 0, none⟩)] ?_
         with_reducible refine (spec_l08DrawName.calls _ _ _ _ _ _ _ w0 _ ?side1 ?side2 A36.out).mono ?_
         (case side1 => repeat (first | (with_reducible first | exact HI0.out | apply IsS67.alloc | apply IsS67.drewN | apply IsS67.drew | apply IsS67.set_1 | apply IsS67.set_2 | refine IsS67.far ?_ NB0_211.out _ | refine IsS67.far ?_ NB0_230.out _ | refine IsS67.far ?_ NB0_252.out _) | exact HI0.out))
         (case side2 => repeat (first | (with_reducible first | exact HB.out | apply below_alloc | apply pw_below_drewN | apply below_drew1 | refine below_set ?_ (IsS67.ge HI0.out) | refine below_set ?_ GE211.out | refine below_set ?_ GE230.out | refine below_set ?_ GE252.out) | exact HB.out))
         rintro e w42 ⟨rfl, hi, hb, hk⟩
         refine ⟨_, rfl, ?_⟩
         replace HO_231002 := asd (Kd.R_mono (Kd.R_keep (IsS67.apart (show IsS67 w0 _ g s0_0 t241 t242 from by repeat (first | (with_reducible first | exact HI0.out | apply IsS67.alloc | apply IsS67.drewN | apply IsS67.drew | apply IsS67.set_1 | apply IsS67.set_2 | refine IsS67.far ?_ NB0_211.out _ | refine IsS67.far ?_ NB0_230.out _ | refine IsS67.far ?_ NB0_252.out _) | exact HI0.out)) (kr HO_231002) (by decide)) hk (fun _ h => h.2)) (fun _ h => h.1))
         replace BK211 := asd (KeepBut.blk hk (g' := gb211) (o := .cells #[.int .i64 0, .int .i64 0, .slice none 0 0] 28 (0, 0)) (bkp BK211) NB211_0.out (by simp))
         replace BK230 := asd (KeepBut.blk hk (g' := gb230) (o := .cells #[.int .i64 (wrap64 (1 + t212)), .int .i64 t224, .slice Ao39 x231002_1.length co39] 28 (0, 0)) (bkp BK230) NB230_0.out (by simp))
         replace BK252 := asd (KeepBut.blk hk (g' := gb252) (o := .cells #[.int .i64 0, .int .i64 0, .slice none 0 0] 28 (0, 0)) (bkp BK252) NB252_0.out (by simp))
         replace HK := asd (KeepBut.trans (by repeat (first | (with_reducible first | exact HK.out | apply KeepBut.set_ | apply keep_drewN | apply keep_drew | apply keep_alloc | refine keep_far ?_ GW211.out _ | refine keep_far ?_ GW230.out _ | refine keep_far ?_ GW252.out _) | exact HK.out)) hk (.inl rfl))
         replace HB := asd (hb)
         replace HI0 := asd (hi)
         (try clear hb)
         (try clear hb2)
         (try clear hk)
         (try clear hi)
         refine hK.out _ _ (eb3 BK230).out (fun hHeld => ?_)
         clear hK K
         refine norm_ (a' := ?_) ?_ ?_
         rotate_left
         ·show Act.put _ (some 52) _ = _
          simp only [Act.put, sA, sB, sC, i64_w, i32_w]
          rfl
         refine ro 3 (some 53) (bs 10 143) HT_ (fun K hK => ?_)
         refine gs Tryd.func38 #[.agg #[.int .i64 (wrap64 (1 + t212)), .int .i64 t224, .slice Ao39 x231002_1.length co39], .string t243] ?_
         with_reducible refine (spec_FillFrieze.calls _ _ _ _ _ _ _ _ _ _ _ _ ?side1 ?side2 A37.out).mono ?_
         (case side1 => exact ks (Kd.R_reads' HO_231002.out).2.2)
         (case side2 => exact (Kd.R_reads' HO_231002.out).2.1)
         rintro e w43 ⟨v249, rfl, ho0, hb⟩
         refine ⟨_, rfl, ?_⟩
         have HO250 := asd (Kd.R_lower (Kd.R_new' ho0 (Kd.R_lt (kr HO_231002))) (keep_size (w := w) (g := g) (row := none) (by repeat (first | (with_reducible first | exact HK.out | apply KeepBut.set_ | apply keep_drewN | apply keep_drew | apply keep_alloc | refine keep_far ?_ GW211.out _ | refine keep_far ?_ GW230.out _ | refine keep_far ?_ GW252.out _) | exact HK.out))))
         replace HO_231002 := asd (Kd.R_elder' (kr HO_231002) (Kd.R_base ho0) hb)
         replace BK211 := bB BK211 hb
         replace BK230 := bB BK230 hb
         replace BK252 := bB BK252 hb
         replace HK := asd (KeepBut.trans (by repeat (first | (with_reducible first | exact HK.out | apply KeepBut.set_ | apply keep_drewN | apply keep_drew | apply keep_alloc | refine keep_far ?_ GW211.out _ | refine keep_far ?_ GW230.out _ | refine keep_far ?_ GW252.out _) | exact HK.out)) (KeepBut.of_below hb g none) (.inl rfl))
         replace HB := asd (below_step (by repeat (first | (with_reducible first | exact HB.out | apply below_alloc | apply pw_below_drewN | apply below_drew1 | refine below_set ?_ (IsS67.ge HI0.out) | refine below_set ?_ GE211.out | refine below_set ?_ GE230.out | refine below_set ?_ GE252.out) | exact HB.out)) hb)
         replace HI0 := asd (IsS67.below (by repeat (first | (with_reducible first | exact HI0.out | apply IsS67.alloc | apply IsS67.drewN | apply IsS67.drew | apply IsS67.set_1 | apply IsS67.set_2 | refine IsS67.far ?_ NB0_211.out _ | refine IsS67.far ?_ NB0_230.out _ | refine IsS67.far ?_ NB0_252.out _) | exact HI0.out)) hb)
         (try clear hb)
         (try clear hb2)
         (try clear hk)
         (try clear hi)
         (try clear ho0)
         refine hK.out _ _ (eb3 BK230).out (fun hHeld => ?_)
         clear hK K
         refine norm_ (a' := ?_) ?_ ?_
         rotate_left
         ·show Act.put _ (some 53) _ = _
          simp only [Act.put, sA, sB, sC, i64_w, i32_w]
          rfl
         refine pu 4 (some 49) (bs 10 159) HT_ ?_
         refine pu 5 (some 54) (bs 10 191) HT_ ?_
         refine pu 6 (some 55) (bT 10 8) HT_ ?_
         exact norm_ (by simp only [putAll, Act.put, sA, sB, sC]) (hCont (v249, gb252) _ ⟨hHeld, (by (with_reducible repeat (first | apply Kd.R_alloc | apply Kd.R_drewN | apply Kd.R_drew)); exact Kd.R_mono HO250.out (fun _ hk => hk.2)), (by (with_reducible repeat (first | apply Kd.R_alloc | apply Kd.R_drewN | apply Kd.R_drew)); exact Kd.R_mono HO_231002.out (fun _ hk => hk.2)), (bkp BK211), (bkp BK230), (bkp BK252), GW252.out, GE252.out, NB0_252.out, NB252_0.out, NB211_252.out, NB252_211.out, NB230_252.out, NB252_230.out, (by repeat (first | (with_reducible first | exact HI0.out | apply IsS67.alloc | apply IsS67.drewN | apply IsS67.drew | apply IsS67.set_1 | apply IsS67.set_2 | refine IsS67.far ?_ NB0_211.out _ | refine IsS67.far ?_ NB0_230.out _ | refine IsS67.far ?_ NB0_252.out _) | exact HI0.out)), (by repeat (first | (with_reducible first | exact HK.out | apply KeepBut.set_ | apply keep_drewN | apply keep_drew | apply keep_alloc | refine keep_far ?_ GW211.out _ | refine keep_far ?_ GW230.out _ | refine keep_far ?_ GW252.out _) | exact HK.out)), (by repeat (first | (with_reducible first | exact HB.out | apply below_alloc | apply pw_below_drewN | apply below_drew1 | refine below_set ?_ (IsS67.ge HI0.out) | refine below_set ?_ GE211.out | refine below_set ?_ GE230.out | refine below_set ?_ GE252.out) | exact HB.out))⟩)
       rintro ⟨v249, gb252⟩ w44 ⟨hS_, h0_, h1_, h2_, h3_, h4_, h5_, h6_, h7_, h8_, h9_, h10_, h11_, h12_, h13_, h14_, h15_⟩
       have n0_ : Aside0 (Kd.R (Kd.int .i64) 2 w44 w.heap.size (fun k_ => some k_ ≠ (.slice Ao39 x231002_1.length co39 : Value).ownBlock) v249 t248) := ⟨h0_⟩
       have n1_ : Aside0 (Kd.R (Kd.int .i64) 2 w44 w.heap.size (fun k_ => some k_ ≠ (v249 : Value).ownBlock) (.slice Ao39 x231002_1.length co39) x231002_1) := ⟨h1_⟩
       have n2_ : Aside0 (w44.heap[gb211]? = some (.cells #[.int .i64 0, .int .i64 0, .slice none 0 0] 28 (0, 0))) := ⟨h2_⟩
       have n3_ : Aside0 (w44.heap[gb230]? = some (.cells #[.int .i64 (wrap64 (1 + t212)), .int .i64 t224, .slice Ao39 x231002_1.length co39] 28 (0, 0))) := ⟨h3_⟩
       have n4_ : Aside0 (w44.heap[gb252]? = some (.cells #[.int .i64 0, .int .i64 0, .slice none 0 0] 28 (0, 0))) := ⟨h4_⟩
       have n5_ : Aside0 (w.heap.size ≤ gb252) := ⟨h5_⟩
       have n6_ : Aside0 (w0.heap.size ≤ gb252) := ⟨h6_⟩
       have n7_ : Aside0 (g ≠ gb252) := ⟨h7_⟩
       have n8_ : Aside0 (gb252 ≠ g) := ⟨h8_⟩
       have n9_ : Aside0 (gb211 ≠ gb252) := ⟨h9_⟩
       have n10_ : Aside0 (gb252 ≠ gb211) := ⟨h10_⟩
       have n11_ : Aside0 (gb230 ≠ gb252) := ⟨h11_⟩
       have n12_ : Aside0 (gb252 ≠ gb230) := ⟨h12_⟩
       have n13_ : Aside0 (IsS67 w0 w44 g s0_0 t244 t245) := ⟨h13_⟩
       have n14_ : Aside0 (KeepBut w w44 g none) := ⟨h14_⟩
       have n15_ : Aside0 (Below w0.heap.size w0 w44) := ⟨h15_⟩
       clear HO_231002
       clear BK211
       clear BK230
       clear HI0
       clear HK
       clear HB
       clear h0_ h1_ h2_ h3_ h4_ h5_ h6_ h7_ h8_ h9_ h10_ h11_ h12_ h13_ h14_ h15_
       have HO250 := n0_
       have HO_231002 := n1_
       have BK211 := n2_
       have BK230 := n3_
       have BK252 := n4_
       have GW252 := n5_
       have GE252 := n6_
       have NB0_252 := n7_
       have NB252_0 := n8_
       have NB211_252 := n9_
       have NB252_211 := n10_
       have NB230_252 := n11_
       have NB252_230 := n12_
       have HI0 := n13_
       have HK := n14_
       have HB := n15_
       clear n0_ n1_ n2_ n3_ n4_ n5_ n6_ n7_ n8_ n9_ n10_ n11_ n12_ n13_ n14_ n15_
       have hHeld : w44.cell? ⟨gb230, 0, none⟩ = some (.int .i64 (wrap64 (1 + t212))) ∧ w44.cell? ⟨gb230, 1, none⟩ = some (.int .i64 t224) ∧ w44.cell? ⟨gb230, 2, none⟩ = some (.slice Ao39 x231002_1.length co39) := hS_
       obtain ⟨Ao47, co47, eo47⟩ := Kd.R_slice HO250.out
       (first | subst eo47 | (injection eo47 with f1_ f2_ f3_; have f4_ := f1_.symm; have f5_ := f3_.symm; clear f1_ f2_ f3_; subst f4_; subst f5_))
       refine norm_ (a' := ?_) ?_ ?_
       rotate_left
       ·simp only [putAll, Act.put, sA, sB, sC]
        rfl
       refine ro 8 (none) (bT 10 9) HT_ (fun K hK => ?_)
       have hs45 : w44.cell? ⟨gb252, 0, none⟩ = some (.int .i64 0) := bcl BK252 0
       have hfs45 := blk_frozen BK252.out 0
       have hns45_0 := NB211_252.out
       have hns45_1 := NB230_252.out
       have hms45_0 := NB252_211.out
       have hms45_1 := NB252_230.out
       have hs46 : w44.cell? ⟨gb252, 1, none⟩ = some (.int .i64 0) := bcl BK252 1
       have hfs46 := blk_frozen BK252.out 1
       have hns46_0 := NB211_252.out
       have hns46_1 := NB230_252.out
       have hms46_0 := NB252_211.out
       have hms46_1 := NB252_230.out
       have hs48 : w44.cell? ⟨gb252, 2, none⟩ = some (.slice none 0 0) := bcl BK252 2
       have hfs48 := blk_frozen BK252.out 2
       have hns48_0 := NB211_252.out
       have hns48_1 := NB230_252.out
       have hms48_0 := NB252_211.out
       have hms48_1 := NB252_230.out
       refine skip_ (w1 := ?_) (by rfl) rfl ?_ ?_
       rotate_left
       ·go_simp
        rfl
       refine hK.out _ _ ⟨(cf3 NB230_252 (hHeld.1)), (cf3 NB230_252 (hHeld.2.1)), (cf3 NB230_252 (hHeld.2.2))⟩ (fun hHeld => ?_)
       clear hK K
       refine pu 9 (some 7) (bT 10 10) HT_ ?_
       refine done_ (done_of HT_.out (by kernel_rfl)) ?_
      ·have hnb49 := NB252_211.out
       have hnc49 := NB211_252.out
       have hnb50 := NB252_230.out
       have hnc50 := NB230_252.out
       have hnb51 := NB252_0.out
       have hnc51 := NB0_252.out
       obtain ⟨hcz52_0, hcz52_1, hcz52_2, hfz52_0, hfz52_1, hfz52_2⟩ := bz3 BK252
       have hnb53 := NB230_211.out
       have hnc53 := NB211_230.out
       have hnb54 := NB230_0.out
       have hnc54 := NB0_230.out
       obtain ⟨hcz55_0, hcz55_1, hcz55_2, hfz55_0, hfz55_1, hfz55_2⟩ := bz3 BK230
       try go_wp2
       go_meet
       case rel => exact ⟨_, (t244), (t245), (t246), (t247), (t248), (.slice Ao47 t248.length co47), H', ⟨by have := HK1.out; first | omega | exact Nat.le_refl _⟩, ⟨by (with_reducible repeat (first | apply Kd.R_alloc | apply Kd.R_drewN | apply Kd.R_drew)); exact Kd.R_mono (rw3 (Kd.R_far (p := ⟨gb252, 2, none⟩) (Kd.R_far (p := ⟨gb252, 1, none⟩) (Kd.R_far (p := ⟨gb252, 0, none⟩) (Kd.R_types (Kd.R_types HO250.out BK252.out (by decide)) BK230.out (by decide)) (fun _ hk => hk.1.2) (.int .i64 t246)) (fun _ hk => hk.1.2) (.int .i64 t247)) (fun _ hk => hk.1.2) (.slice Ao47 t248.length co47))) (fun _ hk => trivial)⟩, ⟨bq2 BK211 NB211_230 NB211_252⟩, ⟨bq1 BK230 NB230_252⟩, ⟨by repeat (first | (with_reducible first | exact HI0.out | apply IsS67.alloc | apply IsS67.drewN | apply IsS67.drew | apply IsS67.set_1 | apply IsS67.set_2 | refine IsS67.far ?_ NB0_211.out _ | refine IsS67.far ?_ NB0_230.out _ | refine IsS67.far ?_ NB0_252.out _) | exact HI0.out)⟩, ⟨by repeat (first | (with_reducible first | exact HK.out | apply KeepBut.set_ | apply keep_drewN | apply keep_drew | apply keep_alloc | refine keep_far ?_ GW211.out _ | refine keep_far ?_ GW230.out _ | refine keep_far ?_ GW252.out _) | exact HK.out)⟩, ⟨by repeat (first | (with_reducible first | exact HB.out | apply below_alloc | apply pw_below_drewN | apply below_drew1 | refine below_set ?_ (IsS67.ge HI0.out) | refine below_set ?_ GE211.out | refine below_set ?_ GE230.out | refine below_set ?_ GE252.out) | exact HB.out)⟩⟩
      ·try go_wp2
       go_meet
       case rel => exact ⟨_, (t244), (t245), ((wrap64 (1 + t212))), (t224), (x231002_1), (.slice Ao39 x231002_1.length co39), H', ⟨by have := HK1.out; first | omega | exact Nat.le_refl _⟩, ⟨by (with_reducible repeat (first | apply Kd.R_alloc | apply Kd.R_drewN | apply Kd.R_drew)); exact Kd.R_mono (rw3 (Kd.R_types HO_231002.out BK252.out (by decide))) (fun _ hk => trivial)⟩, ⟨bq1 BK211 NB211_252⟩, ⟨bq1 BK230 NB230_252⟩, ⟨by repeat (first | (with_reducible first | exact HI0.out | apply IsS67.alloc | apply IsS67.drewN | apply IsS67.drew | apply IsS67.set_1 | apply IsS67.set_2 | refine IsS67.far ?_ NB0_211.out _ | refine IsS67.far ?_ NB0_230.out _ | refine IsS67.far ?_ NB0_252.out _) | exact HI0.out)⟩, ⟨by repeat (first | (with_reducible first | exact HK.out | apply KeepBut.set_ | apply keep_drewN | apply keep_drew | apply keep_alloc | refine keep_far ?_ GW211.out _ | refine keep_far ?_ GW230.out _ | refine keep_far ?_ GW252.out _) | exact HK.out)⟩, ⟨by repeat (first | (with_reducible first | exact HB.out | apply below_alloc | apply pw_below_drewN | apply below_drew1 | refine below_set ?_ (IsS67.ge HI0.out) | refine below_set ?_ GE211.out | refine below_set ?_ GE230.out | refine below_set ?_ GE252.out) | exact HB.out)⟩⟩
     ·rw [if_neg c35] at H
      have c35b0 : decide (0 < t240) = false := decide_eq_false c35
      clear c35
      (first | rw [c35b0] | (simp only [i64_w, i32_w]; rw [c35b0]) | skip)
      have H' := Aside0.mk H
      clear H
      go_wp2
      go_meet
      case rel => exact ⟨_, (t241), (t242), ((wrap64 (1 + t212))), (t224), (x231002_1), (u231002), H', ⟨by have := HK1.out; first | omega | exact Nat.le_refl _⟩, ⟨by (with_reducible repeat (first | apply Kd.R_alloc | apply Kd.R_drewN | apply Kd.R_drew)); exact HO_231002.out⟩, ⟨bkp BK211⟩, ⟨bkp BK230⟩, ⟨by repeat (first | (with_reducible first | exact HI0.out | apply IsS67.alloc | apply IsS67.drewN | apply IsS67.drew | apply IsS67.set_1 | apply IsS67.set_2 | refine IsS67.far ?_ NB0_211.out _ | refine IsS67.far ?_ NB0_230.out _) | exact HI0.out)⟩, ⟨by repeat (first | (with_reducible first | exact HK.out | apply KeepBut.set_ | apply keep_drewN | apply keep_drew | apply keep_alloc | refine keep_far ?_ GW211.out _ | refine keep_far ?_ GW230.out _) | exact HK.out)⟩, ⟨by repeat (first | (with_reducible first | exact HB.out | apply below_alloc | apply pw_below_drewN | apply below_drew1 | refine below_set ?_ (IsS67.ge HI0.out) | refine below_set ?_ GE211.out | refine below_set ?_ GE230.out) | exact HB.out)⟩⟩
    case rest =>
     clear HC33
     try clear p2
     try clear c3
     try clear c4
     try clear c5
     try clear p6
     try clear c35
     try clear c35b0
     try clear c38
     try clear c38b0
     try clear c38b1
     try clear c39
     try clear c49
     try clear c50
     try clear c51
     try clear c53
     try clear c54
     try clear p64
     try clear hcz52_0
     try clear hcz52_1
     try clear hcz52_2
     try clear hcz55_0
     try clear hcz55_1
     try clear hcz55_2
     try clear hfz52_0
     try clear hfz52_1
     try clear hfz52_2
     try clear hfz55_0
     try clear hfz55_1
     try clear hfz55_2
     obtain ⟨kq, x1001_32, x1002_32, x231000_32, x231001_32, x231002_32, u231002, HA, HJ32, HO_231002, BK211, BK230, HI0, HK, HB⟩ := hcut
     cases kq with
     | zero => exact absurd HA.out (by simp [spec_l08Draw.j1])
     | succ kj32 =>
      have H := HA.out
      clear HA
      simp only [spec_l08Draw.j1] at H
      have HC66 := Aside0.mk H
      clear H
      go_upto_region 11 with (fail)
      go_cut [66] (fun v66 wc => ∃ (kq : Nat) (x66_65 : Bool) (x1001_65 : Int) (x1002_65 : Int), v66 = .bool x66_65 ∧ Aside0 (spec_l08Draw.j2 kq x66_65 s0_0 x1001_65 x1002_65 x231000_32 x231001_32 x231002_32 = some (r1, r2, r3, r4, r5)) ∧ Aside0 (kq ≤ kj32) ∧ Aside0 (Kd.R (Kd.int .i64) 2 wc w.heap.size (fun _ => True) u231002 x231002_32) ∧ Aside0 (wc.heap[gb211]? = some (.cells #[.int .i64 0, .int .i64 0, (.slice none 0 0)] 28 (0, 0))) ∧ Aside0 (wc.heap[gb230]? = some (.cells #[.int .i64 x231000_32, .int .i64 x231001_32, u231002] 28 (0, 0))) ∧ Aside0 (IsS67 w0 wc g s0_0 x1001_65 x1002_65) ∧ Aside0 (KeepBut w wc g none) ∧ Aside0 (Below w0.heap.size w0 wc))
      case first =>
       have H := HC66.out
       clear HC66
       obtain ⟨⟨t253, t254, t255⟩, A67, H⟩ := ob H
       try dsimp only at H
       by_cases c68 : t253 = 0
       ·rw [if_pos c68] at H
        have c68b0 : (t253 == 0) = true := beq_iff_eq.mpr c68
        have c68b1 : (t253 != 0) = false := bne_eq_false_iff_eq.mpr c68
        clear c68
        (first | rw [c68b0] | (simp only [i64_w, i32_w]; rw [c68b0]) | skip)
        have H' := Aside0.mk H
        clear H
        go_wp2_with (first | ((with_reducible refine gate_callee (f := 25) rfl ?_); refine gl 60 Tryd.func25 #[.pointer (some ⟨g, 0, none⟩), .int .i64 5] ?_; (with_reducible refine (spec_l01Next.calls _ _ _ _ _ _ _ _ w0 _ ?side1 ?side2 A67.out).mono ?_); (case side1 => repeat (first | (with_reducible first | exact HI0.out | apply IsS67.alloc | apply IsS67.drewN | apply IsS67.drew | apply IsS67.set_1 | apply IsS67.set_2 | refine IsS67.far ?_ NB0_211.out _ | refine IsS67.far ?_ NB0_230.out _) | exact HI0.out)); (case side2 => repeat (first | (with_reducible first | exact HB.out | apply below_alloc | apply pw_below_drewN | apply below_drew1 | refine below_set ?_ (IsS67.ge HI0.out) | refine below_set ?_ GE211.out | refine below_set ?_ GE230.out) | exact HB.out)); rintro e w69 ⟨rfl, hi, hb, hk⟩; refine ⟨_, rfl, ?_⟩; replace HO_231002 := asd (Kd.R_mono (Kd.R_keep (IsS67.apart (show IsS67 w0 _ g s0_0 x1001_32 x1002_32 from by repeat (first | (with_reducible first | exact HI0.out | apply IsS67.alloc | apply IsS67.drewN | apply IsS67.drew | apply IsS67.set_1 | apply IsS67.set_2 | refine IsS67.far ?_ NB0_211.out _ | refine IsS67.far ?_ NB0_230.out _) | exact HI0.out)) (kr HO_231002) (by decide)) hk (fun _ h => h.2)) (fun _ h => h.1)); replace BK211 := asd (KeepBut.blk hk (g' := gb211) (o := .cells #[.int .i64 0, .int .i64 0, .slice none 0 0] 28 (0, 0)) (bkp BK211) NB211_0.out (by simp)); replace BK230 := asd (KeepBut.blk hk (g' := gb230) (o := .cells #[.int .i64 x231000_32, .int .i64 x231001_32, u231002] 28 (0, 0)) (bkp BK230) NB230_0.out (by simp)); replace HK := asd (KeepBut.trans (by repeat (first | (with_reducible first | exact HK.out | apply KeepBut.set_ | apply keep_drewN | apply keep_drew | apply keep_alloc | refine keep_far ?_ GW211.out _ | refine keep_far ?_ GW230.out _) | exact HK.out)) hk (.inl rfl)); replace HB := asd (hb); replace HI0 := asd (hi); (try clear hb); (try clear hb2); (try clear hk); (try clear hi); have hnb70 := NB230_211.out; have hnc70 := NB211_230.out; have hnb71 := NB230_0.out; have hnc71 := NB0_230.out; obtain ⟨hcz72_0, hcz72_1, hcz72_2, hfz72_0, hfz72_1, hfz72_2⟩ := bz3 BK230))
        go_meet
        case rel => exact ⟨_, (decide (x231001_32 ≤ 12)), (t254), (t255), (by first | rfl | (simp; done) | (simp [*]; done)), H', ⟨by have := HK1.out; have := HJ32.out; first | omega | exact Nat.le_refl _⟩, ⟨by (with_reducible repeat (first | apply Kd.R_alloc | apply Kd.R_drewN | apply Kd.R_drew)); exact HO_231002.out⟩, ⟨bkp BK211⟩, ⟨bkp BK230⟩, ⟨by repeat (first | (with_reducible first | exact HI0.out | apply IsS67.alloc | apply IsS67.drewN | apply IsS67.drew | apply IsS67.set_1 | apply IsS67.set_2 | refine IsS67.far ?_ NB0_211.out _ | refine IsS67.far ?_ NB0_230.out _) | exact HI0.out)⟩, ⟨by repeat (first | (with_reducible first | exact HK.out | apply KeepBut.set_ | apply keep_drewN | apply keep_drew | apply keep_alloc | refine keep_far ?_ GW211.out _ | refine keep_far ?_ GW230.out _) | exact HK.out)⟩, ⟨by repeat (first | (with_reducible first | exact HB.out | apply below_alloc | apply pw_below_drewN | apply below_drew1 | refine below_set ?_ (IsS67.ge HI0.out) | refine below_set ?_ GE211.out | refine below_set ?_ GE230.out) | exact HB.out)⟩⟩
       ·rw [if_neg c68] at H
        have c68b0 : (t253 == 0) = false := beq_eq_false_iff_ne.mpr c68
        have c68b1 : (t253 != 0) = true := bne_iff_ne.mpr c68
        (first | rw [c68b0] | (simp only [i64_w, i32_w]; rw [c68b0]) | skip)
        have H' := Aside0.mk H
        clear H
        go_wp2_with (first | ((with_reducible refine gate_callee (f := 25) rfl ?_); refine gl 60 Tryd.func25 #[.pointer (some ⟨g, 0, none⟩), .int .i64 5] ?_; (with_reducible refine (spec_l01Next.calls _ _ _ _ _ _ _ _ w0 _ ?side1 ?side2 A67.out).mono ?_); (case side1 => repeat (first | (with_reducible first | exact HI0.out | apply IsS67.alloc | apply IsS67.drewN | apply IsS67.drew | apply IsS67.set_1 | apply IsS67.set_2 | refine IsS67.far ?_ NB0_211.out _ | refine IsS67.far ?_ NB0_230.out _) | exact HI0.out)); (case side2 => repeat (first | (with_reducible first | exact HB.out | apply below_alloc | apply pw_below_drewN | apply below_drew1 | refine below_set ?_ (IsS67.ge HI0.out) | refine below_set ?_ GE211.out | refine below_set ?_ GE230.out) | exact HB.out)); rintro e w73 ⟨rfl, hi, hb, hk⟩; refine ⟨_, rfl, ?_⟩; replace HO_231002 := asd (Kd.R_mono (Kd.R_keep (IsS67.apart (show IsS67 w0 _ g s0_0 x1001_32 x1002_32 from by repeat (first | (with_reducible first | exact HI0.out | apply IsS67.alloc | apply IsS67.drewN | apply IsS67.drew | apply IsS67.set_1 | apply IsS67.set_2 | refine IsS67.far ?_ NB0_211.out _ | refine IsS67.far ?_ NB0_230.out _) | exact HI0.out)) (kr HO_231002) (by decide)) hk (fun _ h => h.2)) (fun _ h => h.1)); replace BK211 := asd (KeepBut.blk hk (g' := gb211) (o := .cells #[.int .i64 0, .int .i64 0, .slice none 0 0] 28 (0, 0)) (bkp BK211) NB211_0.out (by simp)); replace BK230 := asd (KeepBut.blk hk (g' := gb230) (o := .cells #[.int .i64 x231000_32, .int .i64 x231001_32, u231002] 28 (0, 0)) (bkp BK230) NB230_0.out (by simp)); replace HK := asd (KeepBut.trans (by repeat (first | (with_reducible first | exact HK.out | apply KeepBut.set_ | apply keep_drewN | apply keep_drew | apply keep_alloc | refine keep_far ?_ GW211.out _ | refine keep_far ?_ GW230.out _) | exact HK.out)) hk (.inl rfl)); replace HB := asd (hb); replace HI0 := asd (hi); (try clear hb); (try clear hb2); (try clear hk); (try clear hi)))
        go_meet
        case rel => exact ⟨_, (false), (t254), (t255), (by first | rfl | (simp; done) | (simp [*]; done)), H', ⟨by have := HK1.out; have := HJ32.out; first | omega | exact Nat.le_refl _⟩, ⟨by (with_reducible repeat (first | apply Kd.R_alloc | apply Kd.R_drewN | apply Kd.R_drew)); exact HO_231002.out⟩, ⟨bkp BK211⟩, ⟨bkp BK230⟩, ⟨by repeat (first | (with_reducible first | exact HI0.out | apply IsS67.alloc | apply IsS67.drewN | apply IsS67.drew | apply IsS67.set_1 | apply IsS67.set_2 | refine IsS67.far ?_ NB0_211.out _ | refine IsS67.far ?_ NB0_230.out _) | exact HI0.out)⟩, ⟨by repeat (first | (with_reducible first | exact HK.out | apply KeepBut.set_ | apply keep_drewN | apply keep_drew | apply keep_alloc | refine keep_far ?_ GW211.out _ | refine keep_far ?_ GW230.out _) | exact HK.out)⟩, ⟨by repeat (first | (with_reducible first | exact HB.out | apply below_alloc | apply pw_below_drewN | apply below_drew1 | refine below_set ?_ (IsS67.ge HI0.out) | refine below_set ?_ GE211.out | refine below_set ?_ GE230.out) | exact HB.out)⟩⟩
      case rest =>
       clear HC66
       try clear c2
       try clear p2
       try clear c3
       try clear c4
       try clear c5
       try clear c6
       try clear p6
       try clear c7
       try clear c25
       try clear c35
       try clear c35b0
       try clear c38
       try clear c38b0
       try clear c38b1
       try clear c39
       try clear c49
       try clear c50
       try clear c51
       try clear c53
       try clear c54
       try clear p64
       try clear c68
       try clear c68b0
       try clear c68b1
       try clear c70
       try clear c71
       try clear hcz52_0
       try clear hcz52_1
       try clear hcz52_2
       try clear hcz55_0
       try clear hcz55_1
       try clear hcz55_2
       try clear hcz72_0
       try clear hcz72_1
       try clear hcz72_2
       try clear hfz52_0
       try clear hfz52_1
       try clear hfz52_2
       try clear hfz55_0
       try clear hfz55_1
       try clear hfz55_2
       try clear hfz72_0
       try clear hfz72_1
       try clear hfz72_2
       try clear p2
       try clear p6
       try clear p64
       obtain ⟨kq, x66_65, x1001_65, x1002_65, rfl, HA, HJ65, HO_231002, BK211, BK230, HI0, HK, HB⟩ := hcut
       cases kq with
       | zero => exact absurd HA.out (by simp [spec_l08Draw.j2])
       | succ kj65 =>
        have H := HA.out
        clear HA
        simp only [spec_l08Draw.j2] at H
        have HC74 := Aside0.mk H
        clear H
        go_upto_if 66 with (fail)
        go_cut [] (fun wc => ∃ (kq : Nat) (x231000_73 : Int) (x231001_73 : Int) (x231002_73 : List Int) (u231002 : Value), Aside0 (spec_l08Draw.j5 kq s0_0 x1001_65 x1002_65 x231000_73 x231001_73 x231002_73 = some (r1, r2, r3, r4, r5)) ∧ Aside0 (kq ≤ kj65) ∧ Aside0 (Kd.R (Kd.int .i64) 2 wc w.heap.size (fun _ => True) u231002 x231002_73) ∧ Aside0 (wc.heap[gb211]? = some (.cells #[.int .i64 0, .int .i64 0, (.slice none 0 0)] 28 (0, 0))) ∧ Aside0 (wc.heap[gb230]? = some (.cells #[.int .i64 x231000_73, .int .i64 x231001_73, u231002] 28 (0, 0))) ∧ Aside0 (IsS67 w0 wc g s0_0 x1001_65 x1002_65) ∧ Aside0 (KeepBut w wc g none) ∧ Aside0 (Below w0.heap.size w0 wc))
        case first =>
         have H := HC74.out
         clear HC74
         by_cases c75 : x66_65 = true
         ·subst c75
          replace H := ifT H
          obtain ⟨y256, hy256⟩ : ∃ y_ : List Int, y_ = (([] : List Int)) := ⟨_, rfl⟩
          replace H : (spec_l08Draw.l1 kj65 0 s0_0 x1001_65 x1002_65 x231000_32 x231001_32 x231002_32 x231000_32 (wrap64 (2 * x231001_32)) y256) = some (r1, r2, r3, r4, r5) := by first | (rw [hy256]; with_reducible exact H) | (have H2_ := (Option.bind_some _ _).symm.trans H; rw [hy256]; with_reducible exact H2_) | (have H2_ := (Option.bind_some _ _).symm.trans H; with_reducible exact H2_) | with_reducible exact H | (rw [hy256]; exact H) | exact H
          have Ny256 := Aside0.mk hy256
          clear hy256
          have H' := Aside0.mk H
          clear H
          have hnb76 := NB230_211.out
          have hnc76 := NB211_230.out
          have hnb77 := NB230_0.out
          have hnc77 := NB0_230.out
          obtain ⟨hcz78_0, hcz78_1, hcz78_2, hfz78_0, hfz78_1, hfz78_2⟩ := bz3 BK230
          go_wp2_with (first | ((with_reducible refine gd 72 rfl ?_); refine Kd.R_lit (Kd.int .i64) _ 2 ?hg (N := 72) ?hd (xs := ([] : List Int)) (inner := []) (ok := fun _ => True) (okp := fun _ => True) ?hr ?hp (fun _ hk => hk) trivial (Below.refl _ _) (Nat.le_refl _) (by simp) ?_; (case hd => rfl); (case hg => rfl); (case hr => first | (go_simp; done) | (go_simp; rfl)); (case hp => exact (Reps.none _ _)); intro v257 w79 ho80 hb hg_ hnew_; clear hg_ hnew_; (first | rw [← Ny256.out] at ho80 | (simp only [Int.reduceToNat] at ho80; rw [← Ny256.out] at ho80)); have HO258 := asd (Kd.R_lower (Kd.R_new' ho80 (Kd.R_lt (kr HO_231002))) (keep_size (w := w) (g := g) (row := none) (by repeat (first | (with_reducible first | exact HK.out | apply KeepBut.set_ | apply keep_drewN | apply keep_drew | apply keep_alloc | refine keep_far ?_ GW211.out _ | refine keep_far ?_ GW230.out _) | exact HK.out)))); replace HO_231002 := asd (Kd.R_elder' (kr HO_231002) (Kd.R_base ho80) hb); replace BK211 := bB BK211 hb; replace BK230 := bB BK230 hb; replace HK := asd (KeepBut.trans (by repeat (first | (with_reducible first | exact HK.out | apply KeepBut.set_ | apply keep_drewN | apply keep_drew | apply keep_alloc | refine keep_far ?_ GW211.out _ | refine keep_far ?_ GW230.out _) | exact HK.out)) (KeepBut.of_below hb g none) (.inl rfl)); replace HB := asd (below_step (by repeat (first | (with_reducible first | exact HB.out | apply below_alloc | apply pw_below_drewN | apply below_drew1 | refine below_set ?_ (IsS67.ge HI0.out) | refine below_set ?_ GE211.out | refine below_set ?_ GE230.out) | exact HB.out)) hb); replace HI0 := asd (IsS67.below (by repeat (first | (with_reducible first | exact HI0.out | apply IsS67.alloc | apply IsS67.drewN | apply IsS67.drew | apply IsS67.set_1 | apply IsS67.set_2 | refine IsS67.far ?_ NB0_211.out _ | refine IsS67.far ?_ NB0_230.out _) | exact HI0.out)) hb); clear hb ho80; obtain ⟨Ao81, co81, eo81⟩ := Kd.R_slice HO258.out; subst eo81) | ((with_reducible refine gd 8 rfl ?_); refine bx #[.int .i64 0, .int .i64 0, .slice none 0 0] 28 ?_; intro gb259 hg w82 BK259 hb; replace HO_231002 := asd (Kd.R_below (kr HO_231002) hb); replace HO258 := asd (Kd.R_below (kr HO258) hb); replace HB := asd (below_step (by repeat (first | (with_reducible first | exact HB.out | apply below_alloc | apply pw_below_drewN | apply below_drew1 | refine below_set ?_ (IsS67.ge HI0.out) | refine below_set ?_ GE211.out | refine below_set ?_ GE230.out) | exact HB.out)) hb); have GW259 := asd ((by rw [hg]; exact (keep_size (w := w) (g := g) (row := none) (by repeat (first | (with_reducible first | exact HK.out | apply KeepBut.set_ | apply keep_drewN | apply keep_drew | apply keep_alloc | refine keep_far ?_ GW211.out _ | refine keep_far ?_ GW230.out _) | exact HK.out))) : w.heap.size ≤ gb259)); have GE259 := asd ((Nat.le_trans HW0.out (by rw [hg]; exact (keep_size (w := w) (g := g) (row := none) (by repeat (first | (with_reducible first | exact HK.out | apply KeepBut.set_ | apply keep_drewN | apply keep_drew | apply keep_alloc | refine keep_far ?_ GW211.out _ | refine keep_far ?_ GW230.out _) | exact HK.out))) : w.heap.size ≤ gb259) : w0.heap.size ≤ gb259)); replace HK := asd (KeepBut.trans (by repeat (first | (with_reducible first | exact HK.out | apply KeepBut.set_ | apply keep_drewN | apply keep_drew | apply keep_alloc | refine keep_far ?_ GW211.out _ | refine keep_far ?_ GW230.out _) | exact HK.out)) (KeepBut.of_below hb g none) (.inl rfl)); have NB211_259 := nlt hg BK211; have NB259_211 := nsy (nlt hg BK211); replace BK211 := bB BK211 hb; have NB230_259 := nlt hg BK230; have NB259_230 := nsy (nlt hg BK230); replace BK230 := bB BK230 hb; have NB0_259 := asd ((by rw [hg]; exact Nat.ne_of_lt (IsS67.lt (show IsS67 w0 _ g s0_0 x1001_65 x1002_65 from by repeat (first | (with_reducible first | exact HI0.out | apply IsS67.alloc | apply IsS67.drewN | apply IsS67.drew | apply IsS67.set_1 | apply IsS67.set_2 | refine IsS67.far ?_ NB0_211.out _ | refine IsS67.far ?_ NB0_230.out _) | exact HI0.out))) : g ≠ gb259)); have NB259_0 := asd ((by rw [hg]; exact Nat.ne_of_gt (IsS67.lt (show IsS67 w0 _ g s0_0 x1001_65 x1002_65 from by repeat (first | (with_reducible first | exact HI0.out | apply IsS67.alloc | apply IsS67.drewN | apply IsS67.drew | apply IsS67.set_1 | apply IsS67.set_2 | refine IsS67.far ?_ NB0_211.out _ | refine IsS67.far ?_ NB0_230.out _) | exact HI0.out))) : gb259 ≠ g)); replace HI0 := asd (IsS67.below (by repeat (first | (with_reducible first | exact HI0.out | apply IsS67.alloc | apply IsS67.drewN | apply IsS67.drew | apply IsS67.set_1 | apply IsS67.set_2 | refine IsS67.far ?_ NB0_211.out _ | refine IsS67.far ?_ NB0_230.out _) | exact HI0.out)) hb); clear hb hg; have hnb83 := NB259_211.out; have hnc83 := NB211_259.out; have hnb84 := NB259_230.out; have hnc84 := NB230_259.out; have hnb85 := NB259_0.out; have hnc85 := NB0_259.out; obtain ⟨hcz86_0, hcz86_1, hcz86_2, hfz86_0, hfz86_1, hfz86_2⟩ := bz3 BK259))
          go_loopg [9] kj65 (fun kq v9 w' => ∃ (x9_4 : Int) (x260002_4 : List Int) (u260002 : Value), v9 = .int .i64 x9_4 ∧ Aside0 (spec_l08Draw.l1 kq x9_4 s0_0 x1001_65 x1002_65 x231000_32 x231001_32 x231002_32 x231000_32 (wrap64 (2 * x231001_32)) x260002_4 = some (r1, r2, r3, r4, r5)) ∧ Aside0 (kq ≤ kj65) ∧ Aside0 (Kd.R (Kd.int .i64) 2 w' w.heap.size (fun k_ => some k_ ≠ (u260002 : Value).ownBlock) u231002 x231002_32) ∧ Aside0 (Kd.R (Kd.int .i64) 2 w' w.heap.size (fun k_ => some k_ ≠ (u231002 : Value).ownBlock) u260002 x260002_4) ∧ Aside0 (w'.heap[gb211]? = some (.cells #[.int .i64 0, .int .i64 0, (.slice none 0 0)] 28 (0, 0))) ∧ Aside0 (w'.heap[gb230]? = some (.cells #[.int .i64 x231000_32, .int .i64 x231001_32, u231002] 28 (0, 0))) ∧ Aside0 (w'.heap[gb259]? = some (.cells #[.int .i64 x231000_32, .int .i64 (wrap64 (2 * x231001_32)), u260002] 28 (0, 0))) ∧ Aside0 (IsS67 w0 w' g s0_0 x1001_65 x1002_65) ∧ Aside0 (KeepBut w w' g none) ∧ Aside0 (Below w0.heap.size w0 w'))
          case atStart => exact ⟨(0), (y256), (.slice Ao81 y256.length co81), (by first | rfl | (simp; done) | (simp [*]; done)), H', ⟨Nat.le_refl _⟩, ⟨by (with_reducible repeat (first | apply Kd.R_alloc | apply Kd.R_drewN | apply Kd.R_drew)); exact Kd.R_mono (rw3 (Kd.R_types HO_231002.out BK259.out (by decide))) (fun _ hk => hk.1.2)⟩, ⟨by (with_reducible repeat (first | apply Kd.R_alloc | apply Kd.R_drewN | apply Kd.R_drew)); exact Kd.R_mono (rw3 (Kd.R_types HO258.out BK259.out (by decide))) (fun _ hk => hk.1.2)⟩, ⟨bq1 BK211 NB211_259⟩, ⟨bq1 BK230 NB230_259⟩, ⟨bq0 BK259⟩, ⟨by repeat (first | (with_reducible first | exact HI0.out | apply IsS67.alloc | apply IsS67.drewN | apply IsS67.drew | apply IsS67.set_1 | apply IsS67.set_2 | refine IsS67.far ?_ NB0_211.out _ | refine IsS67.far ?_ NB0_230.out _ | refine IsS67.far ?_ NB0_259.out _) | exact HI0.out)⟩, ⟨by repeat (first | (with_reducible first | exact HK.out | apply KeepBut.set_ | apply keep_drewN | apply keep_drew | apply keep_alloc | refine keep_far ?_ GW211.out _ | refine keep_far ?_ GW230.out _ | refine keep_far ?_ GW259.out _) | exact HK.out)⟩, ⟨by repeat (first | (with_reducible first | exact HB.out | apply below_alloc | apply pw_below_drewN | apply below_drew1 | refine below_set ?_ (IsS67.ge HI0.out) | refine below_set ?_ GE211.out | refine below_set ?_ GE230.out | refine below_set ?_ GE259.out) | exact HB.out)⟩⟩
          case round =>
           clear H'
           try clear c2
           try clear p2
           try clear c3
           try clear c4
           try clear c5
           try clear c6
           try clear p6
           try clear c7
           try clear c8
           try clear c25
           try clear c35
           try clear c35b0
           try clear c38
           try clear c38b0
           try clear c38b1
           try clear c39
           try clear c49
           try clear c50
           try clear c51
           try clear c53
           try clear c54
           try clear p64
           try clear c68
           try clear c68b0
           try clear c68b1
           try clear c70
           try clear c71
           try clear c75
           try clear c76
           try clear c77
           try clear c83
           try clear c84
           try clear c85
           try clear hcz52_0
           try clear hcz52_1
           try clear hcz52_2
           try clear hcz55_0
           try clear hcz55_1
           try clear hcz55_2
           try clear hcz72_0
           try clear hcz72_1
           try clear hcz72_2
           try clear hcz78_0
           try clear hcz78_1
           try clear hcz78_2
           try clear hcz86_0
           try clear hcz86_1
           try clear hcz86_2
           try clear hfz52_0
           try clear hfz52_1
           try clear hfz52_2
           try clear hfz55_0
           try clear hfz55_1
           try clear hfz55_2
           try clear hfz72_0
           try clear hfz72_1
           try clear hfz72_2
           try clear hfz78_0
           try clear hfz78_1
           try clear hfz78_2
           try clear hfz86_0
           try clear hfz86_1
           try clear hfz86_2
           try clear p2
           try clear p6
           try clear p64
           obtain ⟨x9_4, x260002_4, u260002, rfl, HA, HK4, HO_231002, HO_260002, BK211, BK230, BK259, HI0, HK, HB⟩ := hrel
           cases gk with
           | zero => exact absurd HA.out (by simp [spec_l08Draw.l1])
           | succ k4 =>
            have H := HA.out
            clear HA
            simp only [spec_l08Draw.l1] at H
            by_cases c87 : x9_4 < x231000_32
            rw [if_pos c87] at H
            have c87b0 := decide_eq_true c87
            clear c87
            rotate_left
            rw [if_neg c87] at H
            have c87b0 := decide_eq_false c87
            clear c87
            rotate_left
            all_goals
             (first | rw [c87b0] | (simp only [i64_w, i32_w]; rw [c87b0]) | skip)
             have H' := Aside0.mk H
             clear H
             have hnb88 := NB230_211.out
             have hnc88 := NB211_230.out
             have hnb89 := NB230_259.out
             have hnc89 := NB259_230.out
             have hnb90 := NB230_0.out
             have hnc90 := NB0_230.out
            ·obtain ⟨hcz91_0, hcz91_1, hcz91_2, hfz91_0, hfz91_1, hfz91_2⟩ := bz3 BK230
             go_wp2
             go_loopg [10] k4 (fun kq v10 w' => ∃ (x10_5 : Int) (x260002_5 : List Int) (u260002 : Value), v10 = .int .i64 x10_5 ∧ Aside0 (spec_l08Draw.l2 kq x9_4 x10_5 s0_0 x1001_65 x1002_65 x231000_32 x231001_32 x231002_32 x231000_32 (wrap64 (2 * x231001_32)) x260002_5 = some (r1, r2, r3, r4, r5)) ∧ Aside0 (kq ≤ k4) ∧ Aside0 (Kd.R (Kd.int .i64) 2 w' w.heap.size (fun k_ => some k_ ≠ (u260002 : Value).ownBlock) u231002 x231002_32) ∧ Aside0 (Kd.R (Kd.int .i64) 2 w' w.heap.size (fun k_ => some k_ ≠ (u231002 : Value).ownBlock) u260002 x260002_5) ∧ Aside0 (w'.heap[gb211]? = some (.cells #[.int .i64 0, .int .i64 0, (.slice none 0 0)] 28 (0, 0))) ∧ Aside0 (w'.heap[gb230]? = some (.cells #[.int .i64 x231000_32, .int .i64 x231001_32, u231002] 28 (0, 0))) ∧ Aside0 (w'.heap[gb259]? = some (.cells #[.int .i64 x231000_32, .int .i64 (wrap64 (2 * x231001_32)), u260002] 28 (0, 0))) ∧ Aside0 (IsS67 w0 w' g s0_0 x1001_65 x1002_65) ∧ Aside0 (KeepBut w w' g none) ∧ Aside0 (Below w0.heap.size w0 w'))
             case atStart => exact ⟨(0), (x260002_4), (u260002), (by first | rfl | (simp; done) | (simp [*]; done)), H', ⟨Nat.le_refl _⟩, ⟨by (with_reducible repeat (first | apply Kd.R_alloc | apply Kd.R_drewN | apply Kd.R_drew)); exact HO_231002.out⟩, ⟨by (with_reducible repeat (first | apply Kd.R_alloc | apply Kd.R_drewN | apply Kd.R_drew)); exact HO_260002.out⟩, ⟨bkp BK211⟩, ⟨bkp BK230⟩, ⟨bkp BK259⟩, ⟨by repeat (first | (with_reducible first | exact HI0.out | apply IsS67.alloc | apply IsS67.drewN | apply IsS67.drew | apply IsS67.set_1 | apply IsS67.set_2 | refine IsS67.far ?_ NB0_211.out _ | refine IsS67.far ?_ NB0_230.out _ | refine IsS67.far ?_ NB0_259.out _) | exact HI0.out)⟩, ⟨by repeat (first | (with_reducible first | exact HK.out | apply KeepBut.set_ | apply keep_drewN | apply keep_drew | apply keep_alloc | refine keep_far ?_ GW211.out _ | refine keep_far ?_ GW230.out _ | refine keep_far ?_ GW259.out _) | exact HK.out)⟩, ⟨by repeat (first | (with_reducible first | exact HB.out | apply below_alloc | apply pw_below_drewN | apply below_drew1 | refine below_set ?_ (IsS67.ge HI0.out) | refine below_set ?_ GE211.out | refine below_set ?_ GE230.out | refine below_set ?_ GE259.out) | exact HB.out)⟩⟩
             case round =>
              clear H'
              try clear c2
              try clear p2
              try clear c3
              try clear c4
              try clear c5
              try clear c6
              try clear p6
              try clear c7
              try clear c8
              try clear c9
              try clear c25
              try clear c35
              try clear c35b0
              try clear c38
              try clear c38b0
              try clear c38b1
              try clear c39
              try clear c49
              try clear c50
              try clear c51
              try clear c53
              try clear c54
              try clear p64
              try clear c68
              try clear c68b0
              try clear c68b1
              try clear c70
              try clear c71
              try clear c75
              try clear c76
              try clear c77
              try clear c83
              try clear c84
              try clear c85
              try clear c87
              try clear c87b0
              try clear c88
              try clear c89
              try clear c90
              try clear hcz52_0
              try clear hcz52_1
              try clear hcz52_2
              try clear hcz55_0
              try clear hcz55_1
              try clear hcz55_2
              try clear hcz72_0
              try clear hcz72_1
              try clear hcz72_2
              try clear hcz78_0
              try clear hcz78_1
              try clear hcz78_2
              try clear hcz86_0
              try clear hcz86_1
              try clear hcz86_2
              try clear hcz91_0
              try clear hcz91_1
              try clear hcz91_2
              try clear hfz52_0
              try clear hfz52_1
              try clear hfz52_2
              try clear hfz55_0
              try clear hfz55_1
              try clear hfz55_2
              try clear hfz72_0
              try clear hfz72_1
              try clear hfz72_2
              try clear hfz78_0
              try clear hfz78_1
              try clear hfz78_2
              try clear hfz86_0
              try clear hfz86_1
              try clear hfz86_2
              try clear hfz91_0
              try clear hfz91_1
              try clear hfz91_2
              try clear p2
              try clear p6
              try clear p64
              obtain ⟨x10_5, x260002_5, u260002, rfl, HA, HK5, HO_231002, HO_260002, BK211, BK230, BK259, HI0, HK, HB⟩ := hrel
              cases gk with
              | zero => exact absurd HA.out (by simp [spec_l08Draw.l2])
              | succ k5 =>
               have H := HA.out
               clear HA
               simp only [spec_l08Draw.l2] at H
               by_cases c92 : x10_5 < (wrap64 (2 * x231001_32))
               rw [if_pos c92] at H
               have c92b0 := decide_eq_true c92
               clear c92
               obtain ⟨t260, A93, H⟩ := ob H
               try dsimp only at H
               by_cases c94 : x260002_5.length < 17592186044416
               rw [if_pos c94] at H
               have LMc94 := Aside0.mk c94
               clear c94
               obtain ⟨y261, hy261⟩ : ∃ y_ : List Int, y_ = (x260002_5 ++ [t260]) := ⟨_, rfl⟩
               replace H : (spec_l08Draw.l2 k5 x9_4 (wrap64 (x10_5 + 1)) s0_0 x1001_65 x1002_65 x231000_32 x231001_32 x231002_32 x231000_32 (wrap64 (2 * x231001_32)) y261) = some (r1, r2, r3, r4, r5) := by first | (rw [hy261]; with_reducible exact H) | (have H2_ := (Option.bind_some _ _).symm.trans H; rw [hy261]; with_reducible exact H2_) | (have H2_ := (Option.bind_some _ _).symm.trans H; with_reducible exact H2_) | with_reducible exact H | (rw [hy261]; exact H) | exact H
               have Ny261 := Aside0.mk hy261
               clear hy261
               have H' := Aside0.mk H
               clear H
               rotate_left
               ·rw [if_neg c94] at H
                exact absurd H (by simp)
               rw [if_neg c92] at H
               have c92b0 := decide_eq_false c92
               clear c92
               have H' := Aside0.mk H
               clear H
               rotate_left
               all_goals
                have hnb95 := NB259_211.out
                have hnc95 := NB211_259.out
                have hnb96 := NB259_230.out
                have hnc96 := NB230_259.out
                have hnb97 := NB259_0.out
                have hnc97 := NB0_259.out
               ·obtain ⟨hcz98_0, hcz98_1, hcz98_2, hfz98_0, hfz98_1, hfz98_2⟩ := bz3 BK259
                try go_wp2
                replace HO_231002 := asd (Kd.R_drew HO_231002.out)
                replace HO_260002 := asd (Kd.R_drew HO_260002.out)
                replace BK211 := asd (blk_drew BK211.out)
                replace BK230 := asd (blk_drew BK230.out)
                replace BK259 := asd (blk_drew BK259.out)
                replace HI0 := asd (IsS67.drew HI0.out)
                replace HK := asd (keep_drew HK.out)
                replace HB := asd (below_drew1 HB.out)
                obtain ⟨Ao100, co100, eo100⟩ := Kd.R_slice HO_231002.out
                (first | subst eo100 | (injection eo100 with f1_ f2_ f3_; have f4_ := f1_.symm; have f5_ := f3_.symm; clear f1_ f2_ f3_; subst f4_; subst f5_))
                refine start_ (n := 10) (S := fun w' => w'.cell? ⟨gb259, 0, none⟩ = some (.int .i64 x231000_32) ∧ w'.cell? ⟨gb259, 1, none⟩ = some (.int .i64 (wrap64 (2 * x231001_32))) ∧ w'.cell? ⟨gb259, 2, none⟩ = some (u260002) ∧ w'.cell? ⟨gb230, 0, none⟩ = some (.int .i64 x231000_32) ∧ w'.cell? ⟨gb230, 1, none⟩ = some (.int .i64 x231001_32) ∧ w'.cell? ⟨gb230, 2, none⟩ = some (.slice Ao100 x231002_32.length co100)) (ds := [9]) (bT 10 0) (by kernel_rfl) rfl rfl ⟨bcl BK259 0, bcl BK259 1, bcl BK259 2, bcl BK230 0, bcl BK230 1, bcl BK230 2⟩ (fun hHeld => ?_); refine with_tabW spec_l08Draw.tab19 spec_l08Draw.bits19 (fun HT_ HW_ => ?_)
                generalize wr.drew = w99 at HO_231002 HO_260002 BK211 BK230 BK259 HI0 HK HB hHeld ⊢
                refine pu 0 (some 86) (bT 10 1) HT_ ?_
                refine pu 3 (some 89) (bs 10 9) HT_ ?_
                refine pu 4 (some 90) (bs 10 25) HT_ ?_
                refine ta 1 (some 87) (bs 10 27) HT_ HW_ hHeld ?_
                refine ta 2 (some 88) (bT 10 5) HT_ HW_ hHeld ?_
                refine ro 5 (some 91) (bT 10 6) HT_ (fun K hK => ?_)
                refine gs Tryd.func40 #[.agg #[.int .i64 x231000_32, .int .i64 x231001_32, .slice Ao100 x231002_32.length co100], .int .i64 x10_5, .int .i64 x9_4] ?_
                with_reducible refine (spec_l08At.calls _ _ _ _ _ _ _ _ _ ?side1 ?side2 A93.out).mono ?_
                (case side1 => exact ks (Kd.R_reads' HO_231002.out).2.2)
                (case side2 => exact (Kd.R_reads' HO_231002.out).2.1)
                rintro e w101 ⟨rfl, hb⟩
                refine ⟨_, rfl, ?_⟩
                replace HO_231002 := asd (Kd.R_below (kr HO_231002) hb)
                replace HO_260002 := asd (Kd.R_below (kr HO_260002) hb)
                replace BK211 := bB BK211 hb
                replace BK230 := bB BK230 hb
                replace BK259 := bB BK259 hb
                replace HK := asd (KeepBut.trans (by repeat (first | (with_reducible first | exact HK.out | apply KeepBut.set_ | apply keep_drewN | apply keep_drew | apply keep_alloc | refine keep_far ?_ GW211.out _ | refine keep_far ?_ GW230.out _ | refine keep_far ?_ GW259.out _) | exact HK.out)) (KeepBut.of_below hb g none) (.inl rfl))
                replace HB := asd (below_step (by repeat (first | (with_reducible first | exact HB.out | apply below_alloc | apply pw_below_drewN | apply below_drew1 | refine below_set ?_ (IsS67.ge HI0.out) | refine below_set ?_ GE211.out | refine below_set ?_ GE230.out | refine below_set ?_ GE259.out) | exact HB.out)) hb)
                replace HI0 := asd (IsS67.below (by repeat (first | (with_reducible first | exact HI0.out | apply IsS67.alloc | apply IsS67.drewN | apply IsS67.drew | apply IsS67.set_1 | apply IsS67.set_2 | refine IsS67.far ?_ NB0_211.out _ | refine IsS67.far ?_ NB0_230.out _ | refine IsS67.far ?_ NB0_259.out _) | exact HI0.out)) hb)
                (try clear hb)
                (try clear hb2)
                (try clear hk)
                (try clear hi)
                refine hK.out _ _ (cb3 BK259 (eb3 BK230)).out (fun hHeld => ?_)
                clear hK K
                refine norm_ (a' := ?_) ?_ ?_
                rotate_left
                ·show Act.put _ (some 91) _ = _
                 simp only [Act.put, sA, sB, sC, i64_w, i32_w]
                 rfl
                refine ro 6 (some 92) (bT 10 7) HT_ (fun K hK => ?_)
                refine value_ (w1 := ?_) (v := ?_) (by rfl) rfl ?_ ?_
                rotate_left 2
                ·go_simp
                 constructor
                 ·rfl
                 ·rfl
                refine hK.out _ _ ⟨(blk_cell (blk_alloc BK259.out _) 0).trans rfl, (blk_cell (blk_alloc BK259.out _) 1).trans rfl, (blk_cell (blk_alloc BK259.out _) 2).trans rfl, (blk_cell (blk_alloc BK230.out _) 0).trans rfl, (blk_cell (blk_alloc BK230.out _) 1).trans rfl, (blk_cell (blk_alloc BK230.out _) 2).trans rfl⟩ (fun hHeld => ?_)
                clear hK K
                refine norm_ (a' := ?_) ?_ ?_
                rotate_left
                ·show Act.put _ (some 92) _ = _
                 simp only [Act.put, sA, sB, sC, i64_w, i32_w]
                 rfl
                refine ro 7 (some 93) (bT 10 8) HT_ (fun K hK => ?_)
                refine Kd.R_append_step (Kd.int .i64) w.heap.size (by rfl) (.tmp 87) (.tmp 92) 22 2 (.int .i64 0) 8 rfl Tryd.underlying22 info2 rfl (by decide) (by omega) u260002 x260002_5 t260 [.int .i64 t260] (fun k_ => some k_ ≠ (.slice Ao100 x231002_32.length co100 : Value).ownBlock) (fun _ => False) rfl rfl ?aP (fun _ hk => hk.elim) ?aF ?aO (Below.refl _ _) ?aS ?aL ?_
                (case aP => exact rfl)
                (case aF => exact (fun k_ hk => Kd.fresh' (Kd.R_lt (kr HO_231002)) k_ hk))
                (case aO => exact (kr HO_260002))
                (case aS => exact (keep_size (w := w) (g := g) (row := none) (by repeat (first | (with_reducible first | exact HK.out | apply KeepBut.set_ | apply keep_drewN | apply keep_drew | apply keep_alloc | refine keep_far ?_ GW211.out _ | refine keep_far ?_ GW230.out _ | refine keep_far ?_ GW259.out _) | exact HK.out))))
                (case aL => have := LMc94.out; omega)
                intro v262 w102 ho hb hg hat
                rw [← Ny261.out] at ho
                have n0_ := asd (Kd.R_after (ok := (fun _ => True)) (by (with_reducible repeat (first | apply Kd.R_alloc | apply Kd.R_drewN | apply Kd.R_drew)); exact Kd.R_mono HO_231002.out (fun _ hk => ⟨trivial, hk⟩)) hg hat)
                have n1_ := asd (blk_grown (g := gb211) (o := .cells #[.int .i64 0, .int .i64 0, .slice none 0 0] 28 (0, 0)) (bkp BK211) hg (Kd.R_ne HO_260002.out BK211.out (by decide)))
                have n2_ := asd (blk_grown (g := gb230) (o := .cells #[.int .i64 x231000_32, .int .i64 x231001_32, .slice Ao100 x231002_32.length co100] 28 (0, 0)) (bkp BK230) hg (Kd.R_ne HO_260002.out BK230.out (by decide)))
                have n3_ := asd (blk_grown (g := gb259) (o := .cells #[.int .i64 x231000_32, .int .i64 (wrap64 (2 * x231001_32)), u260002] 28 (0, 0)) (bkp BK259) hg (Kd.R_ne HO_260002.out BK259.out (by decide)))
                have n4_ := asd (IsS67.grown (by repeat (first | (with_reducible first | exact HI0.out | apply IsS67.alloc | apply IsS67.drewN | apply IsS67.drew | apply IsS67.set_1 | apply IsS67.set_2 | refine IsS67.far ?_ NB0_211.out _ | refine IsS67.far ?_ NB0_230.out _ | refine IsS67.far ?_ NB0_259.out _) | exact HI0.out)) hg (IsS67.own_ne HI0.out HO_260002.out (by decide)))
                have n5_ := asd (below_weaken (by repeat (first | (with_reducible first | exact HB.out | apply below_alloc | apply pw_below_drewN | apply below_drew1 | refine below_set ?_ (IsS67.ge HI0.out) | refine below_set ?_ GE211.out | refine below_set ?_ GE230.out | refine below_set ?_ GE259.out) | exact HB.out)) HL.out hb)
                have n6_ := asd (KeepBut.trans (by repeat (first | (with_reducible first | exact HK.out | apply KeepBut.set_ | apply keep_drewN | apply keep_drew | apply keep_alloc | refine keep_far ?_ GW211.out _ | refine keep_far ?_ GW230.out _ | refine keep_far ?_ GW259.out _) | exact HK.out)) (KeepBut.of_grown hg g) (Kd.R_base2 HO_260002.out))
                have n7_ := asd (ho)
                clear HO_231002
                clear BK211
                clear BK230
                clear BK259
                clear HI0
                clear HB
                clear HK
                clear HO_260002
                have HO_231002 := n0_
                have BK211 := n1_
                have BK230 := n2_
                have BK259 := n3_
                have HI0 := n4_
                have HB := n5_
                have HK := n6_
                have HO263 := n7_
                clear n0_ n1_ n2_ n3_ n4_ n5_ n6_ n7_
                clear ho hb hg hat
                obtain ⟨Ao103, co103, eo103⟩ := Kd.R_slice HO263.out
                (first | subst eo103 | (injection eo103 with f1_ f2_ f3_; have f4_ := f1_.symm; have f5_ := f3_.symm; clear f1_ f2_ f3_; subst f4_; subst f5_))
                refine hK.out _ _ (cb3 BK259 (eb3 BK230)).out (fun hHeld => ?_)
                clear hK K
                refine norm_ (a' := ?_) ?_ ?_
                rotate_left
                ·show Act.put _ (some 93) _ = _
                 simp only [Act.put, sA, sB, sC, i64_w, i32_w]
                 rfl
                refine pu 8 (some 94) (bT 10 9) HT_ ?_
                refine last_ (i := 9) (N := none) (bT 10 10) rfl rfl (one_of HT_.out (by kernel_rfl)) (by decide) (fun K hK => ?_)
                have hs104 : w102.cell? ⟨gb259, 2, none⟩ = some (u260002) := bcl BK259 2
                have hfs104 := blk_frozen BK259.out 2
                have hns104_0 := NB211_259.out
                have hns104_1 := NB230_259.out
                have hms104_0 := NB259_211.out
                have hms104_1 := NB259_230.out
                refine skip_ (w1 := ?_) (by rfl) rfl ?_ ?_
                rotate_left
                ·go_simp
                 rfl
                refine hK.out _ _ ?_
                clear hK K
                refine done_ (done_of HT_.out (by kernel_rfl)) ?_
                try go_wp2
                go_roundg k5
                case measure => have := HK1.out; have := HJ32.out; have := HJ65.out; have := HK4.out; have := HK5.out; omega
                case rel => exact ⟨(wrap64 (x10_5 + 1)), (y261), (.slice Ao103 y261.length co103), (by first | rfl | (simp; done) | (simp [*]; done)), H', ⟨by have := HK1.out; have := HJ32.out; have := HJ65.out; have := HK4.out; have := HK5.out; omega⟩, ⟨by (with_reducible repeat (first | apply Kd.R_alloc | apply Kd.R_drewN | apply Kd.R_drew)); exact Kd.R_mono (Kd.R_far (p := ⟨gb259, 2, none⟩) (Kd.R_types HO_231002.out BK259.out (by decide)) (fun _ hk => hk.2) (.slice Ao103 y261.length co103)) (fun _ hk => hk.1.2)⟩, ⟨by (with_reducible repeat (first | apply Kd.R_alloc | apply Kd.R_drewN | apply Kd.R_drew)); exact Kd.R_mono (Kd.R_far (p := ⟨gb259, 2, none⟩) (Kd.R_types HO263.out BK259.out (by decide)) (fun _ hk => hk.2) (.slice Ao103 y261.length co103)) (fun _ hk => hk.1)⟩, ⟨bq1 BK211 NB211_259⟩, ⟨bq1 BK230 NB230_259⟩, ⟨bq0 BK259⟩, ⟨by repeat (first | (with_reducible first | exact HI0.out | apply IsS67.alloc | apply IsS67.drewN | apply IsS67.drew | apply IsS67.set_1 | apply IsS67.set_2 | refine IsS67.far ?_ NB0_211.out _ | refine IsS67.far ?_ NB0_230.out _ | refine IsS67.far ?_ NB0_259.out _) | exact HI0.out)⟩, ⟨by repeat (first | (with_reducible first | exact HK.out | apply KeepBut.set_ | apply keep_drewN | apply keep_drew | apply keep_alloc | refine keep_far ?_ GW211.out _ | refine keep_far ?_ GW230.out _ | refine keep_far ?_ GW259.out _) | exact HK.out)⟩, ⟨by repeat (first | (with_reducible first | exact HB.out | apply below_alloc | apply pw_below_drewN | apply below_drew1 | refine below_set ?_ (IsS67.ge HI0.out) | refine below_set ?_ GE211.out | refine below_set ?_ GE230.out | refine below_set ?_ GE259.out) | exact HB.out)⟩⟩
               ·obtain ⟨hcz108_0, hcz108_1, hcz108_2, hfz108_0, hfz108_1, hfz108_2⟩ := bz3 BK259
                go_wp2
                go_roundg k5
                case measure => have := HK1.out; have := HJ32.out; have := HJ65.out; have := HK4.out; have := HK5.out; omega
                case rel => exact ⟨(wrap64 (x9_4 + 1)), (x260002_5), (u260002), (by first | rfl | (simp; done) | (simp [*]; done)), H', ⟨by have := HK1.out; have := HJ32.out; have := HJ65.out; have := HK4.out; have := HK5.out; omega⟩, ⟨by (with_reducible repeat (first | apply Kd.R_alloc | apply Kd.R_drewN | apply Kd.R_drew)); exact HO_231002.out⟩, ⟨by (with_reducible repeat (first | apply Kd.R_alloc | apply Kd.R_drewN | apply Kd.R_drew)); exact HO_260002.out⟩, ⟨bkp BK211⟩, ⟨bkp BK230⟩, ⟨bkp BK259⟩, ⟨by repeat (first | (with_reducible first | exact HI0.out | apply IsS67.alloc | apply IsS67.drewN | apply IsS67.drew | apply IsS67.set_1 | apply IsS67.set_2 | refine IsS67.far ?_ NB0_211.out _ | refine IsS67.far ?_ NB0_230.out _ | refine IsS67.far ?_ NB0_259.out _) | exact HI0.out)⟩, ⟨by repeat (first | (with_reducible first | exact HK.out | apply KeepBut.set_ | apply keep_drewN | apply keep_drew | apply keep_alloc | refine keep_far ?_ GW211.out _ | refine keep_far ?_ GW230.out _ | refine keep_far ?_ GW259.out _) | exact HK.out)⟩, ⟨by repeat (first | (with_reducible first | exact HB.out | apply below_alloc | apply pw_below_drewN | apply below_drew1 | refine below_set ?_ (IsS67.ge HI0.out) | refine below_set ?_ GE211.out | refine below_set ?_ GE230.out | refine below_set ?_ GE259.out) | exact HB.out)⟩⟩
            ·obtain ⟨hcz112_0, hcz112_1, hcz112_2, hfz112_0, hfz112_1, hfz112_2⟩ := bz3 BK230
             have hnb113 := NB259_211.out
             have hnc113 := NB211_259.out
             have hnb114 := NB259_0.out
             have hnc114 := NB0_259.out
             obtain ⟨hcz115_0, hcz115_1, hcz115_2, hfz115_0, hfz115_1, hfz115_2⟩ := bz3 BK259
             obtain ⟨Ao116, co116, eo116⟩ := Kd.R_slice HO_260002.out
             subst eo116
             go_wp2
             go_meet
             case rel => exact ⟨_, (x231000_32), ((wrap64 (2 * x231001_32))), (x260002_4), (.slice Ao116 x260002_4.length co116), H', ⟨by have := HK1.out; have := HJ32.out; have := HJ65.out; have := HK4.out; first | omega | exact Nat.le_refl _⟩, ⟨by (with_reducible repeat (first | apply Kd.R_alloc | apply Kd.R_drewN | apply Kd.R_drew)); exact Kd.R_mono (rw3 (Kd.R_types HO_260002.out BK230.out (by decide))) (fun _ hk => trivial)⟩, ⟨bq1 BK211 NB211_230⟩, ⟨bq0 BK230⟩, ⟨by repeat (first | (with_reducible first | exact HI0.out | apply IsS67.alloc | apply IsS67.drewN | apply IsS67.drew | apply IsS67.set_1 | apply IsS67.set_2 | refine IsS67.far ?_ NB0_211.out _ | refine IsS67.far ?_ NB0_230.out _ | refine IsS67.far ?_ NB0_259.out _) | exact HI0.out)⟩, ⟨by repeat (first | (with_reducible first | exact HK.out | apply KeepBut.set_ | apply keep_drewN | apply keep_drew | apply keep_alloc | refine keep_far ?_ GW211.out _ | refine keep_far ?_ GW230.out _ | refine keep_far ?_ GW259.out _) | exact HK.out)⟩, ⟨by repeat (first | (with_reducible first | exact HB.out | apply below_alloc | apply pw_below_drewN | apply below_drew1 | refine below_set ?_ (IsS67.ge HI0.out) | refine below_set ?_ GE211.out | refine below_set ?_ GE230.out | refine below_set ?_ GE259.out) | exact HB.out)⟩⟩
         ·replace c75 := Bool.eq_false_iff.mpr c75
          subst c75
          replace H := ifF H
          have H' := Aside0.mk H
          clear H
          go_wp2
          go_meet
          case rel => exact ⟨_, (x231000_32), (x231001_32), (x231002_32), (u231002), H', ⟨by have := HK1.out; have := HJ32.out; have := HJ65.out; first | omega | exact Nat.le_refl _⟩, ⟨by (with_reducible repeat (first | apply Kd.R_alloc | apply Kd.R_drewN | apply Kd.R_drew)); exact HO_231002.out⟩, ⟨bkp BK211⟩, ⟨bkp BK230⟩, ⟨by repeat (first | (with_reducible first | exact HI0.out | apply IsS67.alloc | apply IsS67.drewN | apply IsS67.drew | apply IsS67.set_1 | apply IsS67.set_2 | refine IsS67.far ?_ NB0_211.out _ | refine IsS67.far ?_ NB0_230.out _) | exact HI0.out)⟩, ⟨by repeat (first | (with_reducible first | exact HK.out | apply KeepBut.set_ | apply keep_drewN | apply keep_drew | apply keep_alloc | refine keep_far ?_ GW211.out _ | refine keep_far ?_ GW230.out _) | exact HK.out)⟩, ⟨by repeat (first | (with_reducible first | exact HB.out | apply below_alloc | apply pw_below_drewN | apply below_drew1 | refine below_set ?_ (IsS67.ge HI0.out) | refine below_set ?_ GE211.out | refine below_set ?_ GE230.out) | exact HB.out)⟩⟩
        case rest =>
         clear HC74
         try clear c1
         try clear c2
         try clear p2
         try clear c3
         try clear c4
         try clear c5
         try clear c6
         try clear p6
         try clear c7
         try clear c8
         try clear c9
         try clear c10
         try clear c11
         try clear c25
         try clear c35
         try clear c35b0
         try clear c38
         try clear c38b0
         try clear c38b1
         try clear c39
         try clear c40
         try clear c49
         try clear c50
         try clear c51
         try clear c53
         try clear c54
         try clear p64
         try clear c68
         try clear c68b0
         try clear c68b1
         try clear c70
         try clear c71
         try clear c75
         try clear c76
         try clear c77
         try clear c83
         try clear c84
         try clear c85
         try clear c87
         try clear c87b0
         try clear c88
         try clear c89
         try clear c90
         try clear c92
         try clear c92b0
         try clear c94
         try clear c95
         try clear c96
         try clear c97
         try clear c105
         try clear c106
         try clear c107
         try clear c109
         try clear c110
         try clear c111
         try clear c113
         try clear c114
         try clear hcz108_0
         try clear hcz108_1
         try clear hcz108_2
         try clear hcz112_0
         try clear hcz112_1
         try clear hcz112_2
         try clear hcz115_0
         try clear hcz115_1
         try clear hcz115_2
         try clear hcz52_0
         try clear hcz52_1
         try clear hcz52_2
         try clear hcz55_0
         try clear hcz55_1
         try clear hcz55_2
         try clear hcz72_0
         try clear hcz72_1
         try clear hcz72_2
         try clear hcz78_0
         try clear hcz78_1
         try clear hcz78_2
         try clear hcz86_0
         try clear hcz86_1
         try clear hcz86_2
         try clear hcz91_0
         try clear hcz91_1
         try clear hcz91_2
         try clear hcz98_0
         try clear hcz98_1
         try clear hcz98_2
         try clear hfz108_0
         try clear hfz108_1
         try clear hfz108_2
         try clear hfz112_0
         try clear hfz112_1
         try clear hfz112_2
         try clear hfz115_0
         try clear hfz115_1
         try clear hfz115_2
         try clear hfz52_0
         try clear hfz52_1
         try clear hfz52_2
         try clear hfz55_0
         try clear hfz55_1
         try clear hfz55_2
         try clear hfz72_0
         try clear hfz72_1
         try clear hfz72_2
         try clear hfz78_0
         try clear hfz78_1
         try clear hfz78_2
         try clear hfz86_0
         try clear hfz86_1
         try clear hfz86_2
         try clear hfz91_0
         try clear hfz91_1
         try clear hfz91_2
         try clear hfz98_0
         try clear hfz98_1
         try clear hfz98_2
         try clear p2
         try clear p6
         try clear p64
         obtain ⟨kq, x231000_73, x231001_73, x231002_73, u231002, HA, HJ73, HO_231002, BK211, BK230, HI0, HK, HB⟩ := hcut
         cases kq with
         | zero => exact absurd HA.out (by simp [spec_l08Draw.j5])
         | succ kj73 =>
          have H := HA.out
          clear HA
          simp only [spec_l08Draw.j5] at H
          obtain ⟨⟨t264, t265, t266⟩, A117, H⟩ := ob H
          try dsimp only at H
          by_cases c118 : t264 = 0
          rw [if_pos c118] at H
          have c118b0 : (t264 == 0) = true := beq_iff_eq.mpr c118
          have c118b1 : (t264 != 0) = false := bne_eq_false_iff_eq.mpr c118
          clear c118
          obtain ⟨y267, hy267⟩ : ∃ y_ : List Int, y_ = (([(-1), 9, 10] : List Int)) := ⟨_, rfl⟩
          replace H : ((spec_l01Pick.f s0_0 t265 t266 y267).bind fun bt270 => (if 0 < (x231002_73.length : Int) then (some (x231000_73, x231001_73, (x231002_73.set (0 : Int).toNat bt270.1), bt270.2.1, bt270.2.2)) else (none))) = some (r1, r2, r3, r4, r5) := by first | (rw [hy267]; with_reducible exact H) | (have H2_ := (Option.bind_some _ _).symm.trans H; rw [hy267]; with_reducible exact H2_) | (have H2_ := (Option.bind_some _ _).symm.trans H; with_reducible exact H2_) | with_reducible exact H | (rw [hy267]; exact H) | exact H
          have Ny267 := Aside0.mk hy267
          clear hy267
          obtain ⟨⟨t270, t271, t272⟩, A119, H⟩ := ob H
          try dsimp only at H
          by_cases c120 : 0 < (x231002_73.length : Int)
          rw [if_pos c120] at H
          have c120b0 := decide_eq_true c120
          have c120b1 : decide (0 < x231002_73.length) = true := decide_eq_true (by omega)
          clear c120
          obtain ⟨y273, hy273⟩ : ∃ y_ : List Int, y_ = (x231002_73.set (0 : Int).toNat t270) := ⟨_, rfl⟩
          replace H : (some (x231000_73, x231001_73, y273, t271, t272)) = some (r1, r2, r3, r4, r5) := by first | (rw [hy273]; with_reducible exact H) | (have H2_ := (Option.bind_some _ _).symm.trans H; rw [hy273]; with_reducible exact H2_) | (have H2_ := (Option.bind_some _ _).symm.trans H; with_reducible exact H2_) | with_reducible exact H | (rw [hy273]; exact H) | exact H
          have Ny273 := Aside0.mk hy273
          clear hy273
          rotate_left
          ·rw [if_neg c120] at H
           exact absurd H (by simp)
          rw [if_neg c118] at H
          have c118b0 : (t264 == 0) = false := beq_eq_false_iff_ne.mpr c118
          have c118b1 : (t264 != 0) = true := bne_iff_ne.mpr c118
          by_cases c135 : t264 = 1
          rw [if_pos c135] at H
          have c135b0 : (t264 == 1) = true := beq_iff_eq.mpr c135
          have c135b1 : (t264 != 1) = false := bne_eq_false_iff_eq.mpr c135
          clear c135
          obtain ⟨y274, hy274⟩ : ∃ y_ : List Int, y_ = (([0, wrap64 (x231001_73 + 1), 25] : List Int)) := ⟨_, rfl⟩
          replace H : ((spec_l01Pick.f s0_0 t265 t266 y274).bind fun bt277 => (some (x231000_73, bt277.1, x231002_73, bt277.2.1, bt277.2.2))) = some (r1, r2, r3, r4, r5) := by first | (rw [hy274]; with_reducible exact H) | (have H2_ := (Option.bind_some _ _).symm.trans H; rw [hy274]; with_reducible exact H2_) | (have H2_ := (Option.bind_some _ _).symm.trans H; with_reducible exact H2_) | with_reducible exact H | (rw [hy274]; exact H) | exact H
          have Ny274 := Aside0.mk hy274
          clear hy274
          obtain ⟨⟨t277, t278, t279⟩, A136, H⟩ := ob H
          try dsimp only at H
          rotate_left
          rw [if_neg c135] at H
          have c135b0 : (t264 == 1) = false := beq_eq_false_iff_ne.mpr c135
          have c135b1 : (t264 != 1) = true := bne_iff_ne.mpr c135
          rotate_left
          all_goals
           simp only [Option.some.injEq, Prod.mk.injEq] at H
           obtain ⟨rfl, rfl, rfl, rfl, rfl⟩ := H
          ·try go_wp2_with (first | ((with_reducible refine gate_callee (f := 25) rfl ?_); refine gl 97 Tryd.func25 #[.pointer (some ⟨g, 0, none⟩), .int .i64 60] ?_; (with_reducible refine (spec_l01Next.calls _ _ _ _ _ _ _ _ w0 _ ?side1 ?side2 A117.out).mono ?_); (case side1 => repeat (first | (with_reducible first | exact HI0.out | apply IsS67.alloc | apply IsS67.drewN | apply IsS67.drew | apply IsS67.set_1 | apply IsS67.set_2 | refine IsS67.far ?_ NB0_211.out _ | refine IsS67.far ?_ NB0_230.out _) | exact HI0.out)); (case side2 => repeat (first | (with_reducible first | exact HB.out | apply below_alloc | apply pw_below_drewN | apply below_drew1 | refine below_set ?_ (IsS67.ge HI0.out) | refine below_set ?_ GE211.out | refine below_set ?_ GE230.out) | exact HB.out)); rintro e w122 ⟨rfl, hi, hb, hk⟩; refine ⟨_, rfl, ?_⟩; replace HO_231002 := asd (Kd.R_mono (Kd.R_keep (IsS67.apart (show IsS67 w0 _ g s0_0 x1001_65 x1002_65 from by repeat (first | (with_reducible first | exact HI0.out | apply IsS67.alloc | apply IsS67.drewN | apply IsS67.drew | apply IsS67.set_1 | apply IsS67.set_2 | refine IsS67.far ?_ NB0_211.out _ | refine IsS67.far ?_ NB0_230.out _) | exact HI0.out)) (kr HO_231002) (by decide)) hk (fun _ h => h.2)) (fun _ h => h.1)); replace BK211 := asd (KeepBut.blk hk (g' := gb211) (o := .cells #[.int .i64 0, .int .i64 0, .slice none 0 0] 28 (0, 0)) (bkp BK211) NB211_0.out (by simp)); replace BK230 := asd (KeepBut.blk hk (g' := gb230) (o := .cells #[.int .i64 x231000_73, .int .i64 x231001_73, u231002] 28 (0, 0)) (bkp BK230) NB230_0.out (by simp)); replace HK := asd (KeepBut.trans (by repeat (first | (with_reducible first | exact HK.out | apply KeepBut.set_ | apply keep_drewN | apply keep_drew | apply keep_alloc | refine keep_far ?_ GW211.out _ | refine keep_far ?_ GW230.out _) | exact HK.out)) hk (.inl rfl)); replace HB := asd (hb); replace HI0 := asd (hi); (try clear hb); (try clear hb2); (try clear hk); (try clear hi)))
           replace HO_231002 := asd (Kd.R_drew HO_231002.out)
           replace BK211 := asd (blk_drew BK211.out)
           replace BK230 := asd (blk_drew BK230.out)
           replace HI0 := asd (IsS67.drew HI0.out)
           replace HK := asd (keep_drew HK.out)
           replace HB := asd (below_drew1 HB.out)
           refine start_ (n := 7) (S := fun w' => w'.cell? ⟨gb230, 0, none⟩ = some (.int .i64 x231000_73) ∧ w'.cell? ⟨gb230, 1, none⟩ = some (.int .i64 x231001_73) ∧ w'.cell? ⟨gb230, 2, none⟩ = some (u231002)) (ds := [6]) (bT 7 0) (by kernel_rfl) rfl rfl ⟨bcl BK230 0, bcl BK230 1, bcl BK230 2⟩ (fun hHeld => ?_)
           generalize w122.drew = w123 at HO_231002 BK211 BK230 HI0 HK HB hHeld ⊢
           refine pure_ (i := 0) (N := some 100) (v := ?_) (a' := ?_) (bT 7 1) rfl rfl (by kernel_rfl) (fun _ _ _ h => h) (Or.inl ⟨by rfl, ?_⟩) ?_ ?_
           rotate_left
           ·intro w'
            go_simp
            with_reducible rfl
           rotate_left
           ·simp only [Act.put, sA, sB, sC, i64_w, i32_w]
            rfl
           refine pure_ (i := 2) (N := some 102) (v := ?_) (a' := ?_) (bs 7 5) rfl rfl (by kernel_rfl) (fun _ _ _ h => h) (Or.inl ⟨by rfl, ?_⟩) ?_ ?_
           rotate_left
           ·intro w'
            go_simp
            with_reducible rfl
           rotate_left
           ·simp only [Act.put, sA, sB, sC, i64_w, i32_w]
            rfl
           refine take_ (i := 1) (N := some 101) (v := ?_) (a' := ?_) (bT 7 3) rfl rfl (by kernel_rfl) (fun _ _ _ h => h) (Or.inl ⟨by rfl, ?_⟩) hHeld ?_ ?_
           rotate_left
           ·rintro w' ⟨s0, s1, s2⟩
            go_simp
            with_reducible rfl
           rotate_left
           ·simp only [Act.put, sA, sB, sC, i64_w, i32_w]
            rfl
           refine one_ (i := 3) (N := some 103) (bT 7 4) rfl rfl (by kernel_rfl) (by decide) (fun K hK => ?_)
           refine Kd.R_lit_step (Kd.int .i64) _ 2 ?hg (N := 103) ?hd (xs := ([(-1), 9, 10] : List Int)) (inner := [.int .i64 (-1), .int .i64 9, .int .i64 10]) (ok := fun _ => True) (okp := fun _ => True) ?hr ?hp (fun _ hk => hk) trivial (Below.refl _ _) (Nat.le_refl _) (by simp) ?_; (case hd => rfl); (case hg => rfl); (case hr => first | (go_simp; done) | (go_simp; rfl)); (case hp => exact (Reps.one (show Kd.M (Kd.int .i64) _ _ _ (-1) [.int .i64 (-1)] from rfl) (Reps.one (show Kd.M (Kd.int .i64) _ _ _ 9 [.int .i64 9] from rfl) (Reps.one (show Kd.M (Kd.int .i64) _ _ _ 10 [.int .i64 10] from rfl) (Reps.none _ _)))))
           intro v268 w124 ho125 hb hg_ hnew_
           clear hg_ hnew_
           (first | rw [← Ny267.out] at ho125 | (simp only [Int.reduceToNat] at ho125; rw [← Ny267.out] at ho125))
           have HO269 := asd (Kd.R_lower (Kd.R_new' ho125 (Kd.R_lt (kr HO_231002))) (keep_size (w := w) (g := g) (row := none) (by repeat (first | (with_reducible first | exact HK.out | apply KeepBut.set_ | apply keep_drewN | apply keep_drew | apply keep_alloc | refine keep_far ?_ GW211.out _ | refine keep_far ?_ GW230.out _) | exact HK.out))))
           replace HO_231002 := asd (Kd.R_elder' (kr HO_231002) (Kd.R_base ho125) hb)
           replace BK211 := bB BK211 hb
           replace BK230 := bB BK230 hb
           replace HK := asd (KeepBut.trans (by repeat (first | (with_reducible first | exact HK.out | apply KeepBut.set_ | apply keep_drewN | apply keep_drew | apply keep_alloc | refine keep_far ?_ GW211.out _ | refine keep_far ?_ GW230.out _) | exact HK.out)) (KeepBut.of_below hb g none) (.inl rfl))
           replace HB := asd (below_step (by repeat (first | (with_reducible first | exact HB.out | apply below_alloc | apply pw_below_drewN | apply below_drew1 | refine below_set ?_ (IsS67.ge HI0.out) | refine below_set ?_ GE211.out | refine below_set ?_ GE230.out) | exact HB.out)) hb)
           replace HI0 := asd (IsS67.below (by repeat (first | (with_reducible first | exact HI0.out | apply IsS67.alloc | apply IsS67.drewN | apply IsS67.drew | apply IsS67.set_1 | apply IsS67.set_2 | refine IsS67.far ?_ NB0_211.out _ | refine IsS67.far ?_ NB0_230.out _) | exact HI0.out)) hb)
           clear hb ho125
           obtain ⟨Ao126, co126, eo126⟩ := Kd.R_slice HO269.out
           (first | subst eo126 | (injection eo126 with f1_ f2_ f3_; have f4_ := f1_.symm; have f5_ := f3_.symm; clear f1_ f2_ f3_; subst f4_; subst f5_))
           refine hK.out _ _ (eb3 BK230).out (fun hHeld => ?_)
           clear hK K
           refine norm_ (a' := ?_) ?_ ?_
           rotate_left
           ·show Act.put _ (some 103) _ = _
            simp only [Act.put, sA, sB, sC, i64_w, i32_w]
            rfl
           refine one_ (i := 4) (N := some 104) (bT 7 5) rfl rfl (by kernel_rfl) (by decide) (fun K hK => ?_)
           refine gs Tryd.func37 #[.pointer (some ⟨g, 0, none⟩), .slice Ao126 y267.length co126] ?_
           with_reducible refine (spec_l01Pick.calls _ _ _ _ _ _ _ _ _ _ w0 _ ?side1 ?side2 ?side3 ?side4 ?side5 A119.out).mono ?_
           (case side1 => repeat (first | (with_reducible first | exact HI0.out | apply IsS67.alloc | apply IsS67.drewN | apply IsS67.drew | apply IsS67.set_1 | apply IsS67.set_2 | refine IsS67.far ?_ NB0_211.out _ | refine IsS67.far ?_ NB0_230.out _) | exact HI0.out))
           (case side2 => repeat (first | (with_reducible first | exact HB.out | apply below_alloc | apply pw_below_drewN | apply below_drew1 | refine below_set ?_ (IsS67.ge HI0.out) | refine below_set ?_ GE211.out | refine below_set ?_ GE230.out) | exact HB.out))
           (case side3 => exact ks (Kd.R_reads' HO269.out).2.2)
           (case side4 => exact (Kd.R_reads' HO269.out).2.1)
           (case side5 => exact far_slice (IsS67.own_ne HI0.out HO269.out (by decide)))
           rintro e w127 ⟨rfl, hi, hb, hk⟩
           refine ⟨_, rfl, ?_⟩
           replace HO_231002 := asd (Kd.R_mono (Kd.R_keep (IsS67.apart (show IsS67 w0 _ g s0_0 t265 t266 from by repeat (first | (with_reducible first | exact HI0.out | apply IsS67.alloc | apply IsS67.drewN | apply IsS67.drew | apply IsS67.set_1 | apply IsS67.set_2 | refine IsS67.far ?_ NB0_211.out _ | refine IsS67.far ?_ NB0_230.out _) | exact HI0.out)) (kr HO_231002) (by decide)) hk (fun _ h => h.2)) (fun _ h => h.1))
           replace BK211 := asd (KeepBut.blk hk (g' := gb211) (o := .cells #[.int .i64 0, .int .i64 0, .slice none 0 0] 28 (0, 0)) (bkp BK211) NB211_0.out (by simp))
           replace BK230 := asd (KeepBut.blk hk (g' := gb230) (o := .cells #[.int .i64 x231000_73, .int .i64 x231001_73, u231002] 28 (0, 0)) (bkp BK230) NB230_0.out (by simp))
           replace HO269 := asd (Kd.R_mono (Kd.R_keep (IsS67.apart (show IsS67 w0 _ g s0_0 t265 t266 from by repeat (first | (with_reducible first | exact HI0.out | apply IsS67.alloc | apply IsS67.drewN | apply IsS67.drew | apply IsS67.set_1 | apply IsS67.set_2 | refine IsS67.far ?_ NB0_211.out _ | refine IsS67.far ?_ NB0_230.out _) | exact HI0.out)) (kr HO269) (by decide)) hk (fun _ h => h.2)) (fun _ h => h.1))
           replace HK := asd (KeepBut.trans (by repeat (first | (with_reducible first | exact HK.out | apply KeepBut.set_ | apply keep_drewN | apply keep_drew | apply keep_alloc | refine keep_far ?_ GW211.out _ | refine keep_far ?_ GW230.out _) | exact HK.out)) hk (.inl rfl))
           replace HB := asd (hb)
           replace HI0 := asd (hi)
           (try clear hb)
           (try clear hb2)
           (try clear hk)
           (try clear hi)
           have p121 : 0 ≤ (0 : Int) := (by omega)
           have q121 : (0 : Int) < ((x231002_73.length : Int) : Int) := od
           have qi121 : (0 < x231002_73.length) = True := eq_true (by omega)
           obtain ⟨go121, co121, eo121, gb121, gl121, cl121, HG121⟩ := Kd.R_form HO_231002.out (by omega)
           (first | cases eo121 | (injection eo121 with ea_ en_ ec_; (first | subst ea_ | (injection ea_ with ea_; subst ea_)); subst ec_; clear en_))
           have GB121 := Aside0.mk gb121
           have GG121 := Aside0.mk HG121
           clear gb121 gl121 HG121
           obtain ⟨hx121_0, hf121_0⟩ := Kd.R_celln 0 HO_231002.out (0 : Int) p121 q121
           (try rw [show ((0 : Int)).toNat = 0 from rfl] at hx121_0)
           (try simp only [Nat.reduceMul, Nat.zero_mul, Nat.zero_add, Nat.reduceAdd] at hx121_0)
           (try rw [show ((0 : Int)).toNat = 0 from rfl] at hf121_0)
           (try simp only [Nat.reduceMul, Nat.zero_mul, Nat.zero_add, Nat.reduceAdd] at hf121_0)
           replace p121 := eq_true p121
           replace q121 := eq_true q121
           have HN0_go121 := asd (show g ≠ go121 from by have h_ := IsS67.own_ne HI0.out HO_231002.out (by decide); intro e_; exact h_ (by rw [e_]; rfl))
           have HP128 := Kd.R_putn HO_231002.out (0 : Int) t270
           rw [← Ny273.out] at HP128
           have HQ128 := Aside0.mk HP128
           clear HP128
           refine hK.out _ _ (eb3 BK230).out (fun hHeld => ?_)
           clear hK K
           refine norm_ (a' := ?_) ?_ ?_
           rotate_left
           ·show Act.put _ (some 104) _ = _
            simp only [Act.put, sA, sB, sC, i64_w, i32_w]
            rfl
           refine pure_ (i := 5) (N := some 105) (v := ?_) (a' := ?_) (bT 7 6) rfl rfl (by kernel_rfl) (fun _ _ _ h => h) (Or.inl ⟨by rfl, ?_⟩) ?_ ?_
           rotate_left
           ·intro w'
            go_simp
            with_reducible rfl
           rotate_left
           ·simp only [Act.put, sA, sB, sC, i64_w, i32_w]
            rfl
           refine last_ (i := 6) (N := none) (bT 7 7) rfl rfl (by kernel_rfl) (by decide) (fun K hK => ?_)
           refine skip_ (w1 := ?_) (by rfl) rfl ?_ ?_
           rotate_left
           ·go_simp
            rfl
           refine hK.out _ _ ?_
           clear hK K
           refine done_ (by kernel_rfl) ?_
           replace HO269 : Aside0 (Kd.R (Kd.int .i64) 2 (w127.setCell ⟨go121, 0, none⟩ (.int .i64 t270)) w.heap.size (fun k_ => some k_ ≠ (.slice (some ⟨go121, 0, none⟩) x231002_73.length co121 : Value).ownBlock) (.slice Ao126 y267.length co126) y267) := ⟨by (with_reducible repeat (first | apply Kd.R_alloc | apply Kd.R_drewN | apply Kd.R_drew)); exact Kd.R_mono (Kd.R_far (p := ⟨go121, 0, none⟩) (Kd.R_mono HO269.out (fun k_ hk => (⟨hk, fun e_ => hk.2 (by rw [e_]; rfl)⟩ : _ ∧ k_ ≠ go121))) (fun _ hk => hk.2) (.int .i64 t270)) (fun _ hk => hk.1.2)⟩
           replace BK211 : Aside0 ((w127.setCell ⟨go121, 0, none⟩ (.int .i64 t270)).heap[gb211]? = some (.cells #[.int .i64 0, .int .i64 0, .slice none 0 0] 28 (0, 0))) := ⟨by (with_reducible repeat (first | refine blk_drewN ?_ _ | refine blk_drew ?_ | refine blk_alloc ?_ _)); refine blk_far ?_ (by have h_ := Kd.R_ne HO_231002.out BK211.out (by decide); intro e_; exact h_ (by rw [e_]; rfl)) _; (with_reducible repeat (first | refine blk_drewN ?_ _ | refine blk_drew ?_ | refine blk_alloc ?_ _)); exact BK211.out⟩
           replace BK230 : Aside0 ((w127.setCell ⟨go121, 0, none⟩ (.int .i64 t270)).heap[gb230]? = some (.cells #[.int .i64 x231000_73, .int .i64 x231001_73, .slice (some ⟨go121, 0, none⟩) x231002_73.length co121] 28 (0, 0))) := ⟨by (with_reducible repeat (first | refine blk_drewN ?_ _ | refine blk_drew ?_ | refine blk_alloc ?_ _)); refine blk_far ?_ (by have h_ := Kd.R_ne HO_231002.out BK230.out (by decide); intro e_; exact h_ (by rw [e_]; rfl)) _; (with_reducible repeat (first | refine blk_drewN ?_ _ | refine blk_drew ?_ | refine blk_alloc ?_ _)); exact BK230.out⟩
           replace HO_231002 : Aside0 (Kd.R (Kd.int .i64) 2 (w127.setCell ⟨go121, 0, none⟩ (.int .i64 t270)) w.heap.size (fun k_ => some k_ ≠ (.slice Ao126 y267.length co126 : Value).ownBlock) (.slice (some ⟨go121, 0, none⟩) x231002_73.length co121) y273) := ⟨by (with_reducible repeat (first | apply Kd.R_alloc | apply Kd.R_drewN | apply Kd.R_drew)); exact Kd.R_mono HQ128.out (fun _ hk => hk.2)⟩
           replace HK : Aside0 (KeepBut w (w127.setCell ⟨go121, 0, none⟩ (.int .i64 t270)) g none) := ⟨by repeat (first | (with_reducible first | exact HK.out | apply KeepBut.set_ | apply keep_drewN | apply keep_drew | apply keep_alloc | refine keep_far ?_ GB121.out _ | refine keep_far ?_ GW211.out _ | refine keep_far ?_ GW230.out _) | exact HK.out)⟩
           replace HB : Aside0 (Below w0.heap.size w0 (w127.setCell ⟨go121, 0, none⟩ (.int .i64 t270))) := ⟨by repeat (first | (with_reducible first | exact HB.out | apply below_alloc | apply pw_below_drewN | apply below_drew1 | refine below_set ?_ (Nat.le_trans HL.out GB121.out) | refine below_set ?_ (IsS67.ge HI0.out) | refine below_set ?_ GE211.out | refine below_set ?_ GE230.out) | exact HB.out)⟩
           replace HI0 : Aside0 (IsS67 w0 (w127.setCell ⟨go121, 0, none⟩ (.int .i64 t270)) g s0_0 t271 t272) := ⟨by repeat (first | (with_reducible first | exact HI0.out | apply IsS67.alloc | apply IsS67.drewN | apply IsS67.drew | apply IsS67.set_1 | apply IsS67.set_2 | refine IsS67.far ?_ HN0_go121.out _ | refine IsS67.far ?_ NB0_211.out _ | refine IsS67.far ?_ NB0_230.out _) | exact HI0.out)⟩
           generalize (w127.setCell ⟨go121, 0, none⟩ (.int .i64 t270)) = w129 at HO_231002 HO269 BK211 BK230 HI0 HK HB ⊢
           have hnb130 := NB230_211.out
           have hnc130 := NB211_230.out
           have hnb131 := NB230_0.out
           have hnc131 := NB0_230.out
           obtain ⟨hcz132_0, hcz132_1, hcz132_2, hfz132_0, hfz132_1, hfz132_2⟩ := bz3 BK230
           have hnb133 := NB211_0.out
           have hnc133 := NB0_211.out
           obtain ⟨hcz134_0, hcz134_1, hcz134_2, hfz134_0, hfz134_1, hfz134_2⟩ := bz3 BK211
           try go_wp2
           refine bodyPost_ret (results_cell_row rfl _ _ gb211 28 #[.int .i64 x231000_73, .int .i64 x231001_73, .slice (some ⟨go121, 0, none⟩) x231002_73.length co121] (0, 0) _ rfl (bq0 BK211) Tryd.underlying28 rfl (by kernel_rfl)) rfl ?_
           exact ⟨_, by first | rfl | (simp [errW_none, errW_some] <;> rfl) | (simp [*, errW_none, errW_some] <;> rfl), by (with_reducible repeat (first | apply Kd.R_alloc | apply Kd.R_drewN | apply Kd.R_drew)); exact Kd.R_mono (rw3 (Kd.R_types HO_231002.out BK211.out (by decide))) (fun _ hk => trivial), by repeat (first | (with_reducible first | exact HI0.out | apply IsS67.alloc | apply IsS67.drewN | apply IsS67.drew | apply IsS67.set_1 | apply IsS67.set_2 | refine IsS67.far ?_ NB0_211.out _ | refine IsS67.far ?_ NB0_230.out _) | exact HI0.out), by repeat (first | (with_reducible first | exact HB.out | apply below_alloc | apply pw_below_drewN | apply below_drew1 | refine below_set ?_ (IsS67.ge HI0.out) | refine below_set ?_ GE211.out | refine below_set ?_ GE230.out) | exact HB.out), by repeat (first | (with_reducible first | exact HK.out | apply KeepBut.set_ | apply keep_drewN | apply keep_drew | apply keep_alloc | refine keep_far ?_ GW211.out _ | refine keep_far ?_ GW230.out _) | exact HK.out)⟩
          ·go_wp2_with (first | ((with_reducible refine gate_callee (f := 25) rfl ?_); refine gl 97 Tryd.func25 #[.pointer (some ⟨g, 0, none⟩), .int .i64 60] ?_; (with_reducible refine (spec_l01Next.calls _ _ _ _ _ _ _ _ w0 _ ?side1 ?side2 A117.out).mono ?_); (case side1 => repeat (first | (with_reducible first | exact HI0.out | apply IsS67.alloc | apply IsS67.drewN | apply IsS67.drew | apply IsS67.set_1 | apply IsS67.set_2 | refine IsS67.far ?_ NB0_211.out _ | refine IsS67.far ?_ NB0_230.out _) | exact HI0.out)); (case side2 => repeat (first | (with_reducible first | exact HB.out | apply below_alloc | apply pw_below_drewN | apply below_drew1 | refine below_set ?_ (IsS67.ge HI0.out) | refine below_set ?_ GE211.out | refine below_set ?_ GE230.out) | exact HB.out)); rintro e w137 ⟨rfl, hi, hb, hk⟩; refine ⟨_, rfl, ?_⟩; replace HO_231002 := asd (Kd.R_mono (Kd.R_keep (IsS67.apart (show IsS67 w0 _ g s0_0 x1001_65 x1002_65 from by repeat (first | (with_reducible first | exact HI0.out | apply IsS67.alloc | apply IsS67.drewN | apply IsS67.drew | apply IsS67.set_1 | apply IsS67.set_2 | refine IsS67.far ?_ NB0_211.out _ | refine IsS67.far ?_ NB0_230.out _) | exact HI0.out)) (kr HO_231002) (by decide)) hk (fun _ h => h.2)) (fun _ h => h.1)); replace BK211 := asd (KeepBut.blk hk (g' := gb211) (o := .cells #[.int .i64 0, .int .i64 0, .slice none 0 0] 28 (0, 0)) (bkp BK211) NB211_0.out (by simp)); replace BK230 := asd (KeepBut.blk hk (g' := gb230) (o := .cells #[.int .i64 x231000_73, .int .i64 x231001_73, u231002] 28 (0, 0)) (bkp BK230) NB230_0.out (by simp)); replace HK := asd (KeepBut.trans (by repeat (first | (with_reducible first | exact HK.out | apply KeepBut.set_ | apply keep_drewN | apply keep_drew | apply keep_alloc | refine keep_far ?_ GW211.out _ | refine keep_far ?_ GW230.out _) | exact HK.out)) hk (.inl rfl)); replace HB := asd (hb); replace HI0 := asd (hi); (try clear hb); (try clear hb2); (try clear hk); (try clear hi); have hnb138 := NB230_211.out; have hnc138 := NB211_230.out; have hnb139 := NB230_0.out; have hnc139 := NB0_230.out; obtain ⟨hcz140_0, hcz140_1, hcz140_2, hfz140_0, hfz140_1, hfz140_2⟩ := bz3 BK230) | ((with_reducible refine gd 112 rfl ?_); refine Kd.R_lit (Kd.int .i64) _ 2 ?hg (N := 112) ?hd (xs := ([0, wrap64 (x231001_73 + 1), 25] : List Int)) (inner := [.int .i64 0, .int .i64 (wrap64 (x231001_73 + 1)), .int .i64 25]) (ok := fun _ => True) (okp := fun _ => True) ?hr ?hp (fun _ hk => hk) trivial (Below.refl _ _) (Nat.le_refl _) (by simp) ?_; (case hd => rfl); (case hg => rfl); (case hr => first | (go_simp; done) | (go_simp; rfl)); (case hp => exact (Reps.one (show Kd.M (Kd.int .i64) _ _ _ 0 [.int .i64 0] from rfl) (Reps.one (show Kd.M (Kd.int .i64) _ _ _ (wrap64 (x231001_73 + 1)) [.int .i64 (wrap64 (x231001_73 + 1))] from rfl) (Reps.one (show Kd.M (Kd.int .i64) _ _ _ 25 [.int .i64 25] from rfl) (Reps.none _ _))))); intro v275 w141 ho142 hb hg_ hnew_; clear hg_ hnew_; (first | rw [← Ny274.out] at ho142 | (simp only [Int.reduceToNat] at ho142; rw [← Ny274.out] at ho142)); have HO276 := asd (Kd.R_lower (Kd.R_new' ho142 (Kd.R_lt (kr HO_231002))) (keep_size (w := w) (g := g) (row := none) (by repeat (first | (with_reducible first | exact HK.out | apply KeepBut.set_ | apply keep_drewN | apply keep_drew | apply keep_alloc | refine keep_far ?_ GW211.out _ | refine keep_far ?_ GW230.out _) | exact HK.out)))); replace HO_231002 := asd (Kd.R_elder' (kr HO_231002) (Kd.R_base ho142) hb); replace BK211 := bB BK211 hb; replace BK230 := bB BK230 hb; replace HK := asd (KeepBut.trans (by repeat (first | (with_reducible first | exact HK.out | apply KeepBut.set_ | apply keep_drewN | apply keep_drew | apply keep_alloc | refine keep_far ?_ GW211.out _ | refine keep_far ?_ GW230.out _) | exact HK.out)) (KeepBut.of_below hb g none) (.inl rfl)); replace HB := asd (below_step (by repeat (first | (with_reducible first | exact HB.out | apply below_alloc | apply pw_below_drewN | apply below_drew1 | refine below_set ?_ (IsS67.ge HI0.out) | refine below_set ?_ GE211.out | refine below_set ?_ GE230.out) | exact HB.out)) hb); replace HI0 := asd (IsS67.below (by repeat (first | (with_reducible first | exact HI0.out | apply IsS67.alloc | apply IsS67.drewN | apply IsS67.drew | apply IsS67.set_1 | apply IsS67.set_2 | refine IsS67.far ?_ NB0_211.out _ | refine IsS67.far ?_ NB0_230.out _) | exact HI0.out)) hb); clear hb ho142; obtain ⟨Ao143, co143, eo143⟩ := Kd.R_slice HO276.out; subst eo143) | ((with_reducible refine gate_callee (f := 37) rfl ?_); refine gl 113 Tryd.func37 #[.pointer (some ⟨g, 0, none⟩), .slice Ao143 y274.length co143] ?_; (with_reducible refine (spec_l01Pick.calls _ _ _ _ _ _ _ _ _ _ w0 _ ?side1 ?side2 ?side3 ?side4 ?side5 A136.out).mono ?_); (case side1 => repeat (first | (with_reducible first | exact HI0.out | apply IsS67.alloc | apply IsS67.drewN | apply IsS67.drew | apply IsS67.set_1 | apply IsS67.set_2 | refine IsS67.far ?_ NB0_211.out _ | refine IsS67.far ?_ NB0_230.out _) | exact HI0.out)); (case side2 => repeat (first | (with_reducible first | exact HB.out | apply below_alloc | apply pw_below_drewN | apply below_drew1 | refine below_set ?_ (IsS67.ge HI0.out) | refine below_set ?_ GE211.out | refine below_set ?_ GE230.out) | exact HB.out)); (case side3 => exact ks (Kd.R_reads' HO276.out).2.2); (case side4 => exact (Kd.R_reads' HO276.out).2.1); (case side5 => exact far_slice (IsS67.own_ne HI0.out HO276.out (by decide))); rintro e w144 ⟨rfl, hi, hb, hk⟩; refine ⟨_, rfl, ?_⟩; replace HO_231002 := asd (Kd.R_mono (Kd.R_keep (IsS67.apart (show IsS67 w0 _ g s0_0 t265 t266 from by repeat (first | (with_reducible first | exact HI0.out | apply IsS67.alloc | apply IsS67.drewN | apply IsS67.drew | apply IsS67.set_1 | apply IsS67.set_2 | refine IsS67.far ?_ NB0_211.out _ | refine IsS67.far ?_ NB0_230.out _) | exact HI0.out)) (kr HO_231002) (by decide)) hk (fun _ h => h.2)) (fun _ h => h.1)); replace BK211 := asd (KeepBut.blk hk (g' := gb211) (o := .cells #[.int .i64 0, .int .i64 0, .slice none 0 0] 28 (0, 0)) (bkp BK211) NB211_0.out (by simp)); replace BK230 := asd (KeepBut.blk hk (g' := gb230) (o := .cells #[.int .i64 x231000_73, .int .i64 x231001_73, u231002] 28 (0, 0)) (bkp BK230) NB230_0.out (by simp)); replace HO276 := asd (Kd.R_mono (Kd.R_keep (IsS67.apart (show IsS67 w0 _ g s0_0 t265 t266 from by repeat (first | (with_reducible first | exact HI0.out | apply IsS67.alloc | apply IsS67.drewN | apply IsS67.drew | apply IsS67.set_1 | apply IsS67.set_2 | refine IsS67.far ?_ NB0_211.out _ | refine IsS67.far ?_ NB0_230.out _) | exact HI0.out)) (kr HO276) (by decide)) hk (fun _ h => h.2)) (fun _ h => h.1)); replace HK := asd (KeepBut.trans (by repeat (first | (with_reducible first | exact HK.out | apply KeepBut.set_ | apply keep_drewN | apply keep_drew | apply keep_alloc | refine keep_far ?_ GW211.out _ | refine keep_far ?_ GW230.out _) | exact HK.out)) hk (.inl rfl)); replace HB := asd (hb); replace HI0 := asd (hi); (try clear hb); (try clear hb2); (try clear hk); (try clear hi); obtain ⟨hcz145_0, hcz145_1, hcz145_2, hfz145_0, hfz145_1, hfz145_2⟩ := bz3 BK230; have hnb146 := NB211_0.out; have hnc146 := NB0_211.out; obtain ⟨hcz147_0, hcz147_1, hcz147_2, hfz147_0, hfz147_1, hfz147_2⟩ := bz3 BK211; obtain ⟨Ao148, co148, eo148⟩ := Kd.R_slice HO_231002.out; subst eo148))
           refine bodyPost_ret (results_cell_row rfl _ _ gb211 28 #[.int .i64 x231000_73, .int .i64 t277, .slice Ao148 x231002_73.length co148] (0, 0) _ rfl (bq1 BK211 NB211_230) Tryd.underlying28 rfl (by kernel_rfl)) rfl ?_
           exact ⟨_, by first | rfl | (simp [errW_none, errW_some] <;> rfl) | (simp [*, errW_none, errW_some] <;> rfl), by (with_reducible repeat (first | apply Kd.R_alloc | apply Kd.R_drewN | apply Kd.R_drew)); exact Kd.R_mono (rw3 (Kd.R_far (p := ⟨gb230, 1, none⟩) (Kd.R_types (Kd.R_types HO_231002.out BK230.out (by decide)) BK211.out (by decide)) (fun _ hk => hk.1.2) (.int .i64 t277))) (fun _ hk => trivial), by repeat (first | (with_reducible first | exact HI0.out | apply IsS67.alloc | apply IsS67.drewN | apply IsS67.drew | apply IsS67.set_1 | apply IsS67.set_2 | refine IsS67.far ?_ NB0_211.out _ | refine IsS67.far ?_ NB0_230.out _) | exact HI0.out), by repeat (first | (with_reducible first | exact HB.out | apply below_alloc | apply pw_below_drewN | apply below_drew1 | refine below_set ?_ (IsS67.ge HI0.out) | refine below_set ?_ GE211.out | refine below_set ?_ GE230.out) | exact HB.out), by repeat (first | (with_reducible first | exact HK.out | apply KeepBut.set_ | apply keep_drewN | apply keep_drew | apply keep_alloc | refine keep_far ?_ GW211.out _ | refine keep_far ?_ GW230.out _) | exact HK.out)⟩
          ·go_wp2_with (first | ((with_reducible refine gate_callee (f := 25) rfl ?_); refine gl 97 Tryd.func25 #[.pointer (some ⟨g, 0, none⟩), .int .i64 60] ?_; (with_reducible refine (spec_l01Next.calls _ _ _ _ _ _ _ _ w0 _ ?side1 ?side2 A117.out).mono ?_); (case side1 => repeat (first | (with_reducible first | exact HI0.out | apply IsS67.alloc | apply IsS67.drewN | apply IsS67.drew | apply IsS67.set_1 | apply IsS67.set_2 | refine IsS67.far ?_ NB0_211.out _ | refine IsS67.far ?_ NB0_230.out _) | exact HI0.out)); (case side2 => repeat (first | (with_reducible first | exact HB.out | apply below_alloc | apply pw_below_drewN | apply below_drew1 | refine below_set ?_ (IsS67.ge HI0.out) | refine below_set ?_ GE211.out | refine below_set ?_ GE230.out) | exact HB.out)); rintro e w149 ⟨rfl, hi, hb, hk⟩; refine ⟨_, rfl, ?_⟩; replace HO_231002 := asd (Kd.R_mono (Kd.R_keep (IsS67.apart (show IsS67 w0 _ g s0_0 x1001_65 x1002_65 from by repeat (first | (with_reducible first | exact HI0.out | apply IsS67.alloc | apply IsS67.drewN | apply IsS67.drew | apply IsS67.set_1 | apply IsS67.set_2 | refine IsS67.far ?_ NB0_211.out _ | refine IsS67.far ?_ NB0_230.out _) | exact HI0.out)) (kr HO_231002) (by decide)) hk (fun _ h => h.2)) (fun _ h => h.1)); replace BK211 := asd (KeepBut.blk hk (g' := gb211) (o := .cells #[.int .i64 0, .int .i64 0, .slice none 0 0] 28 (0, 0)) (bkp BK211) NB211_0.out (by simp)); replace BK230 := asd (KeepBut.blk hk (g' := gb230) (o := .cells #[.int .i64 x231000_73, .int .i64 x231001_73, u231002] 28 (0, 0)) (bkp BK230) NB230_0.out (by simp)); replace HK := asd (KeepBut.trans (by repeat (first | (with_reducible first | exact HK.out | apply KeepBut.set_ | apply keep_drewN | apply keep_drew | apply keep_alloc | refine keep_far ?_ GW211.out _ | refine keep_far ?_ GW230.out _) | exact HK.out)) hk (.inl rfl)); replace HB := asd (hb); replace HI0 := asd (hi); (try clear hb); (try clear hb2); (try clear hk); (try clear hi); have hnb150 := NB230_211.out; have hnc150 := NB211_230.out; have hnb151 := NB230_0.out; have hnc151 := NB0_230.out; obtain ⟨hcz152_0, hcz152_1, hcz152_2, hfz152_0, hfz152_1, hfz152_2⟩ := bz3 BK230; have hnb153 := NB211_0.out; have hnc153 := NB0_211.out; obtain ⟨hcz154_0, hcz154_1, hcz154_2, hfz154_0, hfz154_1, hfz154_2⟩ := bz3 BK211; obtain ⟨Ao155, co155, eo155⟩ := Kd.R_slice HO_231002.out; subst eo155))
           refine bodyPost_ret (results_cell_row rfl _ _ gb211 28 #[.int .i64 x231000_73, .int .i64 x231001_73, .slice Ao155 x231002_73.length co155] (0, 0) _ rfl (bq0 BK211) Tryd.underlying28 rfl (by kernel_rfl)) rfl ?_
           exact ⟨_, by first | rfl | (simp [errW_none, errW_some] <;> rfl) | (simp [*, errW_none, errW_some] <;> rfl), by (with_reducible repeat (first | apply Kd.R_alloc | apply Kd.R_drewN | apply Kd.R_drew)); exact Kd.R_mono (rw3 (Kd.R_types HO_231002.out BK211.out (by decide))) (fun _ hk => trivial), by repeat (first | (with_reducible first | exact HI0.out | apply IsS67.alloc | apply IsS67.drewN | apply IsS67.drew | apply IsS67.set_1 | apply IsS67.set_2 | refine IsS67.far ?_ NB0_211.out _ | refine IsS67.far ?_ NB0_230.out _) | exact HI0.out), by repeat (first | (with_reducible first | exact HB.out | apply below_alloc | apply pw_below_drewN | apply below_drew1 | refine below_set ?_ (IsS67.ge HI0.out) | refine below_set ?_ GE211.out | refine below_set ?_ GE230.out) | exact HB.out), by repeat (first | (with_reducible first | exact HK.out | apply KeepBut.set_ | apply keep_drewN | apply keep_drew | apply keep_alloc | refine keep_far ?_ GW211.out _ | refine keep_far ?_ GW230.out _) | exact HK.out)⟩

end Go.Proofs.YtnblfcibgokccaaDoor.PG
