/- Walks written by program: each Go function that the law reaches comes to the plain function beside it. -/
import Derived.Test.YtnblfcibgokccaaDoorPGx0
import Derived.Test.YtnblfcibgokccaaDoorPGx1
import Derived.Test.YtnblfcibgokccaaDoorPGx3
namespace Go.Proofs.YtnblfcibgokccaaDoor.PG
open Go.RowKit Go.Proofs.YtnblfcibgokccaaDoorW.PrintWords Go.Proofs.YtnblfcibgokccaaDoorW.PrintLast Go.Proofs.YtnblfcibgokccaaDoorW.PrintMore
attribute [local go_sem] max2_int min2_int max_two min_two max_three min_three max_four min_four   -- for this text's walks alone
set_option linter.unusedVariables false
set_option linter.unusedSimpArgs false

/-! ### spec_l08DrawName: function 39 -/
def spec_l08DrawName.f (s0_0 : List Int) (s0_1 : Int) (s0_2 : Int) : Option (ByteArray × Int × Int) := (spec_l01Next.f s0_0 s0_1 s0_2 30).bind fun bt198 => (if bt198.1 = 0 then (some ((⟨#[112, 51]⟩ : ByteArray), bt198.2.1, bt198.2.2)) else ((some (([(⟨#[112, 49]⟩ : ByteArray), (⟨#[112, 49, 49, 109]⟩ : ByteArray), (⟨#[112, 49, 109, 49]⟩ : ByteArray), (⟨#[112, 50]⟩ : ByteArray), (⟨#[112, 49, 49, 103]⟩ : ByteArray), (⟨#[112, 50, 109, 103]⟩ : ByteArray), (⟨#[112, 50, 109, 109]⟩ : ByteArray)] : List ByteArray) : List ByteArray)).bind fun y201 => ((spec_l01Next.f s0_0 bt198.2.1 bt198.2.2 7).bind fun bt204 => (if 0 ≤ bt204.1 then (if bt204.1 < (y201.length : Int) then (some (rdOf ByteArray.empty y201 bt204.1, bt204.2.1, bt204.2.2)) else (none)) else (none)))))
set_option maxHeartbeats 8000000 in
set_option maxRecDepth 100000 in
theorem spec_l08DrawName.calls (g : Nat) (s0_0 : List Int) (s0_1 : Int) (s0_2 : Int) (r1 : ByteArray) (r2 : Int) (r3 : Int) (w0 w : World) (hI : IsS67 w0 w g s0_0 s0_1 s0_2) (hB : Below w0.heap.size w0 w) (h : spec_l08DrawName.f s0_0 s0_1 s0_2 = some (r1, r2, r3)) :
  Calls Tryd.prog 39 #[.pointer (some ⟨g, 0, none⟩)] w fun e w' => e = .returned (.string r1) ∧ IsS67 w0 w' g s0_0 r2 r3 ∧ Below w0.heap.size w0 w' ∧ KeepBut w w' g none := by
 have HI0 := Aside0.mk hI
 have HK := asd (KeepBut.refl w g none)
 have HL := Aside0.mk hB.size
 clear hI
 have HW0 := Aside0.mk hB.size
 have HB := Aside0.mk hB
 clear hB
 have H : ((spec_l01Next.f s0_0 s0_1 s0_2 30).bind fun bt198 => (if bt198.1 = 0 then (some ((⟨#[112, 51]⟩ : ByteArray), bt198.2.1, bt198.2.2)) else ((some (([(⟨#[112, 49]⟩ : ByteArray), (⟨#[112, 49, 49, 109]⟩ : ByteArray), (⟨#[112, 49, 109, 49]⟩ : ByteArray), (⟨#[112, 50]⟩ : ByteArray), (⟨#[112, 49, 49, 103]⟩ : ByteArray), (⟨#[112, 50, 109, 103]⟩ : ByteArray), (⟨#[112, 50, 109, 109]⟩ : ByteArray)] : List ByteArray) : List ByteArray)).bind fun y201 => ((spec_l01Next.f s0_0 bt198.2.1 bt198.2.2 7).bind fun bt204 => (if 0 ≤ bt204.1 then (if bt204.1 < (y201.length : Int) then (some (rdOf ByteArray.empty y201 bt204.1, bt204.2.1, bt204.2.2)) else (none)) else (none)))))) = some (r1, r2, r3) := h
 clear h
 obtain ⟨⟨t198, t199, t200⟩, A2, H⟩ := ob H
 try dsimp only at H
 by_cases c3 : t198 = 0
 rw [if_pos c3] at H
 have c3b0 : (t198 == 0) = true := beq_iff_eq.mpr c3
 have c3b1 : (t198 != 0) = false := bne_eq_false_iff_eq.mpr c3
 clear c3
 rotate_left
 rw [if_neg c3] at H
 have c3b0 : (t198 == 0) = false := beq_eq_false_iff_ne.mpr c3
 have c3b1 : (t198 != 0) = true := bne_iff_ne.mpr c3
 obtain ⟨y201, hy201⟩ : ∃ y_ : List ByteArray, y_ = (([(⟨#[112, 49]⟩ : ByteArray), (⟨#[112, 49, 49, 109]⟩ : ByteArray), (⟨#[112, 49, 109, 49]⟩ : ByteArray), (⟨#[112, 50]⟩ : ByteArray), (⟨#[112, 49, 49, 103]⟩ : ByteArray), (⟨#[112, 50, 109, 103]⟩ : ByteArray), (⟨#[112, 50, 109, 109]⟩ : ByteArray)] : List ByteArray)) := ⟨_, rfl⟩
 replace H : ((spec_l01Next.f s0_0 t199 t200 7).bind fun bt204 => (if 0 ≤ bt204.1 then (if bt204.1 < (y201.length : Int) then (some (rdOf ByteArray.empty y201 bt204.1, bt204.2.1, bt204.2.2)) else (none)) else (none))) = some (r1, r2, r3) := by first | (rw [hy201]; with_reducible exact H) | (have H2_ := (Option.bind_some _ _).symm.trans H; rw [hy201]; with_reducible exact H2_) | (have H2_ := (Option.bind_some _ _).symm.trans H; with_reducible exact H2_) | with_reducible exact H | (rw [hy201]; exact H) | exact H
 have Ny201 := Aside0.mk hy201
 clear hy201
 obtain ⟨⟨t204, t205, t206⟩, A5, H⟩ := ob H
 try dsimp only at H
 by_cases c6 : 0 ≤ t204
 rw [if_pos c6] at H
 have c6b0 := decide_eq_true c6
 clear c6
 by_cases c7 : t204 < (y201.length : Int)
 rw [if_pos c7] at H
 have c7b0 := decide_eq_true c7
 clear c7
 rotate_left
 ·rw [if_neg c7] at H
  exact absurd H (by simp)
 ·rw [if_neg c6] at H
  exact absurd H (by simp)
 all_goals
  simp only [Option.some.injEq, Prod.mk.injEq] at H
  obtain ⟨rfl, rfl, rfl⟩ := H
  go_enter Tryd.func39, Tryd.ntmps39
  go_wp2_with (first | ((with_reducible refine gate_callee (f := 25) rfl ?_); refine gl 4 Tryd.func25 #[.pointer (some ⟨g, 0, none⟩), .int .i64 30] ?_; (with_reducible refine (spec_l01Next.calls _ _ _ _ _ _ _ _ w0 _ ?side1 ?side2 A2.out).mono ?_); (case side1 => repeat (first | (with_reducible first | exact HI0.out | apply IsS67.alloc | apply IsS67.drewN | apply IsS67.drew | apply IsS67.set_1 | apply IsS67.set_2) | exact HI0.out)); (case side2 => repeat (first | (with_reducible first | exact HB.out | apply below_alloc | apply pw_below_drewN | apply below_drew1 | refine below_set ?_ (IsS67.ge HI0.out)) | exact HB.out)); rintro e w4 ⟨rfl, hi, hb, hk⟩; refine ⟨_, rfl, ?_⟩; replace HK := asd (KeepBut.trans (by repeat (first | (with_reducible first | exact HK.out | apply KeepBut.set_ | apply keep_drewN | apply keep_drew | apply keep_alloc) | exact HK.out)) hk (.inl rfl)); replace HB := asd (hb); replace HI0 := asd (hi); (try clear hb); (try clear hb2); (try clear hk); (try clear hi)) | ((with_reducible refine gd 6 rfl ?_); refine Kd.R_lit Kd.string _ 9 ?hg (N := 6) ?hd (xs := ([(⟨#[112, 49]⟩ : ByteArray), (⟨#[112, 49, 49, 109]⟩ : ByteArray), (⟨#[112, 49, 109, 49]⟩ : ByteArray), (⟨#[112, 50]⟩ : ByteArray), (⟨#[112, 49, 49, 103]⟩ : ByteArray), (⟨#[112, 50, 109, 103]⟩ : ByteArray), (⟨#[112, 50, 109, 109]⟩ : ByteArray)] : List ByteArray)) (inner := [.string (⟨#[112, 49]⟩ : ByteArray), .string (⟨#[112, 49, 49, 109]⟩ : ByteArray), .string (⟨#[112, 49, 109, 49]⟩ : ByteArray), .string (⟨#[112, 50]⟩ : ByteArray), .string (⟨#[112, 49, 49, 103]⟩ : ByteArray), .string (⟨#[112, 50, 109, 103]⟩ : ByteArray), .string (⟨#[112, 50, 109, 109]⟩ : ByteArray)]) (ok := fun _ => True) (okp := fun _ => True) ?hr ?hp (fun _ hk => hk) trivial (Below.refl _ _) (Nat.le_refl _) (by simp) ?_; (case hd => rfl); (case hg => rfl); (case hr => first | (go_simp; done) | (go_simp; rfl)); (case hp => exact (Reps.one (show Kd.M Kd.string _ _ _ (⟨#[112, 49]⟩ : ByteArray) [.string (⟨#[112, 49]⟩ : ByteArray)] from rfl) (Reps.one (show Kd.M Kd.string _ _ _ (⟨#[112, 49, 49, 109]⟩ : ByteArray) [.string (⟨#[112, 49, 49, 109]⟩ : ByteArray)] from rfl) (Reps.one (show Kd.M Kd.string _ _ _ (⟨#[112, 49, 109, 49]⟩ : ByteArray) [.string (⟨#[112, 49, 109, 49]⟩ : ByteArray)] from rfl) (Reps.one (show Kd.M Kd.string _ _ _ (⟨#[112, 50]⟩ : ByteArray) [.string (⟨#[112, 50]⟩ : ByteArray)] from rfl) (Reps.one (show Kd.M Kd.string _ _ _ (⟨#[112, 49, 49, 103]⟩ : ByteArray) [.string (⟨#[112, 49, 49, 103]⟩ : ByteArray)] from rfl) (Reps.one (show Kd.M Kd.string _ _ _ (⟨#[112, 50, 109, 103]⟩ : ByteArray) [.string (⟨#[112, 50, 109, 103]⟩ : ByteArray)] from rfl) (Reps.one (show Kd.M Kd.string _ _ _ (⟨#[112, 50, 109, 109]⟩ : ByteArray) [.string (⟨#[112, 50, 109, 109]⟩ : ByteArray)] from rfl) (Reps.none _ _))))))))); intro v202 w9 ho10 hb hg_ hnew_; clear hg_ hnew_; (first | rw [← Ny201.out] at ho10 | (simp only [Int.reduceToNat] at ho10; rw [← Ny201.out] at ho10)); have HO203 := asd (Kd.R_lower ho10 (keep_size (w := w) (g := g) (row := none) (by repeat (first | (with_reducible first | exact HK.out | apply KeepBut.set_ | apply keep_drewN | apply keep_drew | apply keep_alloc) | exact HK.out)))); replace HK := asd (KeepBut.trans (by repeat (first | (with_reducible first | exact HK.out | apply KeepBut.set_ | apply keep_drewN | apply keep_drew | apply keep_alloc) | exact HK.out)) (KeepBut.of_below hb g none) (.inl rfl)); replace HB := asd (below_step (by repeat (first | (with_reducible first | exact HB.out | apply below_alloc | apply pw_below_drewN | apply below_drew1 | refine below_set ?_ (IsS67.ge HI0.out)) | exact HB.out)) hb); replace HI0 := asd (IsS67.below (by repeat (first | (with_reducible first | exact HI0.out | apply IsS67.alloc | apply IsS67.drewN | apply IsS67.drew | apply IsS67.set_1 | apply IsS67.set_2) | exact HI0.out)) hb); clear hb ho10) | ((with_reducible refine gate_callee (f := 25) rfl ?_); refine gl 8 Tryd.func25 #[.pointer (some ⟨g, 0, none⟩), .int .i64 7] ?_; (with_reducible refine (spec_l01Next.calls _ _ _ _ _ _ _ _ w0 _ ?side1 ?side2 A5.out).mono ?_); (case side1 => repeat (first | (with_reducible first | exact HI0.out | apply IsS67.alloc | apply IsS67.drewN | apply IsS67.drew | apply IsS67.set_1 | apply IsS67.set_2) | exact HI0.out)); (case side2 => repeat (first | (with_reducible first | exact HB.out | apply below_alloc | apply pw_below_drewN | apply below_drew1 | refine below_set ?_ (IsS67.ge HI0.out)) | exact HB.out)); rintro e w11 ⟨rfl, hi, hb, hk⟩; refine ⟨_, rfl, ?_⟩; replace HO203 := asd (Kd.R_mono (Kd.R_keep (IsS67.apart (show IsS67 w0 _ g s0_0 t199 t200 from by repeat (first | (with_reducible first | exact HI0.out | apply IsS67.alloc | apply IsS67.drewN | apply IsS67.drew | apply IsS67.set_1 | apply IsS67.set_2) | exact HI0.out)) (kr HO203) (by decide)) hk (fun _ h => h.2)) (fun _ h => h.1)); replace HK := asd (KeepBut.trans (by repeat (first | (with_reducible first | exact HK.out | apply KeepBut.set_ | apply keep_drewN | apply keep_drew | apply keep_alloc) | exact HK.out)) hk (.inl rfl)); replace HB := asd (hb); replace HI0 := asd (hi); (try clear hb); (try clear hb2); (try clear hk); (try clear hi); obtain ⟨Ao12, co12, eo12⟩ := Kd.R_slice HO203.out; subst eo12; have p207 : 0 ≤ (t204 : Int) := od; have q207 : t204 < (y201.length : Int) := od; obtain ⟨ad207, e207, hx207_0⟩ := Kd.at_string (Kd.R_reads' HO203.out).2.2 t204 p207 q207; cases e207; replace p207 := eq_true p207; replace q207 := eq_true q207))
  go_ret
  exact ⟨by first | rfl | (simp [errW_none, errW_some] <;> rfl) | (simp [*, errW_none, errW_some] <;> rfl), by repeat (first | (with_reducible first | exact HI0.out | apply IsS67.alloc | apply IsS67.drewN | apply IsS67.drew | apply IsS67.set_1 | apply IsS67.set_2) | exact HI0.out), by repeat (first | (with_reducible first | exact HB.out | apply below_alloc | apply pw_below_drewN | apply below_drew1 | refine below_set ?_ (IsS67.ge HI0.out)) | exact HB.out), by repeat (first | (with_reducible first | exact HK.out | apply KeepBut.set_ | apply keep_drewN | apply keep_drew | apply keep_alloc) | exact HK.out)⟩
/-! ### spec_l08At: function 40 -/
def spec_l08At.f (a0_0 : Int) (a0_1 : Int) (l0_2 : List Int) (a1 : Int) (a2 : Int) : Option (Int) := (spec_l01Mod.f a1 a0_1).bind fun t209 => (if 0 ≤ (wrap64 ((wrap64 (a2 * a0_1)) + t209)) then (if (wrap64 ((wrap64 (a2 * a0_1)) + t209)) < (l0_2.length : Int) then (some (rd l0_2 (wrap64 ((wrap64 (a2 * a0_1)) + t209)))) else (none)) else (none))
set_option maxHeartbeats 8000000 in
set_option maxRecDepth 100000 in
theorem spec_l08At.calls (a0_0 : Int) (a0_1 : Int) (A0_2 : Option Addr) (c0_2 : Nat) (l0_2 : List Int) (a1 : Int) (a2 : Int) (r : Int) (w : World) (hr0_2 : Kd.C (Kd.int .i64) w A0_2 l0_2.length l0_2) (hc0_2 : l0_2.length ≤ c0_2) (h : spec_l08At.f a0_0 a0_1 l0_2 a1 a2 = some r) :
  Calls Tryd.prog 40 #[.agg #[.int .i64 a0_0, .int .i64 a0_1, .slice A0_2 l0_2.length c0_2], .int .i64 a1, .int .i64 a2] w fun e w' => e = .returned (.int .i64 r) ∧ Below w.heap.size w w' := by
 have hu28 := Tryd.underlying28
 have HR0_2 := Aside0.mk hr0_2
 have HC0_2 := Aside0.mk hc0_2
 clear hr0_2 hc0_2
 have HB := asd (Below.refl w.heap.size w)
 have H : ((spec_l01Mod.f a1 a0_1).bind fun t209 => (if 0 ≤ (wrap64 ((wrap64 (a2 * a0_1)) + t209)) then (if (wrap64 ((wrap64 (a2 * a0_1)) + t209)) < (l0_2.length : Int) then (some (rd l0_2 (wrap64 ((wrap64 (a2 * a0_1)) + t209)))) else (none)) else (none))) = some r := h
 clear h
 obtain ⟨t209, A4, H⟩ := ob H
 try dsimp only at H
 obtain ⟨ji5, hji5⟩ : ∃ j_ : Int, (wrap64 ((wrap64 (a2 * a0_1)) + t209)) = j_ := ⟨_, rfl⟩
 replace H : (if 0 ≤ (ji5) then (if (ji5) < (l0_2.length : Int) then (some (rd l0_2 (ji5))) else (none)) else (none)) = some r := by first | (rw [hji5] at H; first | done | exact H) | (simp only [hji5] at H ⊢; exact H)
 (try rw [hji5] at A4)
 have hji5w : (IntKind.i64.wrap ((wrap64 (a2 * a0_1)) + t209)) = ji5 := (i64_w _).trans hji5
 have hji5x : (IntKind.i64.wrap ((IntKind.i64.wrap (a2 * a0_1)) + t209)) = ji5 := by simp only [i64_w]; exact hji5
 by_cases c6 : 0 ≤ (ji5)
 ·rw [if_pos c6] at H
  have c6b0 := decide_eq_true c6
  clear c6
  by_cases c7 : (ji5) < (l0_2.length : Int)
  ·rw [if_pos c7] at H
   have c7b0 := decide_eq_true c7
   clear c7
   obtain rfl := Option.some.inj H
   go_enter Tryd.func40, Tryd.ntmps40
   go_wp2_with (first | ((with_reducible refine gd 3 rfl ?_); refine bx #[.int .i64 a0_0, .int .i64 a0_1, .slice A0_2 l0_2.length c0_2] 28 ?_; intro gb208 hg w8 BK208 hb; have GE208 := ngw0 hg HB; replace HB := bS0 HB hb; clear hb hg; obtain ⟨hcz9_0, hcz9_1, hcz9_2, hfz9_0, hfz9_1, hfz9_2⟩ := bz3 BK208) | (go_at_call 51; (with_reducible refine (spec_l01Mod.calls _ _ _ _ A4.out).mono ?_); rintro e w' ⟨rfl, ⟨nd, rfl⟩⟩; (try first | exact ⟨rfl, _, World.drewN_drewN _ _ _⟩ | exact ⟨rfl, _, Eq.trans (World.drewN_drewN _ _ _) (congrArg (World.drewN _) (Nat.add_assoc _ _ _))⟩); have p210 : 0 ≤ ((ji5) : Int) := od; have q210 : (ji5) < (l0_2.length : Int) := od; obtain ⟨ad210, e210, hx210_0⟩ := Kd.at_int HR0_2.out (ji5) p210 q210; cases e210; replace hx210_0 := xb HB hx210_0; replace p210 := eq_true p210; replace q210 := eq_true q210))
   repeat (go_quiet (first | ((with_reducible refine gd 3 rfl ?_); refine bx #[.int .i64 a0_0, .int .i64 a0_1, .slice A0_2 l0_2.length c0_2] 28 ?_; intro gb208 hg w8 BK208 hb; have GE208 := ngw0 hg HB; replace HB := bS0 HB hb; clear hb hg; obtain ⟨hcz9_0, hcz9_1, hcz9_2, hfz9_0, hfz9_1, hfz9_2⟩ := bz3 BK208) | (go_at_call 51; (with_reducible refine (spec_l01Mod.calls _ _ _ _ A4.out).mono ?_); rintro e w' ⟨rfl, ⟨nd, rfl⟩⟩; (try first | exact ⟨rfl, _, World.drewN_drewN _ _ _⟩ | exact ⟨rfl, _, Eq.trans (World.drewN_drewN _ _ _) (congrArg (World.drewN _) (Nat.add_assoc _ _ _))⟩); have p210 : 0 ≤ ((ji5) : Int) := od; have q210 : (ji5) < (l0_2.length : Int) := od; obtain ⟨ad210, e210, hx210_0⟩ := Kd.at_int HR0_2.out (ji5) p210 q210; cases e210; replace hx210_0 := xb HB hx210_0; replace p210 := eq_true p210; replace q210 := eq_true q210)); try go_wp2_with (first | ((with_reducible refine gd 3 rfl ?_); refine bx #[.int .i64 a0_0, .int .i64 a0_1, .slice A0_2 l0_2.length c0_2] 28 ?_; intro gb208 hg w8 BK208 hb; have GE208 := ngw0 hg HB; replace HB := bS0 HB hb; clear hb hg; obtain ⟨hcz9_0, hcz9_1, hcz9_2, hfz9_0, hfz9_1, hfz9_2⟩ := bz3 BK208) | (go_at_call 51; (with_reducible refine (spec_l01Mod.calls _ _ _ _ A4.out).mono ?_); rintro e w' ⟨rfl, ⟨nd, rfl⟩⟩; (try first | exact ⟨rfl, _, World.drewN_drewN _ _ _⟩ | exact ⟨rfl, _, Eq.trans (World.drewN_drewN _ _ _) (congrArg (World.drewN _) (Nat.add_assoc _ _ _))⟩); have p210 : 0 ≤ ((ji5) : Int) := od; have q210 : (ji5) < (l0_2.length : Int) := od; obtain ⟨ad210, e210, hx210_0⟩ := Kd.at_int HR0_2.out (ji5) p210 q210; cases e210; replace hx210_0 := xb HB hx210_0; replace p210 := eq_true p210; replace q210 := eq_true q210)))
   go_ret
   exact ⟨by first | rfl | (simp [errW_none, errW_some] <;> rfl) | (simp only [← hji5]; first | rfl | (simp [errW_none, errW_some] <;> rfl)) | (simp [*, errW_none, errW_some] <;> rfl), bbw1 HB GE208⟩
  ·rw [if_neg c7] at H
   exact absurd H (by simp)
 ·rw [if_neg c6] at H
  exact absurd H (by simp)

end Go.Proofs.YtnblfcibgokccaaDoor.PG
