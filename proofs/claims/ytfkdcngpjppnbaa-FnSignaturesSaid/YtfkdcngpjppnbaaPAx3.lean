/- Walks written by program: each Go function that the law reaches comes to the plain function beside it. -/
import Derived.Test.YtfkdcngpjppnbaaPAx0
import Derived.Test.YtfkdcngpjppnbaaPAx2
namespace Go.Proofs.Ytfkdcngpjppnbaa.PA
open Go.RowKit Go.Proofs.YtfkdcngpjppnbaaW.PrintWords Go.Proofs.YtfkdcngpjppnbaaW.PrintLast Go.Proofs.YtfkdcngpjppnbaaW.PrintMore
attribute [local go_sem] max2_int min2_int max_two min_two max_three min_three max_four min_four   -- for this text's walks alone
set_option linter.unusedVariables false
set_option linter.unusedSimpArgs false

/-! ### spec_l12Draw: function 26 -/
def spec_l12Draw.f (s0_0 : List Int) (s0_1 : Int) (s0_2 : Int) : Option (ByteArray × Int × Int) := (spec_l01Next.f s0_0 s0_1 s0_2 24).bind fun bt106 => (if bt106.1 = 0 then ((some (([(⟨#[]⟩ : ByteArray), (⟨#[112, 53]⟩ : ByteArray), (⟨#[80, 52]⟩ : ByteArray), (⟨#[112, 52, 32]⟩ : ByteArray)] : List ByteArray) : List ByteArray)).bind fun y109 => ((spec_l01Next.f s0_0 bt106.2.1 bt106.2.2 4).bind fun bt112 => (if 0 ≤ bt112.1 then (if bt112.1 < (y109.length : Int) then (some (rdOf ByteArray.empty y109 bt112.1, bt112.2.1, bt112.2.2)) else (none)) else (none)))) else ((spec_GroupNames.f).bind fun t116 => ((spec_l01Next.f s0_0 bt106.2.1 bt106.2.2 17).bind fun bt119 => (if 0 ≤ bt119.1 then (if bt119.1 < (t116.length : Int) then (some (rdOf ByteArray.empty t116 bt119.1, bt119.2.1, bt119.2.2)) else (none)) else (none)))))
set_option maxHeartbeats 8000000 in
set_option maxRecDepth 100000 in
theorem spec_l12Draw.calls (g : Nat) (s0_0 : List Int) (s0_1 : Int) (s0_2 : Int) (r1 : ByteArray) (r2 : Int) (r3 : Int) (w0 w : World) (hI : IsS62 w0 w g s0_0 s0_1 s0_2) (hB : Below w0.heap.size w0 w) (h : spec_l12Draw.f s0_0 s0_1 s0_2 = some (r1, r2, r3)) :
  Calls Try.prog 26 #[.pointer (some ⟨g, 0, none⟩)] w fun e w' => e = .returned (.string r1) ∧ IsS62 w0 w' g s0_0 r2 r3 ∧ Below w0.heap.size w0 w' ∧ KeepBut w w' g none := by
 have HI0 := Aside0.mk hI
 have HK := asd (KeepBut.refl w g none)
 have HL := Aside0.mk hB.size
 clear hI
 have HW0 := Aside0.mk hB.size
 have HB := Aside0.mk hB
 clear hB
 have H : ((spec_l01Next.f s0_0 s0_1 s0_2 24).bind fun bt106 => (if bt106.1 = 0 then ((some (([(⟨#[]⟩ : ByteArray), (⟨#[112, 53]⟩ : ByteArray), (⟨#[80, 52]⟩ : ByteArray), (⟨#[112, 52, 32]⟩ : ByteArray)] : List ByteArray) : List ByteArray)).bind fun y109 => ((spec_l01Next.f s0_0 bt106.2.1 bt106.2.2 4).bind fun bt112 => (if 0 ≤ bt112.1 then (if bt112.1 < (y109.length : Int) then (some (rdOf ByteArray.empty y109 bt112.1, bt112.2.1, bt112.2.2)) else (none)) else (none)))) else ((spec_GroupNames.f).bind fun t116 => ((spec_l01Next.f s0_0 bt106.2.1 bt106.2.2 17).bind fun bt119 => (if 0 ≤ bt119.1 then (if bt119.1 < (t116.length : Int) then (some (rdOf ByteArray.empty t116 bt119.1, bt119.2.1, bt119.2.2)) else (none)) else (none)))))) = some (r1, r2, r3) := h
 clear h
 obtain ⟨⟨t106, t107, t108⟩, A2, H⟩ := ob H
 try dsimp only at H
 by_cases c3 : t106 = 0
 rw [if_pos c3] at H
 have c3b0 : (t106 == 0) = true := beq_iff_eq.mpr c3
 have c3b1 : (t106 != 0) = false := bne_eq_false_iff_eq.mpr c3
 clear c3
 obtain ⟨y109, hy109⟩ : ∃ y_ : List ByteArray, y_ = (([(⟨#[]⟩ : ByteArray), (⟨#[112, 53]⟩ : ByteArray), (⟨#[80, 52]⟩ : ByteArray), (⟨#[112, 52, 32]⟩ : ByteArray)] : List ByteArray)) := ⟨_, rfl⟩
 replace H : ((spec_l01Next.f s0_0 t107 t108 4).bind fun bt112 => (if 0 ≤ bt112.1 then (if bt112.1 < (y109.length : Int) then (some (rdOf ByteArray.empty y109 bt112.1, bt112.2.1, bt112.2.2)) else (none)) else (none))) = some (r1, r2, r3) := by first | (rw [hy109]; with_reducible exact H) | (have H2_ := (Option.bind_some _ _).symm.trans H; rw [hy109]; with_reducible exact H2_) | (have H2_ := (Option.bind_some _ _).symm.trans H; with_reducible exact H2_) | with_reducible exact H | (rw [hy109]; exact H) | exact H
 have Ny109 := Aside0.mk hy109
 clear hy109
 obtain ⟨⟨t112, t113, t114⟩, A4, H⟩ := ob H
 try dsimp only at H
 by_cases c5 : 0 ≤ t112
 rw [if_pos c5] at H
 have c5b0 := decide_eq_true c5
 clear c5
 by_cases c6 : t112 < (y109.length : Int)
 rw [if_pos c6] at H
 have c6b0 := decide_eq_true c6
 clear c6
 rotate_left
 ·rw [if_neg c6] at H
  exact absurd H (by simp)
 ·rw [if_neg c5] at H
  exact absurd H (by simp)
 rw [if_neg c3] at H
 have c3b0 : (t106 == 0) = false := beq_eq_false_iff_ne.mpr c3
 have c3b1 : (t106 != 0) = true := bne_iff_ne.mpr c3
 obtain ⟨t116, A12, H⟩ := ob H
 try dsimp only at H
 obtain ⟨⟨t119, t120, t121⟩, A13, H⟩ := ob H
 try dsimp only at H
 by_cases c14 : 0 ≤ t119
 rw [if_pos c14] at H
 have c14b0 := decide_eq_true c14
 clear c14
 by_cases c15 : t119 < (t116.length : Int)
 rw [if_pos c15] at H
 have c15b0 := decide_eq_true c15
 clear c15
 rotate_left
 ·rw [if_neg c15] at H
  exact absurd H (by simp)
 ·rw [if_neg c14] at H
  exact absurd H (by simp)
 all_goals
  simp only [Option.some.injEq, Prod.mk.injEq] at H
  obtain ⟨rfl, rfl, rfl⟩ := H
  go_enter Try.func26, Try.ntmps26
  go_wp2_with (first | ((with_reducible refine gate_callee (f := 32) rfl ?_); refine gl 4 Try.func32 #[.pointer (some ⟨g, 0, none⟩), .int .i64 24] ?_; (with_reducible refine (spec_l01Next.calls _ _ _ _ _ _ _ _ w0 _ ?side1 ?side2 A2.out).mono ?_); (case side1 => repeat (first | (with_reducible first | exact HI0.out | apply IsS62.alloc | apply IsS62.drewN | apply IsS62.drew | apply IsS62.set_1 | apply IsS62.set_2) | exact HI0.out)); (case side2 => repeat (first | (with_reducible first | exact HB.out | apply below_alloc | apply pw_below_drewN | apply below_drew1 | refine below_set ?_ (IsS62.ge HI0.out)) | exact HB.out)); rintro e w7 ⟨rfl, hi, hb, hk⟩; refine ⟨_, rfl, ?_⟩; replace HK := asd (KeepBut.trans (by repeat (first | (with_reducible first | exact HK.out | apply KeepBut.set_ | apply keep_drewN | apply keep_drew | apply keep_alloc) | exact HK.out)) hk (.inl rfl)); replace HB := asd (hb); replace HI0 := asd (hi); (try clear hb); (try clear hb2); (try clear hk); (try clear hi)) | ((with_reducible refine gd 6 rfl ?_); refine Kd.R_lit Kd.string _ 9 ?hg (N := 6) ?hd (xs := ([(⟨#[]⟩ : ByteArray), (⟨#[112, 53]⟩ : ByteArray), (⟨#[80, 52]⟩ : ByteArray), (⟨#[112, 52, 32]⟩ : ByteArray)] : List ByteArray)) (inner := [.string (⟨#[]⟩ : ByteArray), .string (⟨#[112, 53]⟩ : ByteArray), .string (⟨#[80, 52]⟩ : ByteArray), .string (⟨#[112, 52, 32]⟩ : ByteArray)]) (ok := fun _ => True) (okp := fun _ => True) ?hr ?hp (fun _ hk => hk) trivial (Below.refl _ _) (Nat.le_refl _) (by simp) ?_; (case hd => rfl); (case hg => rfl); (case hr => first | (go_simp; done) | (go_simp; rfl)); (case hp => exact (Reps.one (show Kd.M Kd.string _ _ _ (⟨#[]⟩ : ByteArray) [.string (⟨#[]⟩ : ByteArray)] from rfl) (Reps.one (show Kd.M Kd.string _ _ _ (⟨#[112, 53]⟩ : ByteArray) [.string (⟨#[112, 53]⟩ : ByteArray)] from rfl) (Reps.one (show Kd.M Kd.string _ _ _ (⟨#[80, 52]⟩ : ByteArray) [.string (⟨#[80, 52]⟩ : ByteArray)] from rfl) (Reps.one (show Kd.M Kd.string _ _ _ (⟨#[112, 52, 32]⟩ : ByteArray) [.string (⟨#[112, 52, 32]⟩ : ByteArray)] from rfl) (Reps.none _ _)))))); intro v110 w8 ho9 hb hg_ hnew_; clear hg_ hnew_; (first | rw [← Ny109.out] at ho9 | (simp only [Int.reduceToNat] at ho9; rw [← Ny109.out] at ho9)); have HO111 := asd (Kd.R_lower ho9 (keep_size (w := w) (g := g) (row := none) (by repeat (first | (with_reducible first | exact HK.out | apply KeepBut.set_ | apply keep_drewN | apply keep_drew | apply keep_alloc) | exact HK.out)))); replace HK := asd (KeepBut.trans (by repeat (first | (with_reducible first | exact HK.out | apply KeepBut.set_ | apply keep_drewN | apply keep_drew | apply keep_alloc) | exact HK.out)) (KeepBut.of_below hb g none) (.inl rfl)); replace HB := asd (below_step (by repeat (first | (with_reducible first | exact HB.out | apply below_alloc | apply pw_below_drewN | apply below_drew1 | refine below_set ?_ (IsS62.ge HI0.out)) | exact HB.out)) hb); replace HI0 := asd (IsS62.below (by repeat (first | (with_reducible first | exact HI0.out | apply IsS62.alloc | apply IsS62.drewN | apply IsS62.drew | apply IsS62.set_1 | apply IsS62.set_2) | exact HI0.out)) hb); clear hb ho9) | ((with_reducible refine gate_callee (f := 32) rfl ?_); refine gl 8 Try.func32 #[.pointer (some ⟨g, 0, none⟩), .int .i64 4] ?_; (with_reducible refine (spec_l01Next.calls _ _ _ _ _ _ _ _ w0 _ ?side1 ?side2 A4.out).mono ?_); (case side1 => repeat (first | (with_reducible first | exact HI0.out | apply IsS62.alloc | apply IsS62.drewN | apply IsS62.drew | apply IsS62.set_1 | apply IsS62.set_2) | exact HI0.out)); (case side2 => repeat (first | (with_reducible first | exact HB.out | apply below_alloc | apply pw_below_drewN | apply below_drew1 | refine below_set ?_ (IsS62.ge HI0.out)) | exact HB.out)); rintro e w10 ⟨rfl, hi, hb, hk⟩; refine ⟨_, rfl, ?_⟩; replace HO111 := asd (Kd.R_mono (Kd.R_keep (IsS62.apart (show IsS62 w0 _ g s0_0 t107 t108 from by repeat (first | (with_reducible first | exact HI0.out | apply IsS62.alloc | apply IsS62.drewN | apply IsS62.drew | apply IsS62.set_1 | apply IsS62.set_2) | exact HI0.out)) (kr HO111) (by decide)) hk (fun _ h => h.2)) (fun _ h => h.1)); replace HK := asd (KeepBut.trans (by repeat (first | (with_reducible first | exact HK.out | apply KeepBut.set_ | apply keep_drewN | apply keep_drew | apply keep_alloc) | exact HK.out)) hk (.inl rfl)); replace HB := asd (hb); replace HI0 := asd (hi); (try clear hb); (try clear hb2); (try clear hk); (try clear hi); obtain ⟨Ao11, co11, eo11⟩ := Kd.R_slice HO111.out; subst eo11; have p115 : 0 ≤ (t112 : Int) := od; have q115 : t112 < (y109.length : Int) := od; obtain ⟨ad115, e115, hx115_0⟩ := Kd.at_string (Kd.R_reads' HO111.out).2.2 t112 p115 q115; cases e115; replace p115 := eq_true p115; replace q115 := eq_true q115) | ((with_reducible refine gate_callee (f := 18) rfl ?_); refine gl 11 Try.func18 #[] ?_; (with_reducible refine (spec_GroupNames.calls _ _ A12.out).mono ?_); rintro e w17 ⟨v117, rfl, ho0, hb⟩; refine ⟨_, rfl, ?_⟩; have HO118 := asd (Kd.R_lower ho0 (keep_size (w := w) (g := g) (row := none) (by repeat (first | (with_reducible first | exact HK.out | apply KeepBut.set_ | apply keep_drewN | apply keep_drew | apply keep_alloc) | exact HK.out)))); replace HK := asd (KeepBut.trans (by repeat (first | (with_reducible first | exact HK.out | apply KeepBut.set_ | apply keep_drewN | apply keep_drew | apply keep_alloc) | exact HK.out)) (KeepBut.of_below hb g none) (.inl rfl)); replace HB := asd (below_step (by repeat (first | (with_reducible first | exact HB.out | apply below_alloc | apply pw_below_drewN | apply below_drew1 | refine below_set ?_ (IsS62.ge HI0.out)) | exact HB.out)) hb); replace HI0 := asd (IsS62.below (by repeat (first | (with_reducible first | exact HI0.out | apply IsS62.alloc | apply IsS62.drewN | apply IsS62.drew | apply IsS62.set_1 | apply IsS62.set_2) | exact HI0.out)) hb); (try clear hb); (try clear hb2); (try clear hk); (try clear hi); (try clear ho0)) | ((with_reducible refine gate_callee (f := 32) rfl ?_); refine gl 13 Try.func32 #[.pointer (some ⟨g, 0, none⟩), .int .i64 17] ?_; (with_reducible refine (spec_l01Next.calls _ _ _ _ _ _ _ _ w0 _ ?side1 ?side2 A13.out).mono ?_); (case side1 => repeat (first | (with_reducible first | exact HI0.out | apply IsS62.alloc | apply IsS62.drewN | apply IsS62.drew | apply IsS62.set_1 | apply IsS62.set_2) | exact HI0.out)); (case side2 => repeat (first | (with_reducible first | exact HB.out | apply below_alloc | apply pw_below_drewN | apply below_drew1 | refine below_set ?_ (IsS62.ge HI0.out)) | exact HB.out)); rintro e w18 ⟨rfl, hi, hb, hk⟩; refine ⟨_, rfl, ?_⟩; replace HO118 := asd (Kd.R_mono (Kd.R_keep (IsS62.apart (show IsS62 w0 _ g s0_0 t107 t108 from by repeat (first | (with_reducible first | exact HI0.out | apply IsS62.alloc | apply IsS62.drewN | apply IsS62.drew | apply IsS62.set_1 | apply IsS62.set_2) | exact HI0.out)) (kr HO118) (by decide)) hk (fun _ h => h.2)) (fun _ h => h.1)); replace HK := asd (KeepBut.trans (by repeat (first | (with_reducible first | exact HK.out | apply KeepBut.set_ | apply keep_drewN | apply keep_drew | apply keep_alloc) | exact HK.out)) hk (.inl rfl)); replace HB := asd (hb); replace HI0 := asd (hi); (try clear hb); (try clear hb2); (try clear hk); (try clear hi); obtain ⟨Ao19, co19, eo19⟩ := Kd.R_slice HO118.out; subst eo19; have p122 : 0 ≤ (t119 : Int) := od; have q122 : t119 < (t116.length : Int) := od; obtain ⟨ad122, e122, hx122_0⟩ := Kd.at_string (Kd.R_reads' HO118.out).2.2 t119 p122 q122; cases e122; replace p122 := eq_true p122; replace q122 := eq_true q122))
  go_ret
  exact ⟨by first | rfl | (simp [errW_none, errW_some] <;> rfl) | (simp [*, errW_none, errW_some] <;> rfl), by repeat (first | (with_reducible first | exact HI0.out | apply IsS62.alloc | apply IsS62.drewN | apply IsS62.drew | apply IsS62.set_1 | apply IsS62.set_2) | exact HI0.out), by repeat (first | (with_reducible first | exact HB.out | apply below_alloc | apply pw_below_drewN | apply below_drew1 | refine below_set ?_ (IsS62.ge HI0.out)) | exact HB.out), by repeat (first | (with_reducible first | exact HK.out | apply KeepBut.set_ | apply keep_drewN | apply keep_drew | apply keep_alloc) | exact HK.out)⟩
/-! ### spec_DrawSignatureOf: function 6 -/
def spec_DrawSignatureOf.f (k : Nat) (l0 : List Int) : Option (ByteArray) := (spec_l01From.f k l0).bind fun bt125 => ((spec_l12Draw.f bt125.1 bt125.2.1 bt125.2.2).bind fun bt129 => (some bt129.1))
set_option maxHeartbeats 8000000 in
set_option maxRecDepth 100000 in
theorem spec_DrawSignatureOf.calls (k : Nat) (A0 : Option Addr) (c0 : Nat) (l0 : List Int) (r : ByteArray) (w : World) (hr0 : Kd.C (Kd.int .u8) w A0 l0.length l0) (hc0 : l0.length ≤ c0) (h : spec_DrawSignatureOf.f k l0 = some r) :
  Calls Try.prog 6 #[.slice A0 l0.length c0] w fun e w' => e = .returned (.string r) ∧ Below w.heap.size w w' := by
 have HR0 := Aside0.mk hr0
 have HC0 := Aside0.mk hc0
 clear hr0 hc0
 have HB := asd (Below.refl w.heap.size w)
 have H : ((spec_l01From.f k l0).bind fun bt125 => ((spec_l12Draw.f bt125.1 bt125.2.1 bt125.2.2).bind fun bt129 => (some bt129.1))) = some r := h
 clear h
 obtain ⟨⟨t125, t126, t127⟩, A2, H⟩ := ob H
 try dsimp only at H
 obtain ⟨⟨t129, t130, t131⟩, A3, H⟩ := ob H
 try dsimp only at H
 obtain rfl := Option.some.inj H
 go_enter Try.func6, Try.ntmps6
 go_wp2_with (first | ((with_reducible refine gate_callee (f := 27) rfl ?_); refine gl 4 Try.func27 #[.slice A0 l0.length c0] ?_; (with_reducible refine (spec_l01From.calls _ _ _ _ _ _ _ w _ ?side1 ?side2 ?side3 A2.out).mono ?_); (case side1 => repeat (first | (with_reducible first | exact HB.out | apply below_alloc | apply pw_below_drewN | apply below_drew1) | exact HB.out)); (case side2 => exact HR0.out); (case side3 => exact HC0.out); rintro e w4 ⟨g128, rfl, hi, hb, hb2⟩; refine ⟨_, rfl, ?_⟩; replace HB := asd (hb); have HI128 := asd (hi); (try clear hb); (try clear hb2); (try clear hk); (try clear hi)) | ((with_reducible refine gate_callee (f := 26) rfl ?_); refine gl 5 Try.func26 #[.pointer (some ⟨g128, 0, none⟩)] ?_; (with_reducible refine (spec_l12Draw.calls _ _ _ _ _ _ _ w _ ?side1 ?side2 A3.out).mono ?_); (case side1 => repeat (first | (with_reducible first | exact HI128.out | apply IsS62.alloc | apply IsS62.drewN | apply IsS62.drew | apply IsS62.set_1 | apply IsS62.set_2) | exact HI128.out)); (case side2 => repeat (first | (with_reducible first | exact HB.out | apply below_alloc | apply pw_below_drewN | apply below_drew1 | refine below_set ?_ (IsS62.ge HI128.out)) | exact HB.out)); rintro e w5 ⟨rfl, hi, hb, hk⟩; refine ⟨_, rfl, ?_⟩; replace HB := asd (hb); replace HI128 := asd (hi); (try clear hb); (try clear hb2); (try clear hk); (try clear hi)))
 go_ret
 exact ⟨by first | rfl | (simp [errW_none, errW_some] <;> rfl) | (simp [*, errW_none, errW_some] <;> rfl), by repeat (first | (with_reducible first | exact HB.out | apply below_alloc | apply pw_below_drewN | apply below_drew1 | refine below_set ?_ (IsS62.ge HI128.out)) | exact HB.out)⟩
/-! ### impl_GroupNames: function 17 -/
def impl_GroupNames.f  : Option (List ByteArray) := some (([(⟨#[112, 49]⟩ : ByteArray), (⟨#[112, 50]⟩ : ByteArray), (⟨#[112, 109]⟩ : ByteArray), (⟨#[112, 103]⟩ : ByteArray), (⟨#[99, 109]⟩ : ByteArray), (⟨#[112, 109, 109]⟩ : ByteArray), (⟨#[112, 109, 103]⟩ : ByteArray), (⟨#[112, 103, 103]⟩ : ByteArray), (⟨#[99, 109, 109]⟩ : ByteArray), (⟨#[112, 52]⟩ : ByteArray), (⟨#[112, 52, 109]⟩ : ByteArray), (⟨#[112, 52, 103]⟩ : ByteArray), (⟨#[112, 51]⟩ : ByteArray), (⟨#[112, 51, 109, 49]⟩ : ByteArray), (⟨#[112, 51, 49, 109]⟩ : ByteArray), (⟨#[112, 54]⟩ : ByteArray), (⟨#[112, 54, 109]⟩ : ByteArray)] : List ByteArray))
set_option maxHeartbeats 8000000 in
set_option maxRecDepth 100000 in
theorem impl_GroupNames.calls  (r : List ByteArray) (w : World) (h : impl_GroupNames.f  = some r) :
  Calls Try.prog 17 #[] w fun e w' => ∃ v0_ : Value, e = .returned (v0_) ∧ Kd.R Kd.string 9 w' w.heap.size (fun _ => True) v0_ r ∧ Below w.heap.size w w' := by
 have HB := asd (Below.refl w.heap.size w)
 have H : (some (([(⟨#[112, 49]⟩ : ByteArray), (⟨#[112, 50]⟩ : ByteArray), (⟨#[112, 109]⟩ : ByteArray), (⟨#[112, 103]⟩ : ByteArray), (⟨#[99, 109]⟩ : ByteArray), (⟨#[112, 109, 109]⟩ : ByteArray), (⟨#[112, 109, 103]⟩ : ByteArray), (⟨#[112, 103, 103]⟩ : ByteArray), (⟨#[99, 109, 109]⟩ : ByteArray), (⟨#[112, 52]⟩ : ByteArray), (⟨#[112, 52, 109]⟩ : ByteArray), (⟨#[112, 52, 103]⟩ : ByteArray), (⟨#[112, 51]⟩ : ByteArray), (⟨#[112, 51, 109, 49]⟩ : ByteArray), (⟨#[112, 51, 49, 109]⟩ : ByteArray), (⟨#[112, 54]⟩ : ByteArray), (⟨#[112, 54, 109]⟩ : ByteArray)] : List ByteArray))) = some r := h
 clear h
 obtain ⟨y132, hy132⟩ : ∃ y_ : List ByteArray, y_ = (([(⟨#[112, 49]⟩ : ByteArray), (⟨#[112, 50]⟩ : ByteArray), (⟨#[112, 109]⟩ : ByteArray), (⟨#[112, 103]⟩ : ByteArray), (⟨#[99, 109]⟩ : ByteArray), (⟨#[112, 109, 109]⟩ : ByteArray), (⟨#[112, 109, 103]⟩ : ByteArray), (⟨#[112, 103, 103]⟩ : ByteArray), (⟨#[99, 109, 109]⟩ : ByteArray), (⟨#[112, 52]⟩ : ByteArray), (⟨#[112, 52, 109]⟩ : ByteArray), (⟨#[112, 52, 103]⟩ : ByteArray), (⟨#[112, 51]⟩ : ByteArray), (⟨#[112, 51, 109, 49]⟩ : ByteArray), (⟨#[112, 51, 49, 109]⟩ : ByteArray), (⟨#[112, 54]⟩ : ByteArray), (⟨#[112, 54, 109]⟩ : ByteArray)] : List ByteArray)) := ⟨_, rfl⟩
 replace H : (some y132) = some r := by first | (rw [hy132]; with_reducible exact H) | (have H2_ := (Option.bind_some _ _).symm.trans H; rw [hy132]; with_reducible exact H2_) | (have H2_ := (Option.bind_some _ _).symm.trans H; with_reducible exact H2_) | with_reducible exact H | (rw [hy132]; exact H) | exact H
 have Ny132 := Aside0.mk hy132
 clear hy132
 obtain rfl := Option.some.inj H
 go_enter Try.func17, Try.ntmps17
 go_wp2_with (first | ((with_reducible refine gd 1 rfl ?_); refine Kd.R_lit Kd.string _ 9 ?hg (N := 1) ?hd (xs := ([(⟨#[112, 49]⟩ : ByteArray), (⟨#[112, 50]⟩ : ByteArray), (⟨#[112, 109]⟩ : ByteArray), (⟨#[112, 103]⟩ : ByteArray), (⟨#[99, 109]⟩ : ByteArray), (⟨#[112, 109, 109]⟩ : ByteArray), (⟨#[112, 109, 103]⟩ : ByteArray), (⟨#[112, 103, 103]⟩ : ByteArray), (⟨#[99, 109, 109]⟩ : ByteArray), (⟨#[112, 52]⟩ : ByteArray), (⟨#[112, 52, 109]⟩ : ByteArray), (⟨#[112, 52, 103]⟩ : ByteArray), (⟨#[112, 51]⟩ : ByteArray), (⟨#[112, 51, 109, 49]⟩ : ByteArray), (⟨#[112, 51, 49, 109]⟩ : ByteArray), (⟨#[112, 54]⟩ : ByteArray), (⟨#[112, 54, 109]⟩ : ByteArray)] : List ByteArray)) (inner := [.string (⟨#[112, 49]⟩ : ByteArray), .string (⟨#[112, 50]⟩ : ByteArray), .string (⟨#[112, 109]⟩ : ByteArray), .string (⟨#[112, 103]⟩ : ByteArray), .string (⟨#[99, 109]⟩ : ByteArray), .string (⟨#[112, 109, 109]⟩ : ByteArray), .string (⟨#[112, 109, 103]⟩ : ByteArray), .string (⟨#[112, 103, 103]⟩ : ByteArray), .string (⟨#[99, 109, 109]⟩ : ByteArray), .string (⟨#[112, 52]⟩ : ByteArray), .string (⟨#[112, 52, 109]⟩ : ByteArray), .string (⟨#[112, 52, 103]⟩ : ByteArray), .string (⟨#[112, 51]⟩ : ByteArray), .string (⟨#[112, 51, 109, 49]⟩ : ByteArray), .string (⟨#[112, 51, 49, 109]⟩ : ByteArray), .string (⟨#[112, 54]⟩ : ByteArray), .string (⟨#[112, 54, 109]⟩ : ByteArray)]) (ok := fun _ => True) (okp := fun _ => True) ?hr ?hp (fun _ hk => hk) trivial (Below.refl _ _) (Nat.le_refl _) (by simp) ?_; (case hd => rfl); (case hg => rfl); (case hr => first | (go_simp; done) | (go_simp; rfl)); (case hp => exact (Reps.one (show Kd.M Kd.string _ _ _ (⟨#[112, 49]⟩ : ByteArray) [.string (⟨#[112, 49]⟩ : ByteArray)] from rfl) (Reps.one (show Kd.M Kd.string _ _ _ (⟨#[112, 50]⟩ : ByteArray) [.string (⟨#[112, 50]⟩ : ByteArray)] from rfl) (Reps.one (show Kd.M Kd.string _ _ _ (⟨#[112, 109]⟩ : ByteArray) [.string (⟨#[112, 109]⟩ : ByteArray)] from rfl) (Reps.one (show Kd.M Kd.string _ _ _ (⟨#[112, 103]⟩ : ByteArray) [.string (⟨#[112, 103]⟩ : ByteArray)] from rfl) (Reps.one (show Kd.M Kd.string _ _ _ (⟨#[99, 109]⟩ : ByteArray) [.string (⟨#[99, 109]⟩ : ByteArray)] from rfl) (Reps.one (show Kd.M Kd.string _ _ _ (⟨#[112, 109, 109]⟩ : ByteArray) [.string (⟨#[112, 109, 109]⟩ : ByteArray)] from rfl) (Reps.one (show Kd.M Kd.string _ _ _ (⟨#[112, 109, 103]⟩ : ByteArray) [.string (⟨#[112, 109, 103]⟩ : ByteArray)] from rfl) (Reps.one (show Kd.M Kd.string _ _ _ (⟨#[112, 103, 103]⟩ : ByteArray) [.string (⟨#[112, 103, 103]⟩ : ByteArray)] from rfl) (Reps.one (show Kd.M Kd.string _ _ _ (⟨#[99, 109, 109]⟩ : ByteArray) [.string (⟨#[99, 109, 109]⟩ : ByteArray)] from rfl) (Reps.one (show Kd.M Kd.string _ _ _ (⟨#[112, 52]⟩ : ByteArray) [.string (⟨#[112, 52]⟩ : ByteArray)] from rfl) (Reps.one (show Kd.M Kd.string _ _ _ (⟨#[112, 52, 109]⟩ : ByteArray) [.string (⟨#[112, 52, 109]⟩ : ByteArray)] from rfl) (Reps.one (show Kd.M Kd.string _ _ _ (⟨#[112, 52, 103]⟩ : ByteArray) [.string (⟨#[112, 52, 103]⟩ : ByteArray)] from rfl) (Reps.one (show Kd.M Kd.string _ _ _ (⟨#[112, 51]⟩ : ByteArray) [.string (⟨#[112, 51]⟩ : ByteArray)] from rfl) (Reps.one (show Kd.M Kd.string _ _ _ (⟨#[112, 51, 109, 49]⟩ : ByteArray) [.string (⟨#[112, 51, 109, 49]⟩ : ByteArray)] from rfl) (Reps.one (show Kd.M Kd.string _ _ _ (⟨#[112, 51, 49, 109]⟩ : ByteArray) [.string (⟨#[112, 51, 49, 109]⟩ : ByteArray)] from rfl) (Reps.one (show Kd.M Kd.string _ _ _ (⟨#[112, 54]⟩ : ByteArray) [.string (⟨#[112, 54]⟩ : ByteArray)] from rfl) (Reps.one (show Kd.M Kd.string _ _ _ (⟨#[112, 54, 109]⟩ : ByteArray) [.string (⟨#[112, 54, 109]⟩ : ByteArray)] from rfl) (Reps.none _ _))))))))))))))))))); intro v133 w1 ho2 hb hg_ hnew_; clear hg_ hnew_; (first | rw [← Ny132.out] at ho2 | (simp only [Int.reduceToNat] at ho2; rw [← Ny132.out] at ho2)); have HO134 := asd (Kd.R_lower ho2 (bsz0 HB)); replace HB := bS0 HB hb; clear hb ho2))
 go_ret
 exact ⟨_, by first | rfl | (simp [errW_none, errW_some] <;> rfl) | (simp [*, errW_none, errW_some] <;> rfl), by (with_reducible repeat (first | apply Kd.R_alloc | apply Kd.R_drewN | apply Kd.R_drew)); exact HO134.out, bbw0 HB⟩
/-! ### slices_Index_string_string: function 28 -/
def slices_Index_string_string.l0 : Nat → List ByteArray → ByteArray → Int → Int → Option (Int)
 | 0, _, _, _, _ => none
 | k + 1, x0, x1, x7, x8 => if x8 < x7 then (if 0 ≤ x8 then (if x8 < (x0.length : Int) then (if x1.toList = (rdOf ByteArray.empty x0 x8).toList then (some x8) else (slices_Index_string_string.l0 k x0 x1 x7 (wrap64 (x8 + 1)))) else (none)) else (none)) else (some (-1))
def slices_Index_string_string.f (k : Nat) (l0 : List ByteArray) (a1 : ByteArray) : Option (Int) := slices_Index_string_string.l0 k l0 a1 (l0.length : Int) 0
set_option maxHeartbeats 8000000 in
set_option maxRecDepth 100000 in
theorem slices_Index_string_string.calls (k : Nat) (A0 : Option Addr) (c0 : Nat) (l0 : List ByteArray) (a1 : ByteArray) (r : Int) (w : World) (hr0 : Kd.C Kd.string w A0 l0.length l0) (hc0 : l0.length ≤ c0) (h : slices_Index_string_string.f k l0 a1 = some r) :
  Calls Try.prog 28 #[.slice A0 l0.length c0, .string a1] w fun e w' => e = .returned (.int .i64 r) ∧ Drawn0 w w' := by
 have HR0 := Aside0.mk hr0
 have HC0 := Aside0.mk hc0
 clear hr0 hc0
 have H : (slices_Index_string_string.l0 k l0 a1 (l0.length : Int) 0) = some r := h
 clear h
 have H' := Aside0.mk H
 clear H
 go_enter Try.func28, Try.ntmps28
 go_wp2
 go_loopg [8] k (fun kq v8 w' => ∃ (x8_1 : Int), v8 = .int .i64 x8_1 ∧ Aside0 (slices_Index_string_string.l0 kq l0 a1 (l0.length : Int) x8_1 = some r) ∧ Aside0 (kq ≤ k) ∧ Drawn0 w w')
 case atStart => exact ⟨(0), (by first | rfl | (simp; done) | (simp [*]; done)), H', ⟨Nat.le_refl _⟩, by repeat (first | exact Drawn0.refl _ | apply Drawn0.step)⟩
 case round =>
  clear H'
  try clear c2
  try clear p2
  obtain ⟨x8_1, rfl, HA, HK1, ⟨m1, rfl⟩⟩ := hrel
  cases gk with
  | zero => exact absurd HA.out (by simp [slices_Index_string_string.l0])
  | succ k1 =>
   have H := HA.out
   clear HA
   simp only [slices_Index_string_string.l0] at H
   by_cases c3 : x8_1 < (l0.length : Int)
   rw [if_pos c3] at H
   have c3b0 := decide_eq_true c3
   clear c3
   by_cases c4 : 0 ≤ x8_1
   rw [if_pos c4] at H
   have c4b0 := decide_eq_true c4
   clear c4
   by_cases c5 : x8_1 < (l0.length : Int)
   rw [if_pos c5] at H
   have c5b0 := decide_eq_true c5
   clear c5
   by_cases c6 : a1.toList = (rdOf ByteArray.empty l0 x8_1).toList
   rw [if_pos c6] at H
   have c6b0 : (a1.toList == (rdOf ByteArray.empty l0 x8_1).toList) = true := beq_iff_eq.mpr c6
   have c6b1 : (a1.toList != (rdOf ByteArray.empty l0 x8_1).toList) = false := bne_eq_false_iff_eq.mpr c6
   clear c6
   obtain rfl := Option.some.inj H
   rotate_left
   rw [if_neg c6] at H
   have c6b0 : (a1.toList == (rdOf ByteArray.empty l0 x8_1).toList) = false := beq_eq_false_iff_ne.mpr c6
   have c6b1 : (a1.toList != (rdOf ByteArray.empty l0 x8_1).toList) = true := bne_iff_ne.mpr c6
   have H' := Aside0.mk H
   clear H
   rotate_left
   ·rw [if_neg c5] at H
    exact absurd H (by simp)
   ·rw [if_neg c4] at H
    exact absurd H (by simp)
   rw [if_neg c3] at H
   have c3b0 := decide_eq_false c3
   clear c3
   obtain rfl := Option.some.inj H
   rotate_left
   rotate_left 2
   ·go_wp2
    go_ret
    exact ⟨by first | rfl | (simp; done) | (simp [*]; done), by repeat (first | exact Drawn0.refl _ | apply Drawn0.step)⟩
   all_goals
    have p135 : 0 ≤ (x8_1 : Int) := od
    have q135 : x8_1 < (l0.length : Int) := od
    obtain ⟨ad135, e135, hx135_0⟩ := Kd.at_string HR0.out x8_1 p135 q135
    cases e135
    replace p135 := eq_true p135
    replace q135 := eq_true q135
    go_wp2
   ·go_ret
    exact ⟨by first | rfl | (simp; done) | (simp [*]; done), by repeat (first | exact Drawn0.refl _ | apply Drawn0.step)⟩
   ·go_roundg k1
    case measure => have := HK1.out; omega
    case rel => exact ⟨(wrap64 (x8_1 + 1)), (by first | rfl | (simp; done) | (simp [*]; done)), H', ⟨by have := HK1.out; omega⟩, by repeat (first | exact Drawn0.refl _ | apply Drawn0.step)⟩
/-! ### impl_signatures: function 29 -/
def impl_signatures.f  : Option (List ByteArray) := some (([(⟨#[111]⟩ : ByteArray), (⟨#[50, 50, 50, 50]⟩ : ByteArray), (⟨#[42, 42]⟩ : ByteArray), (⟨#[120, 120]⟩ : ByteArray), (⟨#[42, 120]⟩ : ByteArray), (⟨#[42, 50, 50, 50, 50]⟩ : ByteArray), (⟨#[50, 50, 42]⟩ : ByteArray), (⟨#[50, 50, 120]⟩ : ByteArray), (⟨#[50, 42, 50, 50]⟩ : ByteArray), (⟨#[52, 52, 50]⟩ : ByteArray), (⟨#[42, 52, 52, 50]⟩ : ByteArray), (⟨#[52, 42, 50]⟩ : ByteArray), (⟨#[51, 51, 51]⟩ : ByteArray), (⟨#[42, 51, 51, 51]⟩ : ByteArray), (⟨#[51, 42, 51]⟩ : ByteArray), (⟨#[54, 51, 50]⟩ : ByteArray), (⟨#[42, 54, 51, 50]⟩ : ByteArray)] : List ByteArray))
set_option maxHeartbeats 8000000 in
set_option maxRecDepth 100000 in
theorem impl_signatures.calls  (r : List ByteArray) (w : World) (h : impl_signatures.f  = some r) :
  Calls Try.prog 29 #[] w fun e w' => ∃ v0_ : Value, e = .returned (v0_) ∧ Kd.R Kd.string 9 w' w.heap.size (fun _ => True) v0_ r ∧ Below w.heap.size w w' := by
 have HB := asd (Below.refl w.heap.size w)
 have H : (some (([(⟨#[111]⟩ : ByteArray), (⟨#[50, 50, 50, 50]⟩ : ByteArray), (⟨#[42, 42]⟩ : ByteArray), (⟨#[120, 120]⟩ : ByteArray), (⟨#[42, 120]⟩ : ByteArray), (⟨#[42, 50, 50, 50, 50]⟩ : ByteArray), (⟨#[50, 50, 42]⟩ : ByteArray), (⟨#[50, 50, 120]⟩ : ByteArray), (⟨#[50, 42, 50, 50]⟩ : ByteArray), (⟨#[52, 52, 50]⟩ : ByteArray), (⟨#[42, 52, 52, 50]⟩ : ByteArray), (⟨#[52, 42, 50]⟩ : ByteArray), (⟨#[51, 51, 51]⟩ : ByteArray), (⟨#[42, 51, 51, 51]⟩ : ByteArray), (⟨#[51, 42, 51]⟩ : ByteArray), (⟨#[54, 51, 50]⟩ : ByteArray), (⟨#[42, 54, 51, 50]⟩ : ByteArray)] : List ByteArray))) = some r := h
 clear h
 obtain ⟨y136, hy136⟩ : ∃ y_ : List ByteArray, y_ = (([(⟨#[111]⟩ : ByteArray), (⟨#[50, 50, 50, 50]⟩ : ByteArray), (⟨#[42, 42]⟩ : ByteArray), (⟨#[120, 120]⟩ : ByteArray), (⟨#[42, 120]⟩ : ByteArray), (⟨#[42, 50, 50, 50, 50]⟩ : ByteArray), (⟨#[50, 50, 42]⟩ : ByteArray), (⟨#[50, 50, 120]⟩ : ByteArray), (⟨#[50, 42, 50, 50]⟩ : ByteArray), (⟨#[52, 52, 50]⟩ : ByteArray), (⟨#[42, 52, 52, 50]⟩ : ByteArray), (⟨#[52, 42, 50]⟩ : ByteArray), (⟨#[51, 51, 51]⟩ : ByteArray), (⟨#[42, 51, 51, 51]⟩ : ByteArray), (⟨#[51, 42, 51]⟩ : ByteArray), (⟨#[54, 51, 50]⟩ : ByteArray), (⟨#[42, 54, 51, 50]⟩ : ByteArray)] : List ByteArray)) := ⟨_, rfl⟩
 replace H : (some y136) = some r := by first | (rw [hy136]; with_reducible exact H) | (have H2_ := (Option.bind_some _ _).symm.trans H; rw [hy136]; with_reducible exact H2_) | (have H2_ := (Option.bind_some _ _).symm.trans H; with_reducible exact H2_) | with_reducible exact H | (rw [hy136]; exact H) | exact H
 have Ny136 := Aside0.mk hy136
 clear hy136
 obtain rfl := Option.some.inj H
 go_enter Try.func29, Try.ntmps29
 go_wp2_with (first | ((with_reducible refine gd 1 rfl ?_); refine Kd.R_lit Kd.string _ 9 ?hg (N := 1) ?hd (xs := ([(⟨#[111]⟩ : ByteArray), (⟨#[50, 50, 50, 50]⟩ : ByteArray), (⟨#[42, 42]⟩ : ByteArray), (⟨#[120, 120]⟩ : ByteArray), (⟨#[42, 120]⟩ : ByteArray), (⟨#[42, 50, 50, 50, 50]⟩ : ByteArray), (⟨#[50, 50, 42]⟩ : ByteArray), (⟨#[50, 50, 120]⟩ : ByteArray), (⟨#[50, 42, 50, 50]⟩ : ByteArray), (⟨#[52, 52, 50]⟩ : ByteArray), (⟨#[42, 52, 52, 50]⟩ : ByteArray), (⟨#[52, 42, 50]⟩ : ByteArray), (⟨#[51, 51, 51]⟩ : ByteArray), (⟨#[42, 51, 51, 51]⟩ : ByteArray), (⟨#[51, 42, 51]⟩ : ByteArray), (⟨#[54, 51, 50]⟩ : ByteArray), (⟨#[42, 54, 51, 50]⟩ : ByteArray)] : List ByteArray)) (inner := [.string (⟨#[111]⟩ : ByteArray), .string (⟨#[50, 50, 50, 50]⟩ : ByteArray), .string (⟨#[42, 42]⟩ : ByteArray), .string (⟨#[120, 120]⟩ : ByteArray), .string (⟨#[42, 120]⟩ : ByteArray), .string (⟨#[42, 50, 50, 50, 50]⟩ : ByteArray), .string (⟨#[50, 50, 42]⟩ : ByteArray), .string (⟨#[50, 50, 120]⟩ : ByteArray), .string (⟨#[50, 42, 50, 50]⟩ : ByteArray), .string (⟨#[52, 52, 50]⟩ : ByteArray), .string (⟨#[42, 52, 52, 50]⟩ : ByteArray), .string (⟨#[52, 42, 50]⟩ : ByteArray), .string (⟨#[51, 51, 51]⟩ : ByteArray), .string (⟨#[42, 51, 51, 51]⟩ : ByteArray), .string (⟨#[51, 42, 51]⟩ : ByteArray), .string (⟨#[54, 51, 50]⟩ : ByteArray), .string (⟨#[42, 54, 51, 50]⟩ : ByteArray)]) (ok := fun _ => True) (okp := fun _ => True) ?hr ?hp (fun _ hk => hk) trivial (Below.refl _ _) (Nat.le_refl _) (by simp) ?_; (case hd => rfl); (case hg => rfl); (case hr => first | (go_simp; done) | (go_simp; rfl)); (case hp => exact (Reps.one (show Kd.M Kd.string _ _ _ (⟨#[111]⟩ : ByteArray) [.string (⟨#[111]⟩ : ByteArray)] from rfl) (Reps.one (show Kd.M Kd.string _ _ _ (⟨#[50, 50, 50, 50]⟩ : ByteArray) [.string (⟨#[50, 50, 50, 50]⟩ : ByteArray)] from rfl) (Reps.one (show Kd.M Kd.string _ _ _ (⟨#[42, 42]⟩ : ByteArray) [.string (⟨#[42, 42]⟩ : ByteArray)] from rfl) (Reps.one (show Kd.M Kd.string _ _ _ (⟨#[120, 120]⟩ : ByteArray) [.string (⟨#[120, 120]⟩ : ByteArray)] from rfl) (Reps.one (show Kd.M Kd.string _ _ _ (⟨#[42, 120]⟩ : ByteArray) [.string (⟨#[42, 120]⟩ : ByteArray)] from rfl) (Reps.one (show Kd.M Kd.string _ _ _ (⟨#[42, 50, 50, 50, 50]⟩ : ByteArray) [.string (⟨#[42, 50, 50, 50, 50]⟩ : ByteArray)] from rfl) (Reps.one (show Kd.M Kd.string _ _ _ (⟨#[50, 50, 42]⟩ : ByteArray) [.string (⟨#[50, 50, 42]⟩ : ByteArray)] from rfl) (Reps.one (show Kd.M Kd.string _ _ _ (⟨#[50, 50, 120]⟩ : ByteArray) [.string (⟨#[50, 50, 120]⟩ : ByteArray)] from rfl) (Reps.one (show Kd.M Kd.string _ _ _ (⟨#[50, 42, 50, 50]⟩ : ByteArray) [.string (⟨#[50, 42, 50, 50]⟩ : ByteArray)] from rfl) (Reps.one (show Kd.M Kd.string _ _ _ (⟨#[52, 52, 50]⟩ : ByteArray) [.string (⟨#[52, 52, 50]⟩ : ByteArray)] from rfl) (Reps.one (show Kd.M Kd.string _ _ _ (⟨#[42, 52, 52, 50]⟩ : ByteArray) [.string (⟨#[42, 52, 52, 50]⟩ : ByteArray)] from rfl) (Reps.one (show Kd.M Kd.string _ _ _ (⟨#[52, 42, 50]⟩ : ByteArray) [.string (⟨#[52, 42, 50]⟩ : ByteArray)] from rfl) (Reps.one (show Kd.M Kd.string _ _ _ (⟨#[51, 51, 51]⟩ : ByteArray) [.string (⟨#[51, 51, 51]⟩ : ByteArray)] from rfl) (Reps.one (show Kd.M Kd.string _ _ _ (⟨#[42, 51, 51, 51]⟩ : ByteArray) [.string (⟨#[42, 51, 51, 51]⟩ : ByteArray)] from rfl) (Reps.one (show Kd.M Kd.string _ _ _ (⟨#[51, 42, 51]⟩ : ByteArray) [.string (⟨#[51, 42, 51]⟩ : ByteArray)] from rfl) (Reps.one (show Kd.M Kd.string _ _ _ (⟨#[54, 51, 50]⟩ : ByteArray) [.string (⟨#[54, 51, 50]⟩ : ByteArray)] from rfl) (Reps.one (show Kd.M Kd.string _ _ _ (⟨#[42, 54, 51, 50]⟩ : ByteArray) [.string (⟨#[42, 54, 51, 50]⟩ : ByteArray)] from rfl) (Reps.none _ _))))))))))))))))))); intro v137 w1 ho2 hb hg_ hnew_; clear hg_ hnew_; (first | rw [← Ny136.out] at ho2 | (simp only [Int.reduceToNat] at ho2; rw [← Ny136.out] at ho2)); have HO138 := asd (Kd.R_lower ho2 (bsz0 HB)); replace HB := bS0 HB hb; clear hb ho2))
 go_ret
 exact ⟨_, by first | rfl | (simp [errW_none, errW_some] <;> rfl) | (simp [*, errW_none, errW_some] <;> rfl), by (with_reducible repeat (first | apply Kd.R_alloc | apply Kd.R_drewN | apply Kd.R_drew)); exact HO138.out, bbw0 HB⟩
/-! ### impl_SignatureOf: function 7 -/
def impl_SignatureOf.f (k : Nat) (a0 : ByteArray) : Option (ByteArray × Int) := (impl_GroupNames.f).bind fun t139 => ((slices_Index_string_string.f k t139 a0).bind fun t142 => (if t142 < 0 then (some ((⟨#[]⟩ : ByteArray), 4)) else ((impl_signatures.f).bind fun t143 => (if 0 ≤ t142 then (if t142 < (t143.length : Int) then (some (rdOf ByteArray.empty t143 t142, 0)) else (none)) else (none)))))
set_option maxHeartbeats 8000000 in
set_option maxRecDepth 100000 in
theorem impl_SignatureOf.calls (k : Nat) (a0 : ByteArray) (r1 : ByteArray) (r2 : Int) (w : World) (h : impl_SignatureOf.f k a0 = some (r1, r2)) :
  Calls Try.prog 7 #[.string a0] w fun e w' => e = .returned (.tuple #[.string r1, .int .i64 r2]) ∧ Below w.heap.size w w' := by
 have HB := asd (Below.refl w.heap.size w)
 have H : ((impl_GroupNames.f).bind fun t139 => ((slices_Index_string_string.f k t139 a0).bind fun t142 => (if t142 < 0 then (some ((⟨#[]⟩ : ByteArray), 4)) else ((impl_signatures.f).bind fun t143 => (if 0 ≤ t142 then (if t142 < (t143.length : Int) then (some (rdOf ByteArray.empty t143 t142, 0)) else (none)) else (none)))))) = some (r1, r2) := h
 clear h
 obtain ⟨t139, A2, H⟩ := ob H
 try dsimp only at H
 obtain ⟨t142, A3, H⟩ := ob H
 try dsimp only at H
 by_cases c4 : t142 < 0
 rw [if_pos c4] at H
 have c4b0 := decide_eq_true c4
 clear c4
 rotate_left
 rw [if_neg c4] at H
 have c4b0 := decide_eq_false c4
 clear c4
 obtain ⟨t143, A7, H⟩ := ob H
 try dsimp only at H
 by_cases c8 : 0 ≤ t142
 rw [if_pos c8] at H
 have c8b0 := decide_eq_true c8
 clear c8
 by_cases c9 : t142 < (t143.length : Int)
 rw [if_pos c9] at H
 have c9b0 := decide_eq_true c9
 clear c9
 rotate_left
 ·rw [if_neg c9] at H
  exact absurd H (by simp)
 ·rw [if_neg c8] at H
  exact absurd H (by simp)
 all_goals
  simp only [Option.some.injEq, Prod.mk.injEq] at H
  obtain ⟨rfl, rfl⟩ := H
  go_enter Try.func7, Try.ntmps7
  go_wp2_with (first | ((with_reducible refine gate_callee (f := 17) rfl ?_); refine gl 5 Try.func17 #[] ?_; (with_reducible refine (impl_GroupNames.calls _ _ A2.out).mono ?_); rintro e w5 ⟨v140, rfl, ho0, hb⟩; refine ⟨_, rfl, ?_⟩; have HO141 := asd (Kd.R_lower ho0 (bsz0 HB)); replace HB := bS0 HB hb; (try clear hb); (try clear hb2); (try clear hk); (try clear hi); (try clear ho0); obtain ⟨Ao6, co6, eo6⟩ := Kd.R_slice HO141.out; subst eo6) | ((with_reducible refine gate_callee (f := 28) rfl ?_); refine gl 7 Try.func28 #[.slice Ao6 t139.length co6, .string a0] ?_; (with_reducible refine (slices_Index_string_string.calls _ _ _ _ _ _ _ ?side1 ?side2 A3.out).mono ?_); (case side1 => exact ks (Kd.R_reads' HO141.out).2.2); (case side2 => exact (Kd.R_reads' HO141.out).2.1); rintro e w' ⟨rfl, ⟨nd, rfl⟩⟩; refine ⟨_, rfl, ?_⟩) | ((with_reducible refine gate_callee (f := 29) rfl ?_); refine gl 10 Try.func29 #[] ?_; (with_reducible refine (impl_signatures.calls _ _ A7.out).mono ?_); rintro e w12 ⟨v144, rfl, ho0, hb⟩; refine ⟨_, rfl, ?_⟩; have HO145 := asd (Kd.R_lower (Kd.R_new' ho0 (Kd.R_lt (kr HO141))) (bsz0 HB)); replace HO141 := asd (Kd.R_elder' (kr HO141) (Kd.R_base ho0) hb); replace HB := bS0 HB hb; (try clear hb); (try clear hb2); (try clear hk); (try clear hi); (try clear ho0); obtain ⟨Ao13, co13, eo13⟩ := Kd.R_slice HO145.out; subst eo13; have p146 : 0 ≤ (t142 : Int) := od; have q146 : t142 < (t143.length : Int) := od; obtain ⟨ad146, e146, hx146_0⟩ := Kd.at_string (Kd.R_reads' HO145.out).2.2 t142 p146 q146; cases e146; replace p146 := eq_true p146; replace q146 := eq_true q146))
  go_ret2
  exact er (bbw0 HB)
/-! ### spec_l12Index: function 30 -/
def spec_l12Index.l0 : Nat → List ByteArray → ByteArray → Int → Option (Int)
 | 0, _, _, _ => none
 | k + 1, x0, x1, x5 => if x5 < (x0.length : Int) then (if 0 ≤ x5 then (if (rdOf ByteArray.empty x0 x5).toList = x1.toList then (some x5) else (spec_l12Index.l0 k x0 x1 (wrap64 (x5 + 1)))) else (none)) else (some (-1))
def spec_l12Index.f (k : Nat) (l0 : List ByteArray) (a1 : ByteArray) : Option (Int) := spec_l12Index.l0 k l0 a1 0
set_option maxHeartbeats 8000000 in
set_option maxRecDepth 100000 in
theorem spec_l12Index.calls (k : Nat) (A0 : Option Addr) (c0 : Nat) (l0 : List ByteArray) (a1 : ByteArray) (r : Int) (w : World) (hr0 : Kd.C Kd.string w A0 l0.length l0) (hc0 : l0.length ≤ c0) (h : spec_l12Index.f k l0 a1 = some r) :
  Calls Try.prog 30 #[.slice A0 l0.length c0, .string a1] w fun e w' => e = .returned (.int .i64 r) ∧ Drawn0 w w' := by
 have HR0 := Aside0.mk hr0
 have HC0 := Aside0.mk hc0
 clear hr0 hc0
 have H : (spec_l12Index.l0 k l0 a1 0) = some r := h
 clear h
 have H' := Aside0.mk H
 clear H
 go_enter Try.func30, Try.ntmps30
 go_wp2
 go_loopg [5] k (fun kq v5 w' => ∃ (x5_1 : Int), v5 = .int .i64 x5_1 ∧ Aside0 (spec_l12Index.l0 kq l0 a1 x5_1 = some r) ∧ Aside0 (kq ≤ k) ∧ Drawn0 w w')
 case atStart => exact ⟨(0), (by first | rfl | (simp; done) | (simp [*]; done)), H', ⟨Nat.le_refl _⟩, by repeat (first | exact Drawn0.refl _ | apply Drawn0.step)⟩
 case round =>
  clear H'
  try clear p2
  obtain ⟨x5_1, rfl, HA, HK1, ⟨m1, rfl⟩⟩ := hrel
  cases gk with
  | zero => exact absurd HA.out (by simp [spec_l12Index.l0])
  | succ k1 =>
   have H := HA.out
   clear HA
   simp only [spec_l12Index.l0] at H
   by_cases c3 : x5_1 < (l0.length : Int)
   rw [if_pos c3] at H
   have c3b0 := decide_eq_true c3
   clear c3
   by_cases c4 : 0 ≤ x5_1
   rw [if_pos c4] at H
   have c4b0 := decide_eq_true c4
   clear c4
   by_cases c5 : (rdOf ByteArray.empty l0 x5_1).toList = a1.toList
   rw [if_pos c5] at H
   have c5b0 : ((rdOf ByteArray.empty l0 x5_1).toList == a1.toList) = true := beq_iff_eq.mpr c5
   have c5b1 : ((rdOf ByteArray.empty l0 x5_1).toList != a1.toList) = false := bne_eq_false_iff_eq.mpr c5
   clear c5
   obtain rfl := Option.some.inj H
   rotate_left
   rw [if_neg c5] at H
   have c5b0 : ((rdOf ByteArray.empty l0 x5_1).toList == a1.toList) = false := beq_eq_false_iff_ne.mpr c5
   have c5b1 : ((rdOf ByteArray.empty l0 x5_1).toList != a1.toList) = true := bne_iff_ne.mpr c5
   have H' := Aside0.mk H
   clear H
   rotate_left
   ·rw [if_neg c4] at H
    exact absurd H (by simp)
   rw [if_neg c3] at H
   have c3b0 := decide_eq_false c3
   clear c3
   obtain rfl := Option.some.inj H
   rotate_left
   rotate_left 2
   ·go_wp2
    go_ret
    exact ⟨by first | rfl | (simp; done) | (simp [*]; done), by repeat (first | exact Drawn0.refl _ | apply Drawn0.step)⟩
   all_goals
    have p147 : 0 ≤ (x5_1 : Int) := od
    have q147 : x5_1 < (l0.length : Int) := od
    obtain ⟨ad147, e147, hx147_0⟩ := Kd.at_string HR0.out x5_1 p147 q147
    cases e147
    replace p147 := eq_true p147
    replace q147 := eq_true q147
    go_wp2
   ·go_ret
    exact ⟨by first | rfl | (simp; done) | (simp [*]; done), by repeat (first | exact Drawn0.refl _ | apply Drawn0.step)⟩
   ·go_roundg k1
    case measure => have := HK1.out; omega
    case rel => exact ⟨(wrap64 (x5_1 + 1)), (by first | rfl | (simp; done) | (simp [*]; done)), H', ⟨by have := HK1.out; omega⟩, by repeat (first | exact Drawn0.refl _ | apply Drawn0.step)⟩
/-! ### spec_l12Signatures: function 31 -/
def spec_l12Signatures.f  : Option (List ByteArray) := some (([(⟨#[111]⟩ : ByteArray), (⟨#[50, 50, 50, 50]⟩ : ByteArray), (⟨#[42, 42]⟩ : ByteArray), (⟨#[120, 120]⟩ : ByteArray), (⟨#[42, 120]⟩ : ByteArray), (⟨#[42, 50, 50, 50, 50]⟩ : ByteArray), (⟨#[50, 50, 42]⟩ : ByteArray), (⟨#[50, 50, 120]⟩ : ByteArray), (⟨#[50, 42, 50, 50]⟩ : ByteArray), (⟨#[52, 52, 50]⟩ : ByteArray), (⟨#[42, 52, 52, 50]⟩ : ByteArray), (⟨#[52, 42, 50]⟩ : ByteArray), (⟨#[51, 51, 51]⟩ : ByteArray), (⟨#[42, 51, 51, 51]⟩ : ByteArray), (⟨#[51, 42, 51]⟩ : ByteArray), (⟨#[54, 51, 50]⟩ : ByteArray), (⟨#[42, 54, 51, 50]⟩ : ByteArray)] : List ByteArray))
set_option maxHeartbeats 8000000 in
set_option maxRecDepth 100000 in
theorem spec_l12Signatures.calls  (r : List ByteArray) (w : World) (h : spec_l12Signatures.f  = some r) :
  Calls Try.prog 31 #[] w fun e w' => ∃ v0_ : Value, e = .returned (v0_) ∧ Kd.R Kd.string 9 w' w.heap.size (fun _ => True) v0_ r ∧ Below w.heap.size w w' := by
 have HB := asd (Below.refl w.heap.size w)
 have H : (some (([(⟨#[111]⟩ : ByteArray), (⟨#[50, 50, 50, 50]⟩ : ByteArray), (⟨#[42, 42]⟩ : ByteArray), (⟨#[120, 120]⟩ : ByteArray), (⟨#[42, 120]⟩ : ByteArray), (⟨#[42, 50, 50, 50, 50]⟩ : ByteArray), (⟨#[50, 50, 42]⟩ : ByteArray), (⟨#[50, 50, 120]⟩ : ByteArray), (⟨#[50, 42, 50, 50]⟩ : ByteArray), (⟨#[52, 52, 50]⟩ : ByteArray), (⟨#[42, 52, 52, 50]⟩ : ByteArray), (⟨#[52, 42, 50]⟩ : ByteArray), (⟨#[51, 51, 51]⟩ : ByteArray), (⟨#[42, 51, 51, 51]⟩ : ByteArray), (⟨#[51, 42, 51]⟩ : ByteArray), (⟨#[54, 51, 50]⟩ : ByteArray), (⟨#[42, 54, 51, 50]⟩ : ByteArray)] : List ByteArray))) = some r := h
 clear h
 obtain ⟨y148, hy148⟩ : ∃ y_ : List ByteArray, y_ = (([(⟨#[111]⟩ : ByteArray), (⟨#[50, 50, 50, 50]⟩ : ByteArray), (⟨#[42, 42]⟩ : ByteArray), (⟨#[120, 120]⟩ : ByteArray), (⟨#[42, 120]⟩ : ByteArray), (⟨#[42, 50, 50, 50, 50]⟩ : ByteArray), (⟨#[50, 50, 42]⟩ : ByteArray), (⟨#[50, 50, 120]⟩ : ByteArray), (⟨#[50, 42, 50, 50]⟩ : ByteArray), (⟨#[52, 52, 50]⟩ : ByteArray), (⟨#[42, 52, 52, 50]⟩ : ByteArray), (⟨#[52, 42, 50]⟩ : ByteArray), (⟨#[51, 51, 51]⟩ : ByteArray), (⟨#[42, 51, 51, 51]⟩ : ByteArray), (⟨#[51, 42, 51]⟩ : ByteArray), (⟨#[54, 51, 50]⟩ : ByteArray), (⟨#[42, 54, 51, 50]⟩ : ByteArray)] : List ByteArray)) := ⟨_, rfl⟩
 replace H : (some y148) = some r := by first | (rw [hy148]; with_reducible exact H) | (have H2_ := (Option.bind_some _ _).symm.trans H; rw [hy148]; with_reducible exact H2_) | (have H2_ := (Option.bind_some _ _).symm.trans H; with_reducible exact H2_) | with_reducible exact H | (rw [hy148]; exact H) | exact H
 have Ny148 := Aside0.mk hy148
 clear hy148
 obtain rfl := Option.some.inj H
 go_enter Try.func31, Try.ntmps31
 go_wp2_with (first | ((with_reducible refine gd 1 rfl ?_); refine Kd.R_lit Kd.string _ 9 ?hg (N := 1) ?hd (xs := ([(⟨#[111]⟩ : ByteArray), (⟨#[50, 50, 50, 50]⟩ : ByteArray), (⟨#[42, 42]⟩ : ByteArray), (⟨#[120, 120]⟩ : ByteArray), (⟨#[42, 120]⟩ : ByteArray), (⟨#[42, 50, 50, 50, 50]⟩ : ByteArray), (⟨#[50, 50, 42]⟩ : ByteArray), (⟨#[50, 50, 120]⟩ : ByteArray), (⟨#[50, 42, 50, 50]⟩ : ByteArray), (⟨#[52, 52, 50]⟩ : ByteArray), (⟨#[42, 52, 52, 50]⟩ : ByteArray), (⟨#[52, 42, 50]⟩ : ByteArray), (⟨#[51, 51, 51]⟩ : ByteArray), (⟨#[42, 51, 51, 51]⟩ : ByteArray), (⟨#[51, 42, 51]⟩ : ByteArray), (⟨#[54, 51, 50]⟩ : ByteArray), (⟨#[42, 54, 51, 50]⟩ : ByteArray)] : List ByteArray)) (inner := [.string (⟨#[111]⟩ : ByteArray), .string (⟨#[50, 50, 50, 50]⟩ : ByteArray), .string (⟨#[42, 42]⟩ : ByteArray), .string (⟨#[120, 120]⟩ : ByteArray), .string (⟨#[42, 120]⟩ : ByteArray), .string (⟨#[42, 50, 50, 50, 50]⟩ : ByteArray), .string (⟨#[50, 50, 42]⟩ : ByteArray), .string (⟨#[50, 50, 120]⟩ : ByteArray), .string (⟨#[50, 42, 50, 50]⟩ : ByteArray), .string (⟨#[52, 52, 50]⟩ : ByteArray), .string (⟨#[42, 52, 52, 50]⟩ : ByteArray), .string (⟨#[52, 42, 50]⟩ : ByteArray), .string (⟨#[51, 51, 51]⟩ : ByteArray), .string (⟨#[42, 51, 51, 51]⟩ : ByteArray), .string (⟨#[51, 42, 51]⟩ : ByteArray), .string (⟨#[54, 51, 50]⟩ : ByteArray), .string (⟨#[42, 54, 51, 50]⟩ : ByteArray)]) (ok := fun _ => True) (okp := fun _ => True) ?hr ?hp (fun _ hk => hk) trivial (Below.refl _ _) (Nat.le_refl _) (by simp) ?_; (case hd => rfl); (case hg => rfl); (case hr => first | (go_simp; done) | (go_simp; rfl)); (case hp => exact (Reps.one (show Kd.M Kd.string _ _ _ (⟨#[111]⟩ : ByteArray) [.string (⟨#[111]⟩ : ByteArray)] from rfl) (Reps.one (show Kd.M Kd.string _ _ _ (⟨#[50, 50, 50, 50]⟩ : ByteArray) [.string (⟨#[50, 50, 50, 50]⟩ : ByteArray)] from rfl) (Reps.one (show Kd.M Kd.string _ _ _ (⟨#[42, 42]⟩ : ByteArray) [.string (⟨#[42, 42]⟩ : ByteArray)] from rfl) (Reps.one (show Kd.M Kd.string _ _ _ (⟨#[120, 120]⟩ : ByteArray) [.string (⟨#[120, 120]⟩ : ByteArray)] from rfl) (Reps.one (show Kd.M Kd.string _ _ _ (⟨#[42, 120]⟩ : ByteArray) [.string (⟨#[42, 120]⟩ : ByteArray)] from rfl) (Reps.one (show Kd.M Kd.string _ _ _ (⟨#[42, 50, 50, 50, 50]⟩ : ByteArray) [.string (⟨#[42, 50, 50, 50, 50]⟩ : ByteArray)] from rfl) (Reps.one (show Kd.M Kd.string _ _ _ (⟨#[50, 50, 42]⟩ : ByteArray) [.string (⟨#[50, 50, 42]⟩ : ByteArray)] from rfl) (Reps.one (show Kd.M Kd.string _ _ _ (⟨#[50, 50, 120]⟩ : ByteArray) [.string (⟨#[50, 50, 120]⟩ : ByteArray)] from rfl) (Reps.one (show Kd.M Kd.string _ _ _ (⟨#[50, 42, 50, 50]⟩ : ByteArray) [.string (⟨#[50, 42, 50, 50]⟩ : ByteArray)] from rfl) (Reps.one (show Kd.M Kd.string _ _ _ (⟨#[52, 52, 50]⟩ : ByteArray) [.string (⟨#[52, 52, 50]⟩ : ByteArray)] from rfl) (Reps.one (show Kd.M Kd.string _ _ _ (⟨#[42, 52, 52, 50]⟩ : ByteArray) [.string (⟨#[42, 52, 52, 50]⟩ : ByteArray)] from rfl) (Reps.one (show Kd.M Kd.string _ _ _ (⟨#[52, 42, 50]⟩ : ByteArray) [.string (⟨#[52, 42, 50]⟩ : ByteArray)] from rfl) (Reps.one (show Kd.M Kd.string _ _ _ (⟨#[51, 51, 51]⟩ : ByteArray) [.string (⟨#[51, 51, 51]⟩ : ByteArray)] from rfl) (Reps.one (show Kd.M Kd.string _ _ _ (⟨#[42, 51, 51, 51]⟩ : ByteArray) [.string (⟨#[42, 51, 51, 51]⟩ : ByteArray)] from rfl) (Reps.one (show Kd.M Kd.string _ _ _ (⟨#[51, 42, 51]⟩ : ByteArray) [.string (⟨#[51, 42, 51]⟩ : ByteArray)] from rfl) (Reps.one (show Kd.M Kd.string _ _ _ (⟨#[54, 51, 50]⟩ : ByteArray) [.string (⟨#[54, 51, 50]⟩ : ByteArray)] from rfl) (Reps.one (show Kd.M Kd.string _ _ _ (⟨#[42, 54, 51, 50]⟩ : ByteArray) [.string (⟨#[42, 54, 51, 50]⟩ : ByteArray)] from rfl) (Reps.none _ _))))))))))))))))))); intro v149 w1 ho2 hb hg_ hnew_; clear hg_ hnew_; (first | rw [← Ny148.out] at ho2 | (simp only [Int.reduceToNat] at ho2; rw [← Ny148.out] at ho2)); have HO150 := asd (Kd.R_lower ho2 (bsz0 HB)); replace HB := bS0 HB hb; clear hb ho2))
 go_ret
 exact ⟨_, by first | rfl | (simp [errW_none, errW_some] <;> rfl) | (simp [*, errW_none, errW_some] <;> rfl), by (with_reducible repeat (first | apply Kd.R_alloc | apply Kd.R_drewN | apply Kd.R_drew)); exact HO150.out, bbw0 HB⟩
/-! ### spec_SignatureOf: function 8 -/
def spec_SignatureOf.f (k : Nat) (a0 : ByteArray) : Option (ByteArray × Int) := (spec_GroupNames.f).bind fun t151 => ((spec_l12Index.f k t151 a0).bind fun t154 => (if t154 < 0 then (some ((⟨#[]⟩ : ByteArray), 4)) else ((spec_l12Signatures.f).bind fun t155 => (if 0 ≤ t154 then (if t154 < (t155.length : Int) then (some (rdOf ByteArray.empty t155 t154, 0)) else (none)) else (none)))))
set_option maxHeartbeats 8000000 in
set_option maxRecDepth 100000 in
theorem spec_SignatureOf.calls (k : Nat) (a0 : ByteArray) (r1 : ByteArray) (r2 : Int) (w : World) (h : spec_SignatureOf.f k a0 = some (r1, r2)) :
  Calls Try.prog 8 #[.string a0] w fun e w' => e = .returned (.tuple #[.string r1, .int .i64 r2]) ∧ Below w.heap.size w w' := by
 have HB := asd (Below.refl w.heap.size w)
 have H : ((spec_GroupNames.f).bind fun t151 => ((spec_l12Index.f k t151 a0).bind fun t154 => (if t154 < 0 then (some ((⟨#[]⟩ : ByteArray), 4)) else ((spec_l12Signatures.f).bind fun t155 => (if 0 ≤ t154 then (if t154 < (t155.length : Int) then (some (rdOf ByteArray.empty t155 t154, 0)) else (none)) else (none)))))) = some (r1, r2) := h
 clear h
 obtain ⟨t151, A2, H⟩ := ob H
 try dsimp only at H
 obtain ⟨t154, A3, H⟩ := ob H
 try dsimp only at H
 by_cases c4 : t154 < 0
 rw [if_pos c4] at H
 have c4b0 := decide_eq_true c4
 clear c4
 rotate_left
 rw [if_neg c4] at H
 have c4b0 := decide_eq_false c4
 clear c4
 obtain ⟨t155, A7, H⟩ := ob H
 try dsimp only at H
 by_cases c8 : 0 ≤ t154
 rw [if_pos c8] at H
 have c8b0 := decide_eq_true c8
 clear c8
 by_cases c9 : t154 < (t155.length : Int)
 rw [if_pos c9] at H
 have c9b0 := decide_eq_true c9
 clear c9
 rotate_left
 ·rw [if_neg c9] at H
  exact absurd H (by simp)
 ·rw [if_neg c8] at H
  exact absurd H (by simp)
 all_goals
  simp only [Option.some.injEq, Prod.mk.injEq] at H
  obtain ⟨rfl, rfl⟩ := H
  go_enter Try.func8, Try.ntmps8
  go_wp2_with (first | ((with_reducible refine gate_callee (f := 18) rfl ?_); refine gl 5 Try.func18 #[] ?_; (with_reducible refine (spec_GroupNames.calls _ _ A2.out).mono ?_); rintro e w5 ⟨v152, rfl, ho0, hb⟩; refine ⟨_, rfl, ?_⟩; have HO153 := asd (Kd.R_lower ho0 (bsz0 HB)); replace HB := bS0 HB hb; (try clear hb); (try clear hb2); (try clear hk); (try clear hi); (try clear ho0); obtain ⟨Ao6, co6, eo6⟩ := Kd.R_slice HO153.out; subst eo6) | ((with_reducible refine gate_callee (f := 30) rfl ?_); refine gl 7 Try.func30 #[.slice Ao6 t151.length co6, .string a0] ?_; (with_reducible refine (spec_l12Index.calls _ _ _ _ _ _ _ ?side1 ?side2 A3.out).mono ?_); (case side1 => exact ks (Kd.R_reads' HO153.out).2.2); (case side2 => exact (Kd.R_reads' HO153.out).2.1); rintro e w' ⟨rfl, ⟨nd, rfl⟩⟩; refine ⟨_, rfl, ?_⟩) | ((with_reducible refine gate_callee (f := 31) rfl ?_); refine gl 10 Try.func31 #[] ?_; (with_reducible refine (spec_l12Signatures.calls _ _ A7.out).mono ?_); rintro e w12 ⟨v156, rfl, ho0, hb⟩; refine ⟨_, rfl, ?_⟩; have HO157 := asd (Kd.R_lower (Kd.R_new' ho0 (Kd.R_lt (kr HO153))) (bsz0 HB)); replace HO153 := asd (Kd.R_elder' (kr HO153) (Kd.R_base ho0) hb); replace HB := bS0 HB hb; (try clear hb); (try clear hb2); (try clear hk); (try clear hi); (try clear ho0); obtain ⟨Ao13, co13, eo13⟩ := Kd.R_slice HO157.out; subst eo13; have p158 : 0 ≤ (t154 : Int) := od; have q158 : t154 < (t155.length : Int) := od; obtain ⟨ad158, e158, hx158_0⟩ := Kd.at_string (Kd.R_reads' HO157.out).2.2 t154 p158 q158; cases e158; replace p158 := eq_true p158; replace q158 := eq_true q158))
  go_ret2
  exact er (bbw0 HB)
/-! ### spec_DrawSignatureCost: function 9 -/
mutual
def spec_DrawSignatureCost.l0 : Nat → ByteArray → Int → List Int → Int → Int → Option (ByteArray)
 | 0, _, _, _, _, _ => none
 | k + 1, x4, x5, x163000, x163001, x163002 => if x5 > 0 then ((some (([(⟨#[111]⟩ : ByteArray), (⟨#[42]⟩ : ByteArray), (⟨#[120]⟩ : ByteArray), (⟨#[50]⟩ : ByteArray), (⟨#[51]⟩ : ByteArray), (⟨#[52]⟩ : ByteArray), (⟨#[54]⟩ : ByteArray)] : List ByteArray) : List ByteArray)).bind fun y176 => ((spec_l01Next.f x163000 x163001 x163002 7).bind fun bt179 => (if 0 ≤ bt179.1 then (if bt179.1 < (y176.length : Int) then (if x4.size + (rdOf ByteArray.empty y176 bt179.1).size ≤ 9223372036854775807 then (spec_DrawSignatureCost.l0 k (x4 ++ (rdOf ByteArray.empty y176 bt179.1)) (wrap64 (x5 - 1)) x163000 bt179.2.1 bt179.2.2) else (none)) else (none)) else (none)))) else ((spec_l01Next.f x163000 x163001 x163002 24).bind fun bt183 => (if bt183.1 = 0 then (if x4.size + 1 ≤ 9223372036854775807 then (some (x4 ++ (⟨#[53]⟩ : ByteArray))) else (none)) else (if bt183.1 = 1 then (spec_DrawSignatureCost.l1 k x4 x163000 bt183.2.1 bt183.2.2) else (some x4))))
def spec_DrawSignatureCost.l1 : Nat → ByteArray → List Int → Int → Int → Option (ByteArray)
 | 0, _, _, _, _ => none
 | k + 1, x4, x163000, x163001, x163002 => if (x4.size : Int) < 20 then (if x4.size + 1 ≤ 9223372036854775807 then (spec_DrawSignatureCost.l1 k (x4 ++ (⟨#[50]⟩ : ByteArray)) x163000 x163001 x163002) else (none)) else ((spec_l01Next.f x163000 x163001 x163002 2).bind fun bt186 => (if 0 ≤ bt186.1 then (if bt186.1 ≤ 1 then (if x4.size + ((⟨#[52]⟩ : ByteArray).extract 0 (bt186.1 : Int).toNat).size ≤ 9223372036854775807 then (some (x4 ++ ((⟨#[52]⟩ : ByteArray).extract 0 (bt186.1 : Int).toNat))) else (none)) else (none)) else (none)))
end
def spec_DrawSignatureCost.f (k : Nat) (l0 : List Int) : Option (ByteArray) := (spec_l01From.f k l0).bind fun bt159 => ((spec_l01Next.f bt159.1 bt159.2.1 bt159.2.2 3).bind fun bt163 => (if bt163.1 = 0 then ((spec_l12Signatures.f).bind fun t166 => ((spec_l01Next.f bt159.1 bt163.2.1 bt163.2.2 17).bind fun bt169 => (if 0 ≤ bt169.1 then (if bt169.1 < (t166.length : Int) then (some (rdOf ByteArray.empty t166 bt169.1)) else (none)) else (none)))) else ((spec_l01Next.f bt159.1 bt163.2.1 bt163.2.2 8).bind fun bt173 => (spec_DrawSignatureCost.l0 k (⟨#[]⟩ : ByteArray) bt173.1 bt159.1 bt173.2.1 bt173.2.2))))
set_option maxHeartbeats 8000000 in
set_option maxRecDepth 100000 in
theorem spec_DrawSignatureCost.calls (k : Nat) (A0 : Option Addr) (c0 : Nat) (l0 : List Int) (r : ByteArray) (w : World) (hr0 : Kd.C (Kd.int .u8) w A0 l0.length l0) (hc0 : l0.length ≤ c0) (h : spec_DrawSignatureCost.f k l0 = some r) :
  Calls Try.prog 9 #[.slice A0 l0.length c0] w fun e w' => e = .returned (.string r) ∧ Below w.heap.size w w' := by
 have HR0 := Aside0.mk hr0
 have HC0 := Aside0.mk hc0
 clear hr0 hc0
 have HB := asd (Below.refl w.heap.size w)
 have H : ((spec_l01From.f k l0).bind fun bt159 => ((spec_l01Next.f bt159.1 bt159.2.1 bt159.2.2 3).bind fun bt163 => (if bt163.1 = 0 then ((spec_l12Signatures.f).bind fun t166 => ((spec_l01Next.f bt159.1 bt163.2.1 bt163.2.2 17).bind fun bt169 => (if 0 ≤ bt169.1 then (if bt169.1 < (t166.length : Int) then (some (rdOf ByteArray.empty t166 bt169.1)) else (none)) else (none)))) else ((spec_l01Next.f bt159.1 bt163.2.1 bt163.2.2 8).bind fun bt173 => (spec_DrawSignatureCost.l0 k (⟨#[]⟩ : ByteArray) bt173.1 bt159.1 bt173.2.1 bt173.2.2))))) = some r := h
 clear h
 obtain ⟨⟨t159, t160, t161⟩, A2, H⟩ := ob H
 try dsimp only at H
 obtain ⟨⟨t163, t164, t165⟩, A3, H⟩ := ob H
 try dsimp only at H
 by_cases c4 : t163 = 0
 rw [if_pos c4] at H
 have c4b0 : (t163 == 0) = true := beq_iff_eq.mpr c4
 have c4b1 : (t163 != 0) = false := bne_eq_false_iff_eq.mpr c4
 clear c4
 obtain ⟨t166, A5, H⟩ := ob H
 try dsimp only at H
 obtain ⟨⟨t169, t170, t171⟩, A6, H⟩ := ob H
 try dsimp only at H
 by_cases c7 : 0 ≤ t169
 rw [if_pos c7] at H
 have c7b0 := decide_eq_true c7
 clear c7
 by_cases c8 : t169 < (t166.length : Int)
 rw [if_pos c8] at H
 have c8b0 := decide_eq_true c8
 clear c8
 obtain rfl := Option.some.inj H
 rotate_left
 ·rw [if_neg c8] at H
  exact absurd H (by simp)
 ·rw [if_neg c7] at H
  exact absurd H (by simp)
 rw [if_neg c4] at H
 have c4b0 : (t163 == 0) = false := beq_eq_false_iff_ne.mpr c4
 have c4b1 : (t163 != 0) = true := bne_iff_ne.mpr c4
 obtain ⟨⟨t173, t174, t175⟩, A14, H⟩ := ob H
 try dsimp only at H
 have H' := Aside0.mk H
 clear H
 rotate_left
 all_goals
  go_enter Try.func9, Try.ntmps9
  go_wp2_with (first | ((with_reducible refine gate_callee (f := 27) rfl ?_); refine gl 7 Try.func27 #[.slice A0 l0.length c0] ?_; (with_reducible refine (spec_l01From.calls _ _ _ _ _ _ _ w _ ?side1 ?side2 ?side3 A2.out).mono ?_); (case side1 => repeat (first | (with_reducible first | exact HB.out | apply below_alloc | apply pw_below_drewN | apply below_drew1) | exact HB.out)); (case side2 => exact HR0.out); (case side3 => exact HC0.out); rintro e w9 ⟨g162, rfl, hi, hb, hb2⟩; refine ⟨_, rfl, ?_⟩; replace HB := asd (hb); have HI162 := asd (hi); (try clear hb); (try clear hb2); (try clear hk); (try clear hi)) | ((with_reducible refine gate_callee (f := 32) rfl ?_); refine gl 9 Try.func32 #[.pointer (some ⟨g162, 0, none⟩), .int .i64 3] ?_; (with_reducible refine (spec_l01Next.calls _ _ _ _ _ _ _ _ w _ ?side1 ?side2 A3.out).mono ?_); (case side1 => repeat (first | (with_reducible first | exact HI162.out | apply IsS62.alloc | apply IsS62.drewN | apply IsS62.drew | apply IsS62.set_1 | apply IsS62.set_2) | exact HI162.out)); (case side2 => repeat (first | (with_reducible first | exact HB.out | apply below_alloc | apply pw_below_drewN | apply below_drew1 | refine below_set ?_ (IsS62.ge HI162.out)) | exact HB.out)); rintro e w10 ⟨rfl, hi, hb, hk⟩; refine ⟨_, rfl, ?_⟩; replace HB := asd (hb); replace HI162 := asd (hi); (try clear hb); (try clear hb2); (try clear hk); (try clear hi)) | ((with_reducible refine gate_callee (f := 31) rfl ?_); refine gl 11 Try.func31 #[] ?_; (with_reducible refine (spec_l12Signatures.calls _ _ A5.out).mono ?_); rintro e w11 ⟨v167, rfl, ho0, hb⟩; refine ⟨_, rfl, ?_⟩; have HO168 := asd (Kd.R_lower ho0 (below_size (by repeat (first | (with_reducible first | exact HB.out | apply below_alloc | apply pw_below_drewN | apply below_drew1 | refine below_set ?_ (IsS62.ge HI162.out)) | exact HB.out)))); replace HB := asd (below_step (by repeat (first | (with_reducible first | exact HB.out | apply below_alloc | apply pw_below_drewN | apply below_drew1 | refine below_set ?_ (IsS62.ge HI162.out)) | exact HB.out)) hb); replace HI162 := asd (IsS62.below (by repeat (first | (with_reducible first | exact HI162.out | apply IsS62.alloc | apply IsS62.drewN | apply IsS62.drew | apply IsS62.set_1 | apply IsS62.set_2) | exact HI162.out)) hb); (try clear hb); (try clear hb2); (try clear hk); (try clear hi); (try clear ho0)) | ((with_reducible refine gate_callee (f := 32) rfl ?_); refine gl 13 Try.func32 #[.pointer (some ⟨g162, 0, none⟩), .int .i64 17] ?_; (with_reducible refine (spec_l01Next.calls _ _ _ _ _ _ _ _ w _ ?side1 ?side2 A6.out).mono ?_); (case side1 => repeat (first | (with_reducible first | exact HI162.out | apply IsS62.alloc | apply IsS62.drewN | apply IsS62.drew | apply IsS62.set_1 | apply IsS62.set_2) | exact HI162.out)); (case side2 => repeat (first | (with_reducible first | exact HB.out | apply below_alloc | apply pw_below_drewN | apply below_drew1 | refine below_set ?_ (IsS62.ge HI162.out)) | exact HB.out)); rintro e w12 ⟨rfl, hi, hb, hk⟩; refine ⟨_, rfl, ?_⟩; replace HO168 := asd (Kd.R_mono (Kd.R_keep (IsS62.apart (show IsS62 w _ g162 t159 t164 t165 from by repeat (first | (with_reducible first | exact HI162.out | apply IsS62.alloc | apply IsS62.drewN | apply IsS62.drew | apply IsS62.set_1 | apply IsS62.set_2) | exact HI162.out)) (kr HO168) (by decide)) hk (fun _ h => h.2)) (fun _ h => h.1)); replace HB := asd (hb); replace HI162 := asd (hi); (try clear hb); (try clear hb2); (try clear hk); (try clear hi); obtain ⟨Ao13, co13, eo13⟩ := Kd.R_slice HO168.out; subst eo13; have p172 : 0 ≤ (t169 : Int) := od; have q172 : t169 < (t166.length : Int) := od; obtain ⟨ad172, e172, hx172_0⟩ := Kd.at_string (Kd.R_reads' HO168.out).2.2 t169 p172 q172; cases e172; replace p172 := eq_true p172; replace q172 := eq_true q172) | ((with_reducible refine gate_callee (f := 32) rfl ?_); refine gl 17 Try.func32 #[.pointer (some ⟨g162, 0, none⟩), .int .i64 8] ?_; (with_reducible refine (spec_l01Next.calls _ _ _ _ _ _ _ _ w _ ?side1 ?side2 A14.out).mono ?_); (case side1 => repeat (first | (with_reducible first | exact HI162.out | apply IsS62.alloc | apply IsS62.drewN | apply IsS62.drew | apply IsS62.set_1 | apply IsS62.set_2) | exact HI162.out)); (case side2 => repeat (first | (with_reducible first | exact HB.out | apply below_alloc | apply pw_below_drewN | apply below_drew1 | refine below_set ?_ (IsS62.ge HI162.out)) | exact HB.out)); rintro e w17 ⟨rfl, hi, hb, hk⟩; refine ⟨_, rfl, ?_⟩; replace HB := asd (hb); replace HI162 := asd (hi); (try clear hb); (try clear hb2); (try clear hk); (try clear hi)))
 ·go_ret
  exact ⟨by first | rfl | (simp [errW_none, errW_some] <;> rfl) | (simp [*, errW_none, errW_some] <;> rfl), by repeat (first | (with_reducible first | exact HB.out | apply below_alloc | apply pw_below_drewN | apply below_drew1 | refine below_set ?_ (IsS62.ge HI162.out)) | exact HB.out)⟩
 ·go_loopg [4, 5] k (fun kq v4 v5 w' => ∃ (x4_1 : ByteArray) (x5_1 : Int) (x163001_1 : Int) (x163002_1 : Int), v4 = .string x4_1 ∧ v5 = .int .i64 x5_1 ∧ Aside0 (spec_DrawSignatureCost.l0 kq x4_1 x5_1 t159 x163001_1 x163002_1 = some r) ∧ Aside0 (kq ≤ k) ∧ Aside0 (IsS62 w w' g162 t159 x163001_1 x163002_1) ∧ Aside0 (Below w.heap.size w w'))
  case atStart => exact ⟨((⟨#[]⟩ : ByteArray)), (t173), (t174), (t175), (by first | rfl | (simp; done) | (simp [*]; done)), (by first | rfl | (simp; done) | (simp [*]; done)), H', ⟨Nat.le_refl _⟩, ⟨by repeat (first | (with_reducible first | exact HI162.out | apply IsS62.alloc | apply IsS62.drewN | apply IsS62.drew | apply IsS62.set_1 | apply IsS62.set_2) | exact HI162.out)⟩, ⟨by repeat (first | (with_reducible first | exact HB.out | apply below_alloc | apply pw_below_drewN | apply below_drew1 | refine below_set ?_ (IsS62.ge HI162.out)) | exact HB.out)⟩⟩
  case round =>
   clear H'
   try clear p1
   try clear q1
   try clear hx1
   try clear c2
   try clear p2
   try clear c3
   try clear c4
   try clear c4b0
   try clear c4b1
   try clear c7
   try clear c7b0
   try clear c8
   try clear c8b0
   try clear c9
   try clear p17
   try clear q17
   try clear hx17
   try clear hx172_0
   try clear p172
   try clear q172
   obtain ⟨x4_1, x5_1, x163001_1, x163002_1, rfl, rfl, HA, HK1, HI162, HB⟩ := hrel
   cases gk with
   | zero => exact absurd HA.out (by simp [spec_DrawSignatureCost.l0])
   | succ k1 =>
    have H := HA.out
    clear HA
    simp only [spec_DrawSignatureCost.l0] at H
    by_cases c18 : x5_1 > 0
    rw [if_pos c18] at H
    have c18b0 : decide (0 < x5_1) = true := decide_eq_true c18
    clear c18
    obtain ⟨y176, hy176⟩ : ∃ y_ : List ByteArray, y_ = (([(⟨#[111]⟩ : ByteArray), (⟨#[42]⟩ : ByteArray), (⟨#[120]⟩ : ByteArray), (⟨#[50]⟩ : ByteArray), (⟨#[51]⟩ : ByteArray), (⟨#[52]⟩ : ByteArray), (⟨#[54]⟩ : ByteArray)] : List ByteArray)) := ⟨_, rfl⟩
    replace H : ((spec_l01Next.f t159 x163001_1 x163002_1 7).bind fun bt179 => (if 0 ≤ bt179.1 then (if bt179.1 < (y176.length : Int) then (if x4_1.size + (rdOf ByteArray.empty y176 bt179.1).size ≤ 9223372036854775807 then (spec_DrawSignatureCost.l0 k1 (x4_1 ++ (rdOf ByteArray.empty y176 bt179.1)) (wrap64 (x5_1 - 1)) t159 bt179.2.1 bt179.2.2) else (none)) else (none)) else (none))) = some r := by first | (rw [hy176]; with_reducible exact H) | (have H2_ := (Option.bind_some _ _).symm.trans H; rw [hy176]; with_reducible exact H2_) | (have H2_ := (Option.bind_some _ _).symm.trans H; with_reducible exact H2_) | with_reducible exact H | (rw [hy176]; exact H) | exact H
    have Ny176 := Aside0.mk hy176
    clear hy176
    obtain ⟨⟨t179, t180, t181⟩, A19, H⟩ := ob H
    try dsimp only at H
    by_cases c20 : 0 ≤ t179
    rw [if_pos c20] at H
    have c20b0 := decide_eq_true c20
    clear c20
    by_cases c21 : t179 < (y176.length : Int)
    rw [if_pos c21] at H
    have c21b0 := decide_eq_true c21
    clear c21
    by_cases c22 : x4_1.size + (rdOf ByteArray.empty y176 t179).size ≤ 9223372036854775807
    rw [if_pos c22] at H
    have c22b0 := eq_true c22
    have c22b1 := decide_eq_true c22
    rotate_left
    ·rw [if_neg c22] at H
     exact absurd H (by simp)
    ·rw [if_neg c21] at H
     exact absurd H (by simp)
    ·rw [if_neg c20] at H
     exact absurd H (by simp)
    rw [if_neg c18] at H
    have c18b0 : decide (0 < x5_1) = false := decide_eq_false c18
    clear c18
    obtain ⟨⟨t183, t184, t185⟩, A27, H⟩ := ob H
    try dsimp only at H
    by_cases c28 : t183 = 0
    rw [if_pos c28] at H
    have c28b0 : (t183 == 0) = true := beq_iff_eq.mpr c28
    have c28b1 : (t183 != 0) = false := bne_eq_false_iff_eq.mpr c28
    clear c28
    by_cases c29 : x4_1.size + 1 ≤ 9223372036854775807
    rw [if_pos c29] at H
    have c29b0 := eq_true c29
    have c29b1 := decide_eq_true c29
    rotate_left
    ·rw [if_neg c29] at H
     exact absurd H (by simp)
    rw [if_neg c28] at H
    have c28b0 : (t183 == 0) = false := beq_eq_false_iff_ne.mpr c28
    have c28b1 : (t183 != 0) = true := bne_iff_ne.mpr c28
    by_cases c31 : t183 = 1
    rw [if_pos c31] at H
    have c31b0 : (t183 == 1) = true := beq_iff_eq.mpr c31
    have c31b1 : (t183 != 1) = false := bne_eq_false_iff_eq.mpr c31
    clear c31
    have H' := Aside0.mk H
    clear H
    rotate_left
    rw [if_neg c31] at H
    have c31b0 : (t183 == 1) = false := beq_eq_false_iff_ne.mpr c31
    have c31b1 : (t183 != 1) = true := bne_iff_ne.mpr c31
    obtain rfl := Option.some.inj H
    rotate_left
    ·try have c22b2 : (9223372036854775807 < x4_1.size + (rdOf ByteArray.empty y176 t179).size) = False := eq_false (Nat.not_lt.2 c22)
     have H' := Aside0.mk H
     clear H
     go_wp2_with (first | ((with_reducible refine gd 23 rfl ?_); refine Kd.R_lit Kd.string _ 9 ?hg (N := 23) ?hd (xs := ([(⟨#[111]⟩ : ByteArray), (⟨#[42]⟩ : ByteArray), (⟨#[120]⟩ : ByteArray), (⟨#[50]⟩ : ByteArray), (⟨#[51]⟩ : ByteArray), (⟨#[52]⟩ : ByteArray), (⟨#[54]⟩ : ByteArray)] : List ByteArray)) (inner := [.string (⟨#[111]⟩ : ByteArray), .string (⟨#[42]⟩ : ByteArray), .string (⟨#[120]⟩ : ByteArray), .string (⟨#[50]⟩ : ByteArray), .string (⟨#[51]⟩ : ByteArray), .string (⟨#[52]⟩ : ByteArray), .string (⟨#[54]⟩ : ByteArray)]) (ok := fun _ => True) (okp := fun _ => True) ?hr ?hp (fun _ hk => hk) trivial (Below.refl _ _) (Nat.le_refl _) (by simp) ?_; (case hd => rfl); (case hg => rfl); (case hr => first | (go_simp; done) | (go_simp; rfl)); (case hp => exact (Reps.one (show Kd.M Kd.string _ _ _ (⟨#[111]⟩ : ByteArray) [.string (⟨#[111]⟩ : ByteArray)] from rfl) (Reps.one (show Kd.M Kd.string _ _ _ (⟨#[42]⟩ : ByteArray) [.string (⟨#[42]⟩ : ByteArray)] from rfl) (Reps.one (show Kd.M Kd.string _ _ _ (⟨#[120]⟩ : ByteArray) [.string (⟨#[120]⟩ : ByteArray)] from rfl) (Reps.one (show Kd.M Kd.string _ _ _ (⟨#[50]⟩ : ByteArray) [.string (⟨#[50]⟩ : ByteArray)] from rfl) (Reps.one (show Kd.M Kd.string _ _ _ (⟨#[51]⟩ : ByteArray) [.string (⟨#[51]⟩ : ByteArray)] from rfl) (Reps.one (show Kd.M Kd.string _ _ _ (⟨#[52]⟩ : ByteArray) [.string (⟨#[52]⟩ : ByteArray)] from rfl) (Reps.one (show Kd.M Kd.string _ _ _ (⟨#[54]⟩ : ByteArray) [.string (⟨#[54]⟩ : ByteArray)] from rfl) (Reps.none _ _))))))))); intro v177 w23 ho24 hb hg_ hnew_; clear hg_ hnew_; (first | rw [← Ny176.out] at ho24 | (simp only [Int.reduceToNat] at ho24; rw [← Ny176.out] at ho24)); have HO178 := asd (Kd.R_lower ho24 (below_size (by repeat (first | (with_reducible first | exact HB.out | apply below_alloc | apply pw_below_drewN | apply below_drew1 | refine below_set ?_ (IsS62.ge HI162.out)) | exact HB.out)))); replace HB := asd (below_step (by repeat (first | (with_reducible first | exact HB.out | apply below_alloc | apply pw_below_drewN | apply below_drew1 | refine below_set ?_ (IsS62.ge HI162.out)) | exact HB.out)) hb); replace HI162 := asd (IsS62.below (by repeat (first | (with_reducible first | exact HI162.out | apply IsS62.alloc | apply IsS62.drewN | apply IsS62.drew | apply IsS62.set_1 | apply IsS62.set_2) | exact HI162.out)) hb); clear hb ho24) | ((with_reducible refine gate_callee (f := 32) rfl ?_); refine gl 25 Try.func32 #[.pointer (some ⟨g162, 0, none⟩), .int .i64 7] ?_; (with_reducible refine (spec_l01Next.calls _ _ _ _ _ _ _ _ w _ ?side1 ?side2 A19.out).mono ?_); (case side1 => repeat (first | (with_reducible first | exact HI162.out | apply IsS62.alloc | apply IsS62.drewN | apply IsS62.drew | apply IsS62.set_1 | apply IsS62.set_2) | exact HI162.out)); (case side2 => repeat (first | (with_reducible first | exact HB.out | apply below_alloc | apply pw_below_drewN | apply below_drew1 | refine below_set ?_ (IsS62.ge HI162.out)) | exact HB.out)); rintro e w25 ⟨rfl, hi, hb, hk⟩; refine ⟨_, rfl, ?_⟩; replace HO178 := asd (Kd.R_mono (Kd.R_keep (IsS62.apart (show IsS62 w _ g162 t159 x163001_1 x163002_1 from by repeat (first | (with_reducible first | exact HI162.out | apply IsS62.alloc | apply IsS62.drewN | apply IsS62.drew | apply IsS62.set_1 | apply IsS62.set_2) | exact HI162.out)) (kr HO178) (by decide)) hk (fun _ h => h.2)) (fun _ h => h.1)); replace HB := asd (hb); replace HI162 := asd (hi); (try clear hb); (try clear hb2); (try clear hk); (try clear hi); obtain ⟨Ao26, co26, eo26⟩ := Kd.R_slice HO178.out; subst eo26; have p182 : 0 ≤ (t179 : Int) := od; have q182 : t179 < (y176.length : Int) := od; obtain ⟨ad182, e182, hx182_0⟩ := Kd.at_string (Kd.R_reads' HO178.out).2.2 t179 p182 q182; cases e182; replace p182 := eq_true p182; replace q182 := eq_true q182))
     go_roundg k1
     case measure => have := HK1.out; omega
     case rel => exact ⟨(x4_1 ++ (rdOf ByteArray.empty y176 t179)), (wrap64 (x5_1 - 1)), (t180), (t181), (by first | rfl | (simp; done) | (simp [*]; done)), (by first | rfl | (simp; done) | (simp [*]; done)), H', ⟨by have := HK1.out; omega⟩, ⟨by repeat (first | (with_reducible first | exact HI162.out | apply IsS62.alloc | apply IsS62.drewN | apply IsS62.drew | apply IsS62.set_1 | apply IsS62.set_2) | exact HI162.out)⟩, ⟨by repeat (first | (with_reducible first | exact HB.out | apply below_alloc | apply pw_below_drewN | apply below_drew1 | refine below_set ?_ (IsS62.ge HI162.out)) | exact HB.out)⟩⟩
    try have c29b2 : (9223372036854775807 < x4_1.size + 1) = False := eq_false (Nat.not_lt.2 c29)
    obtain rfl := Option.some.inj H
    rotate_left 3
    all_goals
     go_wp2_with (first | ((with_reducible refine gate_callee (f := 32) rfl ?_); refine gl 30 Try.func32 #[.pointer (some ⟨g162, 0, none⟩), .int .i64 24] ?_; (with_reducible refine (spec_l01Next.calls _ _ _ _ _ _ _ _ w _ ?side1 ?side2 A27.out).mono ?_); (case side1 => repeat (first | (with_reducible first | exact HI162.out | apply IsS62.alloc | apply IsS62.drewN | apply IsS62.drew | apply IsS62.set_1 | apply IsS62.set_2) | exact HI162.out)); (case side2 => repeat (first | (with_reducible first | exact HB.out | apply below_alloc | apply pw_below_drewN | apply below_drew1 | refine below_set ?_ (IsS62.ge HI162.out)) | exact HB.out)); rintro e w30 ⟨rfl, hi, hb, hk⟩; refine ⟨_, rfl, ?_⟩; replace HB := asd (hb); replace HI162 := asd (hi); (try clear hb); (try clear hb2); (try clear hk); (try clear hi)))
    rotate_left
    ·go_loopg [4] k1 (fun kq v4 w' => ∃ (x4_2 : ByteArray), v4 = .string x4_2 ∧ Aside0 (spec_DrawSignatureCost.l1 kq x4_2 t159 t184 t185 = some r) ∧ Aside0 (kq ≤ k1) ∧ Aside0 (IsS62 w w' g162 t159 t184 t185) ∧ Aside0 (Below w.heap.size w w'))
     case atStart => exact ⟨(x4_1), (by first | rfl | (simp; done) | (simp [*]; done)), H', ⟨Nat.le_refl _⟩, ⟨by repeat (first | (with_reducible first | exact HI162.out | apply IsS62.alloc | apply IsS62.drewN | apply IsS62.drew | apply IsS62.set_1 | apply IsS62.set_2) | exact HI162.out)⟩, ⟨by repeat (first | (with_reducible first | exact HB.out | apply below_alloc | apply pw_below_drewN | apply below_drew1 | refine below_set ?_ (IsS62.ge HI162.out)) | exact HB.out)⟩⟩
     case round =>
      clear H'
      try clear c1
      try clear p1
      try clear q1
      try clear hx1
      try clear c2
      try clear p2
      try clear c3
      try clear c4
      try clear c4b0
      try clear c4b1
      try clear p6
      try clear c7
      try clear c7b0
      try clear c8
      try clear c8b0
      try clear c9
      try clear p17
      try clear q17
      try clear hx17
      try clear c18
      try clear c18b0
      try clear p18
      try clear q18
      try clear hx18
      try clear c20
      try clear c20b0
      try clear c21
      try clear c21b0
      try clear c22
      try clear c22b0
      try clear c22b1
      try clear c22b2
      try clear c27
      try clear c28
      try clear c28b0
      try clear c28b1
      try clear c29
      try clear c29b0
      try clear c29b1
      try clear c29b2
      try clear c31
      try clear c31b0
      try clear c31b1
      try clear c32
      try clear hx172_0
      try clear hx182_0
      try clear p1
      try clear p17
      try clear p172
      try clear p182
      try clear p2
      try clear q1
      try clear q17
      try clear q172
      try clear q182
      obtain ⟨x4_2, rfl, HA, HK2, HI162, HB⟩ := hrel
      cases gk with
      | zero => exact absurd HA.out (by simp [spec_DrawSignatureCost.l1])
      | succ k2 =>
       have H := HA.out
       clear HA
       simp only [spec_DrawSignatureCost.l1] at H
       by_cases c33 : (x4_2.size : Int) < 20
       ·rw [if_pos c33] at H
        have c33b0 := decide_eq_true c33
        have c33b1 : decide (x4_2.size < 20) = true := decide_eq_true (by omega)
        clear c33
        by_cases c34 : x4_2.size + 1 ≤ 9223372036854775807
        ·rw [if_pos c34] at H
         have c34b0 := eq_true c34
         have c34b1 := decide_eq_true c34
         try have c34b2 : (9223372036854775807 < x4_2.size + 1) = False := eq_false (Nat.not_lt.2 c34)
         have H' := Aside0.mk H
         clear H
         go_wp2
         go_roundg k2
         case measure => have := HK1.out; have := HK2.out; omega
         case rel => exact ⟨(x4_2 ++ (⟨#[50]⟩ : ByteArray)), (by first | rfl | (simp; done) | (simp [*]; done)), H', ⟨by have := HK1.out; have := HK2.out; omega⟩, ⟨by repeat (first | (with_reducible first | exact HI162.out | apply IsS62.alloc | apply IsS62.drewN | apply IsS62.drew | apply IsS62.set_1 | apply IsS62.set_2) | exact HI162.out)⟩, ⟨by repeat (first | (with_reducible first | exact HB.out | apply below_alloc | apply pw_below_drewN | apply below_drew1 | refine below_set ?_ (IsS62.ge HI162.out)) | exact HB.out)⟩⟩
        ·rw [if_neg c34] at H
         exact absurd H (by simp)
       ·rw [if_neg c33] at H
        have c33b0 := decide_eq_false c33
        have c33b1 : decide (x4_2.size < 20) = false := decide_eq_false (by omega)
        clear c33
        obtain ⟨⟨t186, t187, t188⟩, A35, H⟩ := ob H
        try dsimp only at H
        by_cases c36 : 0 ≤ t186
        ·rw [if_pos c36] at H
         have c36b0 := eq_true c36
         have c36b1 := decide_eq_true c36
         clear c36
         by_cases c37 : t186 ≤ 1
         ·rw [if_pos c37] at H
          have c37b0 := eq_true c37
          have c37b1 := decide_eq_true c37
          clear c37
          by_cases c38 : x4_2.size + ((⟨#[52]⟩ : ByteArray).extract 0 (t186 : Int).toNat).size ≤ 9223372036854775807
          ·rw [if_pos c38] at H
           have c38b0 := eq_true c38
           have c38b1 := decide_eq_true c38
           try have c38b2 : (9223372036854775807 < x4_2.size + ((⟨#[52]⟩ : ByteArray).extract 0 (t186 : Int).toNat).size) = False := eq_false (Nat.not_lt.2 c38)
           obtain rfl := Option.some.inj H
           go_wp2_with (first | ((with_reducible refine gate_callee (f := 32) rfl ?_); refine gl 44 Try.func32 #[.pointer (some ⟨g162, 0, none⟩), .int .i64 2] ?_; (with_reducible refine (spec_l01Next.calls _ _ _ _ _ _ _ _ w _ ?side1 ?side2 A35.out).mono ?_); (case side1 => repeat (first | (with_reducible first | exact HI162.out | apply IsS62.alloc | apply IsS62.drewN | apply IsS62.drew | apply IsS62.set_1 | apply IsS62.set_2) | exact HI162.out)); (case side2 => repeat (first | (with_reducible first | exact HB.out | apply below_alloc | apply pw_below_drewN | apply below_drew1 | refine below_set ?_ (IsS62.ge HI162.out)) | exact HB.out)); rintro e w39 ⟨rfl, hi, hb, hk⟩; refine ⟨_, rfl, ?_⟩; replace HB := asd (hb); replace HI162 := asd (hi); (try clear hb); (try clear hb2); (try clear hk); (try clear hi)))
           go_ret
           exact ⟨by first | rfl | (simp [errW_none, errW_some] <;> rfl) | (simp [*, errW_none, errW_some] <;> rfl), by repeat (first | (with_reducible first | exact HB.out | apply below_alloc | apply pw_below_drewN | apply below_drew1 | refine below_set ?_ (IsS62.ge HI162.out)) | exact HB.out)⟩
          ·rw [if_neg c38] at H
           exact absurd H (by simp)
         ·rw [if_neg c37] at H
          exact absurd H (by simp)
        ·rw [if_neg c36] at H
         exact absurd H (by simp)
    rotate_left
    all_goals
     go_ret
     exact ⟨by first | rfl | (simp [errW_none, errW_some] <;> rfl) | (simp [*, errW_none, errW_some] <;> rfl), by repeat (first | (with_reducible first | exact HB.out | apply below_alloc | apply pw_below_drewN | apply below_drew1 | refine below_set ?_ (IsS62.ge HI162.out)) | exact HB.out)⟩
/-! ### impl_SignatureCost: function 10 -/
def impl_SignatureCost.l0 : Nat → ByteArray → Int → Int → Int → Int → Option (Int × Int)
 | 0, _, _, _, _, _ => none
 | k + 1, x0, x4, x5, x9, x10 => if x10 < x9 then (if 0 ≤ x10 then (if x10 < (x0.size : Int) then (if (bt x0 x10) = 111 then (impl_SignatureCost.l0 k x0 (wrap64 (x4 + 48)) x5 x9 (wrap64 (x10 + 1))) else (if (bt x0 x10) = 42 then (impl_SignatureCost.l0 k x0 (wrap64 (x4 + 24)) 2 x9 (wrap64 (x10 + 1))) else (if (bt x0 x10) = 120 then (impl_SignatureCost.l0 k x0 (wrap64 (x4 + 24)) x5 x9 (wrap64 (x10 + 1))) else (if (bt x0 x10) = 50 then (if (wrap64 ((wrap64 (bt x0 x10)) - 48)) = 0 then (none) else (if x5 = 0 then (none) else (impl_SignatureCost.l0 k x0 (wrap64 (x4 + (wrap64 (Int.tdiv (wrap64 (Int.tdiv (wrap64 (24 * (wrap64 ((wrap64 ((wrap64 (bt x0 x10)) - 48)) - 1)))) (wrap64 ((wrap64 (bt x0 x10)) - 48)))) x5)))) x5 x9 (wrap64 (x10 + 1))))) else (if (bt x0 x10) = 51 then (if (wrap64 ((wrap64 (bt x0 x10)) - 48)) = 0 then (none) else (if x5 = 0 then (none) else (impl_SignatureCost.l0 k x0 (wrap64 (x4 + (wrap64 (Int.tdiv (wrap64 (Int.tdiv (wrap64 (24 * (wrap64 ((wrap64 ((wrap64 (bt x0 x10)) - 48)) - 1)))) (wrap64 ((wrap64 (bt x0 x10)) - 48)))) x5)))) x5 x9 (wrap64 (x10 + 1))))) else (if (bt x0 x10) = 52 then (if (wrap64 ((wrap64 (bt x0 x10)) - 48)) = 0 then (none) else (if x5 = 0 then (none) else (impl_SignatureCost.l0 k x0 (wrap64 (x4 + (wrap64 (Int.tdiv (wrap64 (Int.tdiv (wrap64 (24 * (wrap64 ((wrap64 ((wrap64 (bt x0 x10)) - 48)) - 1)))) (wrap64 ((wrap64 (bt x0 x10)) - 48)))) x5)))) x5 x9 (wrap64 (x10 + 1))))) else (if (bt x0 x10) = 54 then (if (wrap64 ((wrap64 (bt x0 x10)) - 48)) = 0 then (none) else (if x5 = 0 then (none) else (impl_SignatureCost.l0 k x0 (wrap64 (x4 + (wrap64 (Int.tdiv (wrap64 (Int.tdiv (wrap64 (24 * (wrap64 ((wrap64 ((wrap64 (bt x0 x10)) - 48)) - 1)))) (wrap64 ((wrap64 (bt x0 x10)) - 48)))) x5)))) x5 x9 (wrap64 (x10 + 1))))) else (some (0, 6))))))))) else (none)) else (none)) else (if (x0.size : Int) > 20 then (some (0, 6)) else (some (x4, 0)))
def impl_SignatureCost.f (k : Nat) (a0 : ByteArray) : Option (Int × Int) := impl_SignatureCost.l0 k a0 0 1 (a0.size : Int) 0
set_option maxHeartbeats 8000000 in
set_option maxRecDepth 100000 in
theorem impl_SignatureCost.calls (k : Nat) (a0 : ByteArray) (r1 : Int) (r2 : Int) (w : World) (h : impl_SignatureCost.f k a0 = some (r1, r2)) :
  Calls Try.prog 10 #[.string a0] w fun e w' => e = .returned (.tuple #[.int .i64 r1, .int .i64 r2]) ∧ Drawn0 w w' := by
 have H : (impl_SignatureCost.l0 k a0 0 1 (a0.size : Int) 0) = some (r1, r2) := h
 clear h
 have H' := Aside0.mk H
 clear H
 go_enter Try.func10, Try.ntmps10
 go_wp2
 go_loopg [4, 5, 10] k (fun kq v4 v5 v10 w' => ∃ (x4_1 : Int) (x5_1 : Int) (x10_1 : Int), v4 = .int .i64 x4_1 ∧ v5 = .int .i64 x5_1 ∧ v10 = .int .i64 x10_1 ∧ Aside0 (impl_SignatureCost.l0 kq a0 x4_1 x5_1 (a0.size : Int) x10_1 = some (r1, r2)) ∧ Aside0 (kq ≤ k) ∧ Drawn0 w w')
 case atStart => exact ⟨(0), (1), (0), (by first | rfl | (simp; done) | (simp [*]; done)), (by first | rfl | (simp; done) | (simp [*]; done)), (by first | rfl | (simp; done) | (simp [*]; done)), H', ⟨Nat.le_refl _⟩, by repeat (first | exact Drawn0.refl _ | apply Drawn0.step)⟩
 case round =>
  clear H'
  try clear c1
  obtain ⟨x4_1, x5_1, x10_1, rfl, rfl, rfl, HA, HK1, ⟨m1, rfl⟩⟩ := hrel
  cases gk with
  | zero => exact absurd HA.out (by simp [impl_SignatureCost.l0])
  | succ k1 =>
   have H := HA.out
   clear HA
   simp only [impl_SignatureCost.l0] at H
   by_cases c2 : x10_1 < (a0.size : Int)
   rw [if_pos c2] at H
   have c2b0 := decide_eq_true c2
   clear c2
   by_cases c3 : 0 ≤ x10_1
   rw [if_pos c3] at H
   have c3b0 := decide_eq_true c3
   clear c3
   by_cases c4 : x10_1 < (a0.size : Int)
   rw [if_pos c4] at H
   have c4b0 := decide_eq_true c4
   clear c4
   by_cases c7 : (bt a0 x10_1) = 111
   rw [if_pos c7] at H
   have c7b0 : ((bt a0 x10_1) == 111) = true := beq_iff_eq.mpr c7
   have c7b1 : ((bt a0 x10_1) != 111) = false := bne_eq_false_iff_eq.mpr c7
   clear c7
   have H' := Aside0.mk H
   clear H
   rotate_left
   rw [if_neg c7] at H
   have c7b0 : ((bt a0 x10_1) == 111) = false := beq_eq_false_iff_ne.mpr c7
   have c7b1 : ((bt a0 x10_1) != 111) = true := bne_iff_ne.mpr c7
   by_cases c8 : (bt a0 x10_1) = 42
   rw [if_pos c8] at H
   have c8b0 : ((bt a0 x10_1) == 42) = true := beq_iff_eq.mpr c8
   have c8b1 : ((bt a0 x10_1) != 42) = false := bne_eq_false_iff_eq.mpr c8
   clear c8
   have H' := Aside0.mk H
   clear H
   rotate_left
   rw [if_neg c8] at H
   have c8b0 : ((bt a0 x10_1) == 42) = false := beq_eq_false_iff_ne.mpr c8
   have c8b1 : ((bt a0 x10_1) != 42) = true := bne_iff_ne.mpr c8
   by_cases c9 : (bt a0 x10_1) = 120
   rw [if_pos c9] at H
   have c9b0 : ((bt a0 x10_1) == 120) = true := beq_iff_eq.mpr c9
   have c9b1 : ((bt a0 x10_1) != 120) = false := bne_eq_false_iff_eq.mpr c9
   clear c9
   have H' := Aside0.mk H
   clear H
   rotate_left
   rw [if_neg c9] at H
   have c9b0 : ((bt a0 x10_1) == 120) = false := beq_eq_false_iff_ne.mpr c9
   have c9b1 : ((bt a0 x10_1) != 120) = true := bne_iff_ne.mpr c9
   by_cases c10 : (bt a0 x10_1) = 50
   rw [if_pos c10] at H
   have c10b0 : ((bt a0 x10_1) == 50) = true := beq_iff_eq.mpr c10
   have c10b1 : ((bt a0 x10_1) != 50) = false := bne_eq_false_iff_eq.mpr c10
   clear c10
   by_cases c11 : (wrap64 ((wrap64 (bt a0 x10_1)) - 48)) = 0
   ·rw [if_pos c11] at H
    exact absurd H (by simp)
   rw [if_neg c11] at H
   have c11b0 : ((wrap64 ((wrap64 (bt a0 x10_1)) - 48)) == 0) = false := beq_eq_false_iff_ne.mpr c11
   have c11b1 : ((wrap64 ((wrap64 (bt a0 x10_1)) - 48)) != 0) = true := bne_iff_ne.mpr c11
   by_cases c12 : x5_1 = 0
   ·rw [if_pos c12] at H
    exact absurd H (by simp)
   rw [if_neg c12] at H
   have c12b0 : (x5_1 == 0) = false := beq_eq_false_iff_ne.mpr c12
   have c12b1 : (x5_1 != 0) = true := bne_iff_ne.mpr c12
   have H' := Aside0.mk H
   clear H
   rotate_left
   rw [if_neg c10] at H
   have c10b0 : ((bt a0 x10_1) == 50) = false := beq_eq_false_iff_ne.mpr c10
   have c10b1 : ((bt a0 x10_1) != 50) = true := bne_iff_ne.mpr c10
   by_cases c13 : (bt a0 x10_1) = 51
   rw [if_pos c13] at H
   have c13b0 : ((bt a0 x10_1) == 51) = true := beq_iff_eq.mpr c13
   have c13b1 : ((bt a0 x10_1) != 51) = false := bne_eq_false_iff_eq.mpr c13
   clear c13
   by_cases c14 : (wrap64 ((wrap64 (bt a0 x10_1)) - 48)) = 0
   ·rw [if_pos c14] at H
    exact absurd H (by simp)
   rw [if_neg c14] at H
   have c14b0 : ((wrap64 ((wrap64 (bt a0 x10_1)) - 48)) == 0) = false := beq_eq_false_iff_ne.mpr c14
   have c14b1 : ((wrap64 ((wrap64 (bt a0 x10_1)) - 48)) != 0) = true := bne_iff_ne.mpr c14
   by_cases c15 : x5_1 = 0
   ·rw [if_pos c15] at H
    exact absurd H (by simp)
   rw [if_neg c15] at H
   have c15b0 : (x5_1 == 0) = false := beq_eq_false_iff_ne.mpr c15
   have c15b1 : (x5_1 != 0) = true := bne_iff_ne.mpr c15
   have H' := Aside0.mk H
   clear H
   rotate_left
   rw [if_neg c13] at H
   have c13b0 : ((bt a0 x10_1) == 51) = false := beq_eq_false_iff_ne.mpr c13
   have c13b1 : ((bt a0 x10_1) != 51) = true := bne_iff_ne.mpr c13
   by_cases c16 : (bt a0 x10_1) = 52
   rw [if_pos c16] at H
   have c16b0 : ((bt a0 x10_1) == 52) = true := beq_iff_eq.mpr c16
   have c16b1 : ((bt a0 x10_1) != 52) = false := bne_eq_false_iff_eq.mpr c16
   clear c16
   by_cases c17 : (wrap64 ((wrap64 (bt a0 x10_1)) - 48)) = 0
   ·rw [if_pos c17] at H
    exact absurd H (by simp)
   rw [if_neg c17] at H
   have c17b0 : ((wrap64 ((wrap64 (bt a0 x10_1)) - 48)) == 0) = false := beq_eq_false_iff_ne.mpr c17
   have c17b1 : ((wrap64 ((wrap64 (bt a0 x10_1)) - 48)) != 0) = true := bne_iff_ne.mpr c17
   by_cases c18 : x5_1 = 0
   ·rw [if_pos c18] at H
    exact absurd H (by simp)
   rw [if_neg c18] at H
   have c18b0 : (x5_1 == 0) = false := beq_eq_false_iff_ne.mpr c18
   have c18b1 : (x5_1 != 0) = true := bne_iff_ne.mpr c18
   have H' := Aside0.mk H
   clear H
   rotate_left
   rw [if_neg c16] at H
   have c16b0 : ((bt a0 x10_1) == 52) = false := beq_eq_false_iff_ne.mpr c16
   have c16b1 : ((bt a0 x10_1) != 52) = true := bne_iff_ne.mpr c16
   by_cases c19 : (bt a0 x10_1) = 54
   rw [if_pos c19] at H
   have c19b0 : ((bt a0 x10_1) == 54) = true := beq_iff_eq.mpr c19
   have c19b1 : ((bt a0 x10_1) != 54) = false := bne_eq_false_iff_eq.mpr c19
   clear c19
   by_cases c20 : (wrap64 ((wrap64 (bt a0 x10_1)) - 48)) = 0
   ·rw [if_pos c20] at H
    exact absurd H (by simp)
   rw [if_neg c20] at H
   have c20b0 : ((wrap64 ((wrap64 (bt a0 x10_1)) - 48)) == 0) = false := beq_eq_false_iff_ne.mpr c20
   have c20b1 : ((wrap64 ((wrap64 (bt a0 x10_1)) - 48)) != 0) = true := bne_iff_ne.mpr c20
   by_cases c21 : x5_1 = 0
   ·rw [if_pos c21] at H
    exact absurd H (by simp)
   rw [if_neg c21] at H
   have c21b0 : (x5_1 == 0) = false := beq_eq_false_iff_ne.mpr c21
   have c21b1 : (x5_1 != 0) = true := bne_iff_ne.mpr c21
   have H' := Aside0.mk H
   clear H
   rotate_left
   rw [if_neg c19] at H
   have c19b0 : ((bt a0 x10_1) == 54) = false := beq_eq_false_iff_ne.mpr c19
   have c19b1 : ((bt a0 x10_1) != 54) = true := bne_iff_ne.mpr c19
   rotate_left
   ·rw [if_neg c4] at H
    exact absurd H (by simp)
   ·rw [if_neg c3] at H
    exact absurd H (by simp)
   rw [if_neg c2] at H
   have c2b0 := decide_eq_false c2
   clear c2
   by_cases c22 : (a0.size : Int) > 20
   rw [if_pos c22] at H
   have c22b0 : decide (20 < (a0.size : Int)) = true := decide_eq_true c22
   have c22b1 : decide (20 < a0.size) = true := decide_eq_true (by omega)
   clear c22
   rotate_left
   rw [if_neg c22] at H
   have c22b0 : decide (20 < (a0.size : Int)) = false := decide_eq_false c22
   have c22b1 : decide (20 < a0.size) = false := decide_eq_false (by omega)
   clear c22
   rotate_left
   rotate_left 7
   simp only [Option.some.injEq, Prod.mk.injEq] at H
   obtain ⟨rfl, rfl⟩ := H
   rotate_left
   ·simp only [Option.some.injEq, Prod.mk.injEq] at H
    obtain ⟨rfl, rfl⟩ := H
    go_wp2
    go_ret2
    exact ⟨by first | rfl | (simp; done) | (simp [*]; done), by repeat (first | exact Drawn0.refl _ | apply Drawn0.step)⟩
   ·simp only [Option.some.injEq, Prod.mk.injEq] at H
    obtain ⟨rfl, rfl⟩ := H
    go_wp2
    go_ret2
    exact ⟨by first | rfl | (simp; done) | (simp [*]; done), by repeat (first | exact Drawn0.refl _ | apply Drawn0.step)⟩
   all_goals
    have p5 : 0 ≤ (x10_1 : Int) := od
    have q5 : x10_1 < (a0.size : Int) := od
    have hx5 := bt_at a0 x10_1
    replace p5 := eq_true p5
    replace q5 := eq_true q5
    have p6 : 0 ≤ (x10_1 : Int) := od
    have q6 : x10_1 < (a0.size : Int) := od
    have hx6 := bt_at a0 x10_1
    replace p6 := eq_true p6
    replace q6 := eq_true q6
    go_wp2
   ·go_roundg k1
    case measure => have := HK1.out; omega
    case rel => exact ⟨(wrap64 (x4_1 + 48)), (x5_1), (wrap64 (x10_1 + 1)), (by first | rfl | (simp; done) | (simp [*]; done)), (by first | rfl | (simp; done) | (simp [*]; done)), (by first | rfl | (simp; done) | (simp [*]; done)), H', ⟨by have := HK1.out; omega⟩, by repeat (first | exact Drawn0.refl _ | apply Drawn0.step)⟩
   ·go_roundg k1
    case measure => have := HK1.out; omega
    case rel => exact ⟨(wrap64 (x4_1 + 24)), (2), (wrap64 (x10_1 + 1)), (by first | rfl | (simp; done) | (simp [*]; done)), (by first | rfl | (simp; done) | (simp [*]; done)), (by first | rfl | (simp; done) | (simp [*]; done)), H', ⟨by have := HK1.out; omega⟩, by repeat (first | exact Drawn0.refl _ | apply Drawn0.step)⟩
   ·go_roundg k1
    case measure => have := HK1.out; omega
    case rel => exact ⟨(wrap64 (x4_1 + 24)), (x5_1), (wrap64 (x10_1 + 1)), (by first | rfl | (simp; done) | (simp [*]; done)), (by first | rfl | (simp; done) | (simp [*]; done)), (by first | rfl | (simp; done) | (simp [*]; done)), H', ⟨by have := HK1.out; omega⟩, by repeat (first | exact Drawn0.refl _ | apply Drawn0.step)⟩
   rotate_left 4
   ·go_ret2
    exact ⟨by first | rfl | (simp; done) | (simp [*]; done), by repeat (first | exact Drawn0.refl _ | apply Drawn0.step)⟩
   all_goals
    go_roundg k1
    case measure => have := HK1.out; omega
    case rel => exact ⟨(wrap64 (x4_1 + (wrap64 (Int.tdiv (wrap64 (Int.tdiv (wrap64 (24 * (wrap64 ((wrap64 ((wrap64 (bt a0 x10_1)) - 48)) - 1)))) (wrap64 ((wrap64 (bt a0 x10_1)) - 48)))) x5_1)))), (x5_1), (wrap64 (x10_1 + 1)), (by first | rfl | (simp; done) | (simp [*]; done)), (by first | rfl | (simp; done) | (simp [*]; done)), (by first | rfl | (simp; done) | (simp [*]; done)), H', ⟨by have := HK1.out; omega⟩, by repeat (first | exact Drawn0.refl _ | apply Drawn0.step)⟩
/-! ### spec_l01Has: function 33 -/
def spec_l01Has.l0 : Nat → List Int → Int → Int → Option (Bool)
 | 0, _, _, _ => none
 | k + 1, x0, x1, x5 => if x5 < (x0.length : Int) then (if 0 ≤ x5 then (if (rd x0 x5) = x1 then (some true) else (spec_l01Has.l0 k x0 x1 (wrap64 (x5 + 1)))) else (none)) else (some false)
def spec_l01Has.f (k : Nat) (l0 : List Int) (a1 : Int) : Option (Bool) := spec_l01Has.l0 k l0 a1 0
set_option maxHeartbeats 8000000 in
set_option maxRecDepth 100000 in
theorem spec_l01Has.calls (k : Nat) (A0 : Option Addr) (c0 : Nat) (l0 : List Int) (a1 : Int) (r : Bool) (w : World) (hr0 : Kd.C (Kd.int .i64) w A0 l0.length l0) (hc0 : l0.length ≤ c0) (h : spec_l01Has.f k l0 a1 = some r) :
  Calls Try.prog 33 #[.slice A0 l0.length c0, .int .i64 a1] w fun e w' => e = .returned (.bool r) ∧ Drawn0 w w' := by
 have HR0 := Aside0.mk hr0
 have HC0 := Aside0.mk hc0
 clear hr0 hc0
 have H : (spec_l01Has.l0 k l0 a1 0) = some r := h
 clear h
 have H' := Aside0.mk H
 clear H
 go_enter Try.func33, Try.ntmps33
 go_wp2
 go_loopg [5] k (fun kq v5 w' => ∃ (x5_1 : Int), v5 = .int .i64 x5_1 ∧ Aside0 (spec_l01Has.l0 kq l0 a1 x5_1 = some r) ∧ Aside0 (kq ≤ k) ∧ Drawn0 w w')
 case atStart => exact ⟨(0), (by first | rfl | (simp; done) | (simp [*]; done)), H', ⟨Nat.le_refl _⟩, by repeat (first | exact Drawn0.refl _ | apply Drawn0.step)⟩
 case round =>
  clear H'
  try clear p2
  obtain ⟨x5_1, rfl, HA, HK1, ⟨m1, rfl⟩⟩ := hrel
  cases gk with
  | zero => exact absurd HA.out (by simp [spec_l01Has.l0])
  | succ k1 =>
   have H := HA.out
   clear HA
   simp only [spec_l01Has.l0] at H
   by_cases c3 : x5_1 < (l0.length : Int)
   rw [if_pos c3] at H
   have c3b0 := decide_eq_true c3
   clear c3
   by_cases c4 : 0 ≤ x5_1
   rw [if_pos c4] at H
   have c4b0 := decide_eq_true c4
   clear c4
   by_cases c5 : (rd l0 x5_1) = a1
   rw [if_pos c5] at H
   have c5b0 : ((rd l0 x5_1) == a1) = true := beq_iff_eq.mpr c5
   have c5b1 : ((rd l0 x5_1) != a1) = false := bne_eq_false_iff_eq.mpr c5
   clear c5
   obtain rfl := Option.some.inj H
   rotate_left
   rw [if_neg c5] at H
   have c5b0 : ((rd l0 x5_1) == a1) = false := beq_eq_false_iff_ne.mpr c5
   have c5b1 : ((rd l0 x5_1) != a1) = true := bne_iff_ne.mpr c5
   have H' := Aside0.mk H
   clear H
   rotate_left
   ·rw [if_neg c4] at H
    exact absurd H (by simp)
   rw [if_neg c3] at H
   have c3b0 := decide_eq_false c3
   clear c3
   obtain rfl := Option.some.inj H
   rotate_left
   rotate_left 2
   ·go_wp2
    go_ret
    exact ⟨by first | rfl | (simp; done) | (simp [*]; done), by repeat (first | exact Drawn0.refl _ | apply Drawn0.step)⟩
   all_goals
    have p189 : 0 ≤ (x5_1 : Int) := od
    have q189 : x5_1 < (l0.length : Int) := od
    obtain ⟨ad189, e189, hx189_0⟩ := Kd.at_int HR0.out x5_1 p189 q189
    cases e189
    replace p189 := eq_true p189
    replace q189 := eq_true q189
    go_wp2
   ·go_ret
    exact ⟨by first | rfl | (simp; done) | (simp [*]; done), by repeat (first | exact Drawn0.refl _ | apply Drawn0.step)⟩
   ·go_roundg k1
    case measure => have := HK1.out; omega
    case rel => exact ⟨(wrap64 (x5_1 + 1)), (by first | rfl | (simp; done) | (simp [*]; done)), H', ⟨by have := HK1.out; omega⟩, by repeat (first | exact Drawn0.refl _ | apply Drawn0.step)⟩
/-! ### spec_SignatureCost: function 11 -/
def spec_SignatureCost.l0 : Nat → ByteArray → Int → Bool → Int → Option (Int × Int)
 | 0, _, _, _, _ => none
 | k + 1, x0, x4, x5, x6 => if x6 < (x0.size : Int) then (if 0 ≤ x6 then (if (bt x0 x6) = 111 then (spec_SignatureCost.l0 k x0 (wrap64 (x4 + 48)) x5 (wrap64 (x6 + 1))) else (if (bt x0 x6) = 42 then (spec_SignatureCost.l0 k x0 (wrap64 (x4 + 24)) true (wrap64 (x6 + 1))) else (if (bt x0 x6) = 120 then (spec_SignatureCost.l0 k x0 (wrap64 (x4 + 24)) x5 (wrap64 (x6 + 1))) else ((spec_l01Has.f k (([2, 3, 4, 6] : List Int)) (wrap64 ((wrap64 (bt x0 x6)) - 48))).bind fun t193 => (if t193 = true then (if x5 = true then (if (wrap64 ((wrap64 (bt x0 x6)) - 48)) = 0 then (none) else (spec_SignatureCost.l0 k x0 (wrap64 (x4 + (wrap64 (Int.tdiv (wrap64 (12 * (wrap64 ((wrap64 ((wrap64 (bt x0 x6)) - 48)) - 1)))) (wrap64 ((wrap64 (bt x0 x6)) - 48)))))) x5 (wrap64 (x6 + 1)))) else (if (wrap64 ((wrap64 (bt x0 x6)) - 48)) = 0 then (none) else (spec_SignatureCost.l0 k x0 (wrap64 (x4 + (wrap64 (Int.tdiv (wrap64 (24 * (wrap64 ((wrap64 ((wrap64 (bt x0 x6)) - 48)) - 1)))) (wrap64 ((wrap64 (bt x0 x6)) - 48)))))) x5 (wrap64 (x6 + 1))))) else (some (0, 6))))))) else (none)) else (if (x0.size : Int) > 20 then (some (0, 6)) else (some (x4, 0)))
def spec_SignatureCost.f (k : Nat) (a0 : ByteArray) : Option (Int × Int) := spec_SignatureCost.l0 k a0 0 false 0
set_option maxHeartbeats 8000000 in
set_option maxRecDepth 100000 in
theorem spec_SignatureCost.calls (k : Nat) (a0 : ByteArray) (r1 : Int) (r2 : Int) (w : World) (h : spec_SignatureCost.f k a0 = some (r1, r2)) :
  Calls Try.prog 11 #[.string a0] w fun e w' => e = .returned (.tuple #[.int .i64 r1, .int .i64 r2]) ∧ Below w.heap.size w w' := by
 have HB := asd (Below.refl w.heap.size w)
 have H : (spec_SignatureCost.l0 k a0 0 false 0) = some (r1, r2) := h
 clear h
 have H' := Aside0.mk H
 clear H
 go_enter Try.func11, Try.ntmps11
 go_wp2
 go_loopg [4, 5, 6] k (fun kq v4 v5 v6 w' => ∃ (x4_1 : Int) (x5_1 : Bool) (x6_1 : Int), v4 = .int .i64 x4_1 ∧ v5 = .bool x5_1 ∧ v6 = .int .i64 x6_1 ∧ Aside0 (spec_SignatureCost.l0 kq a0 x4_1 x5_1 x6_1 = some (r1, r2)) ∧ Aside0 (kq ≤ k) ∧ Aside0 (Below w.heap.size w w'))
 case atStart => exact ⟨(0), (false), (0), (by first | rfl | (simp; done) | (simp [*]; done)), (by first | rfl | (simp; done) | (simp [*]; done)), (by first | rfl | (simp; done) | (simp [*]; done)), H', ⟨Nat.le_refl _⟩, ⟨bbw0 HB⟩⟩
 case round =>
  clear H'
  try clear c1
  obtain ⟨x4_1, x5_1, x6_1, rfl, rfl, rfl, HA, HK1, HB⟩ := hrel
  cases gk with
  | zero => exact absurd HA.out (by simp [spec_SignatureCost.l0])
  | succ k1 =>
   have H := HA.out
   clear HA
   simp only [spec_SignatureCost.l0] at H
   by_cases c2 : x6_1 < (a0.size : Int)
   rw [if_pos c2] at H
   have c2b0 := decide_eq_true c2
   clear c2
   by_cases c3 : 0 ≤ x6_1
   rw [if_pos c3] at H
   have c3b0 := decide_eq_true c3
   clear c3
   by_cases c6 : (bt a0 x6_1) = 111
   rw [if_pos c6] at H
   have c6b0 : ((bt a0 x6_1) == 111) = true := beq_iff_eq.mpr c6
   have c6b1 : ((bt a0 x6_1) != 111) = false := bne_eq_false_iff_eq.mpr c6
   clear c6
   have H' := Aside0.mk H
   clear H
   rotate_left
   rw [if_neg c6] at H
   have c6b0 : ((bt a0 x6_1) == 111) = false := beq_eq_false_iff_ne.mpr c6
   have c6b1 : ((bt a0 x6_1) != 111) = true := bne_iff_ne.mpr c6
   by_cases c8 : (bt a0 x6_1) = 42
   rw [if_pos c8] at H
   have c8b0 : ((bt a0 x6_1) == 42) = true := beq_iff_eq.mpr c8
   have c8b1 : ((bt a0 x6_1) != 42) = false := bne_eq_false_iff_eq.mpr c8
   clear c8
   have H' := Aside0.mk H
   clear H
   rotate_left
   rw [if_neg c8] at H
   have c8b0 : ((bt a0 x6_1) == 42) = false := beq_eq_false_iff_ne.mpr c8
   have c8b1 : ((bt a0 x6_1) != 42) = true := bne_iff_ne.mpr c8
   by_cases c10 : (bt a0 x6_1) = 120
   rw [if_pos c10] at H
   have c10b0 : ((bt a0 x6_1) == 120) = true := beq_iff_eq.mpr c10
   have c10b1 : ((bt a0 x6_1) != 120) = false := bne_eq_false_iff_eq.mpr c10
   clear c10
   have H' := Aside0.mk H
   clear H
   rotate_left
   rw [if_neg c10] at H
   have c10b0 : ((bt a0 x6_1) == 120) = false := beq_eq_false_iff_ne.mpr c10
   have c10b1 : ((bt a0 x6_1) != 120) = true := bne_iff_ne.mpr c10
   obtain ⟨y190, hy190⟩ : ∃ y_ : List Int, y_ = (([2, 3, 4, 6] : List Int)) := ⟨_, rfl⟩
   replace H : ((spec_l01Has.f k1 y190 (wrap64 ((wrap64 (bt a0 x6_1)) - 48))).bind fun t193 => (if t193 = true then (if x5_1 = true then (if (wrap64 ((wrap64 (bt a0 x6_1)) - 48)) = 0 then (none) else (spec_SignatureCost.l0 k1 a0 (wrap64 (x4_1 + (wrap64 (Int.tdiv (wrap64 (12 * (wrap64 ((wrap64 ((wrap64 (bt a0 x6_1)) - 48)) - 1)))) (wrap64 ((wrap64 (bt a0 x6_1)) - 48)))))) x5_1 (wrap64 (x6_1 + 1)))) else (if (wrap64 ((wrap64 (bt a0 x6_1)) - 48)) = 0 then (none) else (spec_SignatureCost.l0 k1 a0 (wrap64 (x4_1 + (wrap64 (Int.tdiv (wrap64 (24 * (wrap64 ((wrap64 ((wrap64 (bt a0 x6_1)) - 48)) - 1)))) (wrap64 ((wrap64 (bt a0 x6_1)) - 48)))))) x5_1 (wrap64 (x6_1 + 1))))) else (some (0, 6)))) = some (r1, r2) := by first | (rw [hy190]; with_reducible exact H) | (have H2_ := (Option.bind_some _ _).symm.trans H; rw [hy190]; with_reducible exact H2_) | (have H2_ := (Option.bind_some _ _).symm.trans H; with_reducible exact H2_) | with_reducible exact H | (rw [hy190]; exact H) | exact H
   have Ny190 := Aside0.mk hy190
   clear hy190
   obtain ⟨t193, A11, H⟩ := ob H
   try dsimp only at H
   by_cases c12 : t193 = true
   subst c12
   replace H := ifT H
   by_cases c13 : x5_1 = true
   subst c13
   replace H := ifT H
   by_cases c14 : (wrap64 ((wrap64 (bt a0 x6_1)) - 48)) = 0
   ·rw [if_pos c14] at H
    exact absurd H (by simp)
   rw [if_neg c14] at H
   have c14b0 : ((wrap64 ((wrap64 (bt a0 x6_1)) - 48)) == 0) = false := beq_eq_false_iff_ne.mpr c14
   have c14b1 : ((wrap64 ((wrap64 (bt a0 x6_1)) - 48)) != 0) = true := bne_iff_ne.mpr c14
   have H' := Aside0.mk H
   clear H
   rotate_left
   replace c13 := Bool.eq_false_iff.mpr c13
   subst c13
   replace H := ifF H
   by_cases c18 : (wrap64 ((wrap64 (bt a0 x6_1)) - 48)) = 0
   ·rw [if_pos c18] at H
    exact absurd H (by simp)
   rw [if_neg c18] at H
   have c18b0 : ((wrap64 ((wrap64 (bt a0 x6_1)) - 48)) == 0) = false := beq_eq_false_iff_ne.mpr c18
   have c18b1 : ((wrap64 ((wrap64 (bt a0 x6_1)) - 48)) != 0) = true := bne_iff_ne.mpr c18
   have H' := Aside0.mk H
   clear H
   rotate_left
   replace c12 := Bool.eq_false_iff.mpr c12
   subst c12
   replace H := ifF H
   rotate_left
   ·rw [if_neg c3] at H
    exact absurd H (by simp)
   rw [if_neg c2] at H
   have c2b0 := decide_eq_false c2
   clear c2
   by_cases c25 : (a0.size : Int) > 20
   rw [if_pos c25] at H
   have c25b0 : decide (20 < (a0.size : Int)) = true := decide_eq_true c25
   have c25b1 : decide (20 < a0.size) = true := decide_eq_true (by omega)
   clear c25
   rotate_left
   rw [if_neg c25] at H
   have c25b0 : decide (20 < (a0.size : Int)) = false := decide_eq_false c25
   have c25b1 : decide (20 < a0.size) = false := decide_eq_false (by omega)
   clear c25
   rotate_left
   ·have p4 : 0 ≤ (x6_1 : Int) := od
    have q4 : x6_1 < (a0.size : Int) := od
    have hx4 := bt_at a0 x6_1
    replace p4 := eq_true p4
    replace q4 := eq_true q4
    have p5 : 0 ≤ (x6_1 : Int) := od
    have q5 : x6_1 < (a0.size : Int) := od
    have hx5 := bt_at a0 x6_1
    replace p5 := eq_true p5
    replace q5 := eq_true q5
    go_wp2
    go_roundg k1
    case measure => have := HK1.out; omega
    case rel => exact ⟨(wrap64 (x4_1 + 48)), (x5_1), (wrap64 (x6_1 + 1)), (by first | rfl | (simp; done) | (simp [*]; done)), (by first | rfl | (simp; done) | (simp [*]; done)), (by first | rfl | (simp; done) | (simp [*]; done)), H', ⟨by have := HK1.out; omega⟩, ⟨bbw0 HB⟩⟩
   rotate_left 4
   simp only [Option.some.injEq, Prod.mk.injEq] at H
   obtain ⟨rfl, rfl⟩ := H
   rotate_left
   ·simp only [Option.some.injEq, Prod.mk.injEq] at H
    obtain ⟨rfl, rfl⟩ := H
    go_wp2
    go_ret2
    exact er (bbw0 HB)
   ·simp only [Option.some.injEq, Prod.mk.injEq] at H
    obtain ⟨rfl, rfl⟩ := H
    go_wp2
    go_ret2
    exact er (bbw0 HB)
   all_goals
    have p4 : 0 ≤ (x6_1 : Int) := od
    have q4 : x6_1 < (a0.size : Int) := od
    have hx4 := bt_at a0 x6_1
    replace p4 := eq_true p4
    replace q4 := eq_true q4
    have p5 : 0 ≤ (x6_1 : Int) := od
    have q5 : x6_1 < (a0.size : Int) := od
    have hx5 := bt_at a0 x6_1
    replace p5 := eq_true p5
    replace q5 := eq_true q5
    have p7 : 0 ≤ (x6_1 : Int) := od
    have q7 : x6_1 < (a0.size : Int) := od
    have hx7 := bt_at a0 x6_1
    replace p7 := eq_true p7
    replace q7 := eq_true q7
   ·go_wp2
    go_roundg k1
    case measure => have := HK1.out; omega
    case rel => exact ⟨(wrap64 (x4_1 + 24)), (true), (wrap64 (x6_1 + 1)), (by first | rfl | (simp; done) | (simp [*]; done)), (by first | rfl | (simp; done) | (simp [*]; done)), (by first | rfl | (simp; done) | (simp [*]; done)), H', ⟨by have := HK1.out; omega⟩, ⟨bbw0 HB⟩⟩
   ·have p9 : 0 ≤ (x6_1 : Int) := od
    have q9 : x6_1 < (a0.size : Int) := od
    have hx9 := bt_at a0 x6_1
    replace p9 := eq_true p9
    replace q9 := eq_true q9
    go_wp2
    go_roundg k1
    case measure => have := HK1.out; omega
    case rel => exact ⟨(wrap64 (x4_1 + 24)), (x5_1), (wrap64 (x6_1 + 1)), (by first | rfl | (simp; done) | (simp [*]; done)), (by first | rfl | (simp; done) | (simp [*]; done)), (by first | rfl | (simp; done) | (simp [*]; done)), H', ⟨by have := HK1.out; omega⟩, ⟨bbw0 HB⟩⟩
   rotate_left 3
   all_goals
    have p9 : 0 ≤ (x6_1 : Int) := od
    have q9 : x6_1 < (a0.size : Int) := od
    have hx9 := bt_at a0 x6_1
    replace p9 := eq_true p9
    replace q9 := eq_true q9
    go_wp2_with (first | ((with_reducible refine gd 48 rfl ?_); refine Kd.R_lit (Kd.int .i64) _ 2 ?hg (N := 48) ?hd (xs := ([2, 3, 4, 6] : List Int)) (inner := [.int .i64 2, .int .i64 3, .int .i64 4, .int .i64 6]) (ok := fun _ => True) (okp := fun _ => True) ?hr ?hp (fun _ hk => hk) trivial (Below.refl _ _) (Nat.le_refl _) (by simp) ?_; (case hd => rfl); (case hg => rfl); (case hr => first | (go_simp; done) | (go_simp; rfl)); (case hp => exact (Reps.one (show Kd.M (Kd.int .i64) _ _ _ 2 [.int .i64 2] from rfl) (Reps.one (show Kd.M (Kd.int .i64) _ _ _ 3 [.int .i64 3] from rfl) (Reps.one (show Kd.M (Kd.int .i64) _ _ _ 4 [.int .i64 4] from rfl) (Reps.one (show Kd.M (Kd.int .i64) _ _ _ 6 [.int .i64 6] from rfl) (Reps.none _ _)))))); intro v191 w15 ho16 hb hg_ hnew_; clear hg_ hnew_; (first | rw [← Ny190.out] at ho16 | (simp only [Int.reduceToNat] at ho16; rw [← Ny190.out] at ho16)); have HO192 := asd (Kd.R_lower ho16 (bsz0 HB)); replace HB := bS0 HB hb; clear hb ho16; obtain ⟨Ao17, co17, eo17⟩ := Kd.R_slice HO192.out; subst eo17) | ((with_reducible refine gate_callee (f := 33) rfl ?_); refine gl 50 Try.func33 #[.slice Ao17 y190.length co17, .int .i64 (wrap64 ((wrap64 (bt a0 x6_1)) - 48))] ?_; (with_reducible refine (spec_l01Has.calls _ _ _ _ _ _ _ ?side1 ?side2 A11.out).mono ?_); (case side1 => exact ks (Kd.R_reads' HO192.out).2.2); (case side2 => exact (Kd.R_reads' HO192.out).2.1); rintro e w' ⟨rfl, ⟨nd, rfl⟩⟩; refine ⟨_, rfl, ?_⟩))
   ·go_roundg k1
    case measure => have := HK1.out; omega
    case rel => exact ⟨(wrap64 (x4_1 + (wrap64 (Int.tdiv (wrap64 (12 * (wrap64 ((wrap64 ((wrap64 (bt a0 x6_1)) - 48)) - 1)))) (wrap64 ((wrap64 (bt a0 x6_1)) - 48)))))), (true), (wrap64 (x6_1 + 1)), (by first | rfl | (simp; done) | (simp [*]; done)), (by first | rfl | (simp; done) | (simp [*]; done)), (by first | rfl | (simp; done) | (simp [*]; done)), H', ⟨by have := HK1.out; omega⟩, ⟨bbw0 HB⟩⟩
   ·go_roundg k1
    case measure => have := HK1.out; omega
    case rel => exact ⟨(wrap64 (x4_1 + (wrap64 (Int.tdiv (wrap64 (24 * (wrap64 ((wrap64 ((wrap64 (bt a0 x6_1)) - 48)) - 1)))) (wrap64 ((wrap64 (bt a0 x6_1)) - 48)))))), (false), (wrap64 (x6_1 + 1)), (by first | rfl | (simp; done) | (simp [*]; done)), (by first | rfl | (simp; done) | (simp [*]; done)), (by first | rfl | (simp; done) | (simp [*]; done)), H', ⟨by have := HK1.out; omega⟩, ⟨bbw0 HB⟩⟩
   ·go_ret2
    exact er (bbw0 HB)
/-! ### impl_NameOfSignature: function 12 -/
def impl_NameOfSignature.f (k : Nat) (a0 : ByteArray) : Option (ByteArray × Int) := (impl_signatures.f).bind fun t194 => ((slices_Index_string_string.f k t194 a0).bind fun t197 => (if t197 < 0 then (some ((⟨#[]⟩ : ByteArray), 4)) else ((impl_GroupNames.f).bind fun t198 => (if 0 ≤ t197 then (if t197 < (t198.length : Int) then (some (rdOf ByteArray.empty t198 t197, 0)) else (none)) else (none)))))
set_option maxHeartbeats 8000000 in
set_option maxRecDepth 100000 in
theorem impl_NameOfSignature.calls (k : Nat) (a0 : ByteArray) (r1 : ByteArray) (r2 : Int) (w : World) (h : impl_NameOfSignature.f k a0 = some (r1, r2)) :
  Calls Try.prog 12 #[.string a0] w fun e w' => e = .returned (.tuple #[.string r1, .int .i64 r2]) ∧ Below w.heap.size w w' := by
 have HB := asd (Below.refl w.heap.size w)
 have H : ((impl_signatures.f).bind fun t194 => ((slices_Index_string_string.f k t194 a0).bind fun t197 => (if t197 < 0 then (some ((⟨#[]⟩ : ByteArray), 4)) else ((impl_GroupNames.f).bind fun t198 => (if 0 ≤ t197 then (if t197 < (t198.length : Int) then (some (rdOf ByteArray.empty t198 t197, 0)) else (none)) else (none)))))) = some (r1, r2) := h
 clear h
 obtain ⟨t194, A2, H⟩ := ob H
 try dsimp only at H
 obtain ⟨t197, A3, H⟩ := ob H
 try dsimp only at H
 by_cases c4 : t197 < 0
 rw [if_pos c4] at H
 have c4b0 := decide_eq_true c4
 clear c4
 rotate_left
 rw [if_neg c4] at H
 have c4b0 := decide_eq_false c4
 clear c4
 obtain ⟨t198, A7, H⟩ := ob H
 try dsimp only at H
 by_cases c8 : 0 ≤ t197
 rw [if_pos c8] at H
 have c8b0 := decide_eq_true c8
 clear c8
 by_cases c9 : t197 < (t198.length : Int)
 rw [if_pos c9] at H
 have c9b0 := decide_eq_true c9
 clear c9
 rotate_left
 ·rw [if_neg c9] at H
  exact absurd H (by simp)
 ·rw [if_neg c8] at H
  exact absurd H (by simp)
 all_goals
  simp only [Option.some.injEq, Prod.mk.injEq] at H
  obtain ⟨rfl, rfl⟩ := H
  go_enter Try.func12, Try.ntmps12
  go_wp2_with (first | ((with_reducible refine gate_callee (f := 29) rfl ?_); refine gl 5 Try.func29 #[] ?_; (with_reducible refine (impl_signatures.calls _ _ A2.out).mono ?_); rintro e w5 ⟨v195, rfl, ho0, hb⟩; refine ⟨_, rfl, ?_⟩; have HO196 := asd (Kd.R_lower ho0 (bsz0 HB)); replace HB := bS0 HB hb; (try clear hb); (try clear hb2); (try clear hk); (try clear hi); (try clear ho0); obtain ⟨Ao6, co6, eo6⟩ := Kd.R_slice HO196.out; subst eo6) | ((with_reducible refine gate_callee (f := 28) rfl ?_); refine gl 7 Try.func28 #[.slice Ao6 t194.length co6, .string a0] ?_; (with_reducible refine (slices_Index_string_string.calls _ _ _ _ _ _ _ ?side1 ?side2 A3.out).mono ?_); (case side1 => exact ks (Kd.R_reads' HO196.out).2.2); (case side2 => exact (Kd.R_reads' HO196.out).2.1); rintro e w' ⟨rfl, ⟨nd, rfl⟩⟩; refine ⟨_, rfl, ?_⟩) | ((with_reducible refine gate_callee (f := 17) rfl ?_); refine gl 10 Try.func17 #[] ?_; (with_reducible refine (impl_GroupNames.calls _ _ A7.out).mono ?_); rintro e w12 ⟨v199, rfl, ho0, hb⟩; refine ⟨_, rfl, ?_⟩; have HO200 := asd (Kd.R_lower (Kd.R_new' ho0 (Kd.R_lt (kr HO196))) (bsz0 HB)); replace HO196 := asd (Kd.R_elder' (kr HO196) (Kd.R_base ho0) hb); replace HB := bS0 HB hb; (try clear hb); (try clear hb2); (try clear hk); (try clear hi); (try clear ho0); obtain ⟨Ao13, co13, eo13⟩ := Kd.R_slice HO200.out; subst eo13; have p201 : 0 ≤ (t197 : Int) := od; have q201 : t197 < (t198.length : Int) := od; obtain ⟨ad201, e201, hx201_0⟩ := Kd.at_string (Kd.R_reads' HO200.out).2.2 t197 p201 q201; cases e201; replace p201 := eq_true p201; replace q201 := eq_true q201))
  go_ret2
  exact er (bbw0 HB)
/-! ### spec_NameOfSignature: function 13 -/
def spec_NameOfSignature.f (k : Nat) (a0 : ByteArray) : Option (ByteArray × Int) := (spec_l12Signatures.f).bind fun t202 => ((spec_l12Index.f k t202 a0).bind fun t205 => (if t205 < 0 then (some ((⟨#[]⟩ : ByteArray), 4)) else ((spec_GroupNames.f).bind fun t206 => (if 0 ≤ t205 then (if t205 < (t206.length : Int) then (some (rdOf ByteArray.empty t206 t205, 0)) else (none)) else (none)))))
set_option maxHeartbeats 8000000 in
set_option maxRecDepth 100000 in
theorem spec_NameOfSignature.calls (k : Nat) (a0 : ByteArray) (r1 : ByteArray) (r2 : Int) (w : World) (h : spec_NameOfSignature.f k a0 = some (r1, r2)) :
  Calls Try.prog 13 #[.string a0] w fun e w' => e = .returned (.tuple #[.string r1, .int .i64 r2]) ∧ Below w.heap.size w w' := by
 have HB := asd (Below.refl w.heap.size w)
 have H : ((spec_l12Signatures.f).bind fun t202 => ((spec_l12Index.f k t202 a0).bind fun t205 => (if t205 < 0 then (some ((⟨#[]⟩ : ByteArray), 4)) else ((spec_GroupNames.f).bind fun t206 => (if 0 ≤ t205 then (if t205 < (t206.length : Int) then (some (rdOf ByteArray.empty t206 t205, 0)) else (none)) else (none)))))) = some (r1, r2) := h
 clear h
 obtain ⟨t202, A2, H⟩ := ob H
 try dsimp only at H
 obtain ⟨t205, A3, H⟩ := ob H
 try dsimp only at H
 by_cases c4 : t205 < 0
 rw [if_pos c4] at H
 have c4b0 := decide_eq_true c4
 clear c4
 rotate_left
 rw [if_neg c4] at H
 have c4b0 := decide_eq_false c4
 clear c4
 obtain ⟨t206, A7, H⟩ := ob H
 try dsimp only at H
 by_cases c8 : 0 ≤ t205
 rw [if_pos c8] at H
 have c8b0 := decide_eq_true c8
 clear c8
 by_cases c9 : t205 < (t206.length : Int)
 rw [if_pos c9] at H
 have c9b0 := decide_eq_true c9
 clear c9
 rotate_left
 ·rw [if_neg c9] at H
  exact absurd H (by simp)
 ·rw [if_neg c8] at H
  exact absurd H (by simp)
 all_goals
  simp only [Option.some.injEq, Prod.mk.injEq] at H
  obtain ⟨rfl, rfl⟩ := H
  go_enter Try.func13, Try.ntmps13
  go_wp2_with (first | ((with_reducible refine gate_callee (f := 31) rfl ?_); refine gl 5 Try.func31 #[] ?_; (with_reducible refine (spec_l12Signatures.calls _ _ A2.out).mono ?_); rintro e w5 ⟨v203, rfl, ho0, hb⟩; refine ⟨_, rfl, ?_⟩; have HO204 := asd (Kd.R_lower ho0 (bsz0 HB)); replace HB := bS0 HB hb; (try clear hb); (try clear hb2); (try clear hk); (try clear hi); (try clear ho0); obtain ⟨Ao6, co6, eo6⟩ := Kd.R_slice HO204.out; subst eo6) | ((with_reducible refine gate_callee (f := 30) rfl ?_); refine gl 7 Try.func30 #[.slice Ao6 t202.length co6, .string a0] ?_; (with_reducible refine (spec_l12Index.calls _ _ _ _ _ _ _ ?side1 ?side2 A3.out).mono ?_); (case side1 => exact ks (Kd.R_reads' HO204.out).2.2); (case side2 => exact (Kd.R_reads' HO204.out).2.1); rintro e w' ⟨rfl, ⟨nd, rfl⟩⟩; refine ⟨_, rfl, ?_⟩) | ((with_reducible refine gate_callee (f := 18) rfl ?_); refine gl 10 Try.func18 #[] ?_; (with_reducible refine (spec_GroupNames.calls _ _ A7.out).mono ?_); rintro e w12 ⟨v207, rfl, ho0, hb⟩; refine ⟨_, rfl, ?_⟩; have HO208 := asd (Kd.R_lower (Kd.R_new' ho0 (Kd.R_lt (kr HO204))) (bsz0 HB)); replace HO204 := asd (Kd.R_elder' (kr HO204) (Kd.R_base ho0) hb); replace HB := bS0 HB hb; (try clear hb); (try clear hb2); (try clear hk); (try clear hi); (try clear ho0); obtain ⟨Ao13, co13, eo13⟩ := Kd.R_slice HO208.out; subst eo13; have p209 : 0 ≤ (t205 : Int) := od; have q209 : t205 < (t206.length : Int) := od; obtain ⟨ad209, e209, hx209_0⟩ := Kd.at_string (Kd.R_reads' HO208.out).2.2 t205 p209 q209; cases e209; replace p209 := eq_true p209; replace q209 := eq_true q209))
  go_ret2
  exact er (bbw0 HB)
/-! ### impl_PointOrder: function 14 -/
def impl_PointOrder.orders : List Int := [1, 2, 2, 2, 2, 4, 4, 4, 4, 4, 8, 8, 3, 6, 6, 6, 12]
def impl_PointOrder.f (k : Nat) (a0 : ByteArray) : Option (Int × Int) := (impl_GroupNames.f).bind fun t => ((slices_Index_string_string.f k t a0).bind fun i => (if i < 0 then (some (0, 4)) else (if i < 17 then (some (rd impl_PointOrder.orders i, 0)) else (none))))
set_option maxHeartbeats 4000000 in
set_option maxRecDepth 100000 in
theorem impl_PointOrder.calls (k : Nat) (a0 : ByteArray) (r1 : Int) (r2 : Int) (w : World) (h : impl_PointOrder.f k a0 = some (r1, r2)) :
  Calls Try.prog 14 #[.string a0] w fun e w' => e = .returned (.tuple #[.int .i64 r1, .int .i64 r2]) ∧ Below w.heap.size w w' := by
 obtain ⟨t, h1, h⟩ := Option.bind_eq_some_iff.1 h
 obtain ⟨i, h2, h⟩ := Option.bind_eq_some_iff.1 h
 have A1 := Aside0.mk h1
 have A2 := Aside0.mk h2
 clear h1 h2
 by_cases c : i < 0
 ·rw [if_pos c] at h
  obtain ⟨rfl, rfl⟩ := Prod.mk.inj (Option.some.inj h)
  clear h
  have cb : decide (i < 0) = true := decide_eq_true c
  go_enter Try.func14, Try.ntmps14
  go_wp2_with (first | (go_at_call 17; refine (impl_GroupNames.calls _ _ A1.out).mono ?_; rintro e w1 ⟨v, rfl, hv, hb⟩; have HV := Aside0.mk hv; have HB := Aside0.mk hb; have hcell : ∀ o, w1.cell? ⟨w.heap.size, o, none⟩ = _ := fun o => hb.cell (p := ⟨w.heap.size, o, none⟩) (by simp); clear hv hb; obtain ⟨A, c, rfl, hlc, hC⟩ := Kd.R_reads HV.out; have HC := Aside0.mk hC; clear hC) | (go_at_call 28; refine (slices_Index_string_string.calls _ _ _ _ _ _ _ HC.out hlc A2.out).mono ?_; rintro e w2 ⟨rfl, ⟨nq, rfl⟩⟩))
  go_ret2
  refine ⟨rfl, ?_⟩
  have hb1 := below_then (below_alloc (Below.refl w.heap.size w) _) (by simp) HB.out
  exact pw_below_drewN hb1 _
 ·rw [if_neg c] at h
  by_cases c2 : i < 17
  ·rw [if_pos c2] at h
   have hc : i = 0 ∨ i = 1 ∨ i = 2 ∨ i = 3 ∨ i = 4 ∨ i = 5 ∨ i = 6 ∨ i = 7 ∨ i = 8 ∨ i = 9 ∨ i = 10 ∨ i = 11 ∨ i = 12 ∨ i = 13 ∨ i = 14 ∨ i = 15 ∨ i = 16 := by omega
   clear c c2
   rcases hc with rfl | rfl | rfl | rfl | rfl | rfl | rfl | rfl | rfl | rfl | rfl | rfl | rfl | rfl | rfl | rfl | rfl
   all_goals
    obtain ⟨h1, rfl⟩ := Prod.mk.inj (Option.some.inj h)
    simp only [rd, impl_PointOrder.orders, Int.toNat_zero, Int.toNat_one, Int.reduceToNat, List.getD_cons_zero, List.getD_cons_succ] at h1
    subst h1
    clear h
    go_enter Try.func14, Try.ntmps14
    go_wp2_with (first | (go_at_call 17; refine (impl_GroupNames.calls _ _ A1.out).mono ?_; rintro e w1 ⟨v, rfl, hv, hb⟩; have HV := Aside0.mk hv; have HB := Aside0.mk hb; have hcell : ∀ o, w1.cell? ⟨w.heap.size, o, none⟩ = _ := fun o => hb.cell (p := ⟨w.heap.size, o, none⟩) (by simp); clear hv hb; obtain ⟨A, c, rfl, hlc, hC⟩ := Kd.R_reads HV.out; have HC := Aside0.mk hC; clear hC) | (go_at_call 28; refine (slices_Index_string_string.calls _ _ _ _ _ _ _ HC.out hlc A2.out).mono ?_; rintro e w2 ⟨rfl, ⟨nq, rfl⟩⟩))
    go_ret2
    refine ⟨rfl, ?_⟩
    have hb1 := below_then (below_alloc (Below.refl w.heap.size w) _) (by simp) HB.out
    exact pw_below_drewN hb1 _
  ·rw [if_neg c2] at h
   cases h
/-! ### spec_PointOrder: function 15 -/
def spec_PointOrder.f (k : Nat) (a0 : ByteArray) : Option (Int × Int) := (spec_GroupNames.f).bind fun t210 => ((spec_l12Index.f k t210 a0).bind fun t213 => (if t213 < 0 then (some (0, 4)) else ((some (([1, 2, 2, 2, 2, 4, 4, 4, 4, 4, 8, 8, 3, 6, 6, 6, 12] : List Int) : List Int)).bind fun y214 => (if 0 ≤ t213 then (if t213 < (y214.length : Int) then (some (rd y214 t213, 0)) else (none)) else (none)))))
set_option maxHeartbeats 8000000 in
set_option maxRecDepth 100000 in
theorem spec_PointOrder.calls (k : Nat) (a0 : ByteArray) (r1 : Int) (r2 : Int) (w : World) (h : spec_PointOrder.f k a0 = some (r1, r2)) :
  Calls Try.prog 15 #[.string a0] w fun e w' => e = .returned (.tuple #[.int .i64 r1, .int .i64 r2]) ∧ Below w.heap.size w w' := by
 have HB := asd (Below.refl w.heap.size w)
 have H : ((spec_GroupNames.f).bind fun t210 => ((spec_l12Index.f k t210 a0).bind fun t213 => (if t213 < 0 then (some (0, 4)) else ((some (([1, 2, 2, 2, 2, 4, 4, 4, 4, 4, 8, 8, 3, 6, 6, 6, 12] : List Int) : List Int)).bind fun y214 => (if 0 ≤ t213 then (if t213 < (y214.length : Int) then (some (rd y214 t213, 0)) else (none)) else (none)))))) = some (r1, r2) := h
 clear h
 obtain ⟨t210, A2, H⟩ := ob H
 try dsimp only at H
 obtain ⟨t213, A3, H⟩ := ob H
 try dsimp only at H
 by_cases c4 : t213 < 0
 rw [if_pos c4] at H
 have c4b0 := decide_eq_true c4
 clear c4
 rotate_left
 rw [if_neg c4] at H
 have c4b0 := decide_eq_false c4
 clear c4
 obtain ⟨y214, hy214⟩ : ∃ y_ : List Int, y_ = (([1, 2, 2, 2, 2, 4, 4, 4, 4, 4, 8, 8, 3, 6, 6, 6, 12] : List Int)) := ⟨_, rfl⟩
 replace H : (if 0 ≤ t213 then (if t213 < (y214.length : Int) then (some (rd y214 t213, 0)) else (none)) else (none)) = some (r1, r2) := by first | (rw [hy214]; with_reducible exact H) | (have H2_ := (Option.bind_some _ _).symm.trans H; rw [hy214]; with_reducible exact H2_) | (have H2_ := (Option.bind_some _ _).symm.trans H; with_reducible exact H2_) | with_reducible exact H | (rw [hy214]; exact H) | exact H
 have Ny214 := Aside0.mk hy214
 clear hy214
 by_cases c7 : 0 ≤ t213
 rw [if_pos c7] at H
 have c7b0 := decide_eq_true c7
 clear c7
 by_cases c8 : t213 < (y214.length : Int)
 rw [if_pos c8] at H
 have c8b0 := decide_eq_true c8
 clear c8
 rotate_left
 ·rw [if_neg c8] at H
  exact absurd H (by simp)
 ·rw [if_neg c7] at H
  exact absurd H (by simp)
 all_goals
  simp only [Option.some.injEq, Prod.mk.injEq] at H
  obtain ⟨rfl, rfl⟩ := H
  go_enter Try.func15, Try.ntmps15
  go_wp2_with (first | ((with_reducible refine gate_callee (f := 18) rfl ?_); refine gl 5 Try.func18 #[] ?_; (with_reducible refine (spec_GroupNames.calls _ _ A2.out).mono ?_); rintro e w5 ⟨v211, rfl, ho0, hb⟩; refine ⟨_, rfl, ?_⟩; have HO212 := asd (Kd.R_lower ho0 (bsz0 HB)); replace HB := bS0 HB hb; (try clear hb); (try clear hb2); (try clear hk); (try clear hi); (try clear ho0); obtain ⟨Ao6, co6, eo6⟩ := Kd.R_slice HO212.out; subst eo6) | ((with_reducible refine gate_callee (f := 30) rfl ?_); refine gl 7 Try.func30 #[.slice Ao6 t210.length co6, .string a0] ?_; (with_reducible refine (spec_l12Index.calls _ _ _ _ _ _ _ ?side1 ?side2 A3.out).mono ?_); (case side1 => exact ks (Kd.R_reads' HO212.out).2.2); (case side2 => exact (Kd.R_reads' HO212.out).2.1); rintro e w' ⟨rfl, ⟨nd, rfl⟩⟩; refine ⟨_, rfl, ?_⟩) | ((with_reducible refine gd 10 rfl ?_); refine Kd.R_lit (Kd.int .i64) _ 2 ?hg (N := 10) ?hd (xs := ([1, 2, 2, 2, 2, 4, 4, 4, 4, 4, 8, 8, 3, 6, 6, 6, 12] : List Int)) (inner := [.int .i64 1, .int .i64 2, .int .i64 2, .int .i64 2, .int .i64 2, .int .i64 4, .int .i64 4, .int .i64 4, .int .i64 4, .int .i64 4, .int .i64 8, .int .i64 8, .int .i64 3, .int .i64 6, .int .i64 6, .int .i64 6, .int .i64 12]) (ok := fun _ => True) (okp := fun _ => True) ?hr ?hp (fun _ hk => hk) trivial (Below.refl _ _) (Nat.le_refl _) (by simp) ?_; (case hd => rfl); (case hg => rfl); (case hr => first | (go_simp; done) | (go_simp; rfl)); (case hp => exact (Reps.one (show Kd.M (Kd.int .i64) _ _ _ 1 [.int .i64 1] from rfl) (Reps.one (show Kd.M (Kd.int .i64) _ _ _ 2 [.int .i64 2] from rfl) (Reps.one (show Kd.M (Kd.int .i64) _ _ _ 2 [.int .i64 2] from rfl) (Reps.one (show Kd.M (Kd.int .i64) _ _ _ 2 [.int .i64 2] from rfl) (Reps.one (show Kd.M (Kd.int .i64) _ _ _ 2 [.int .i64 2] from rfl) (Reps.one (show Kd.M (Kd.int .i64) _ _ _ 4 [.int .i64 4] from rfl) (Reps.one (show Kd.M (Kd.int .i64) _ _ _ 4 [.int .i64 4] from rfl) (Reps.one (show Kd.M (Kd.int .i64) _ _ _ 4 [.int .i64 4] from rfl) (Reps.one (show Kd.M (Kd.int .i64) _ _ _ 4 [.int .i64 4] from rfl) (Reps.one (show Kd.M (Kd.int .i64) _ _ _ 4 [.int .i64 4] from rfl) (Reps.one (show Kd.M (Kd.int .i64) _ _ _ 8 [.int .i64 8] from rfl) (Reps.one (show Kd.M (Kd.int .i64) _ _ _ 8 [.int .i64 8] from rfl) (Reps.one (show Kd.M (Kd.int .i64) _ _ _ 3 [.int .i64 3] from rfl) (Reps.one (show Kd.M (Kd.int .i64) _ _ _ 6 [.int .i64 6] from rfl) (Reps.one (show Kd.M (Kd.int .i64) _ _ _ 6 [.int .i64 6] from rfl) (Reps.one (show Kd.M (Kd.int .i64) _ _ _ 6 [.int .i64 6] from rfl) (Reps.one (show Kd.M (Kd.int .i64) _ _ _ 12 [.int .i64 12] from rfl) (Reps.none _ _))))))))))))))))))); intro v215 w11 ho12 hb hg_ hnew_; clear hg_ hnew_; (first | rw [← Ny214.out] at ho12 | (simp only [Int.reduceToNat] at ho12; rw [← Ny214.out] at ho12)); replace HO212 := asd (Kd.R_below (kr HO212) hb); have HO216 := asd (Kd.R_lower ho12 (bsz0 HB)); replace HB := bS0 HB hb; clear hb ho12; obtain ⟨Ao13, co13, eo13⟩ := Kd.R_slice HO216.out; subst eo13; have p217 : 0 ≤ (t213 : Int) := od; have q217 : t213 < (y214.length : Int) := od; obtain ⟨ad217, e217, hx217_0⟩ := Kd.at_int (Kd.R_reads' HO216.out).2.2 t213 p217 q217; cases e217; replace p217 := eq_true p217; replace q217 := eq_true q217))
  go_ret2
  exact er (bbw0 HB)
/-! ### laws_likeTexts9: function 16 -/
def laws_likeTexts9.l0 : Nat → List ByteArray → List ByteArray → Int → Option (Bool)
 | 0, _, _, _ => none
 | k + 1, x0, x1, x5 => if x5 < (x0.length : Int) then (if 0 ≤ x5 then (if x5 < (x1.length : Int) then (if (rdOf ByteArray.empty x0 x5).toList = (rdOf ByteArray.empty x1 x5).toList then (laws_likeTexts9.l0 k x0 x1 (wrap64 (x5 + 1))) else (some false)) else (none)) else (none)) else (some true)
def laws_likeTexts9.f (k : Nat) (l0 : List ByteArray) (l1 : List ByteArray) : Option (Bool) := if (l0.length : Int) = (l1.length : Int) then (laws_likeTexts9.l0 k l0 l1 0) else (some false)
set_option maxHeartbeats 8000000 in
set_option maxRecDepth 100000 in
theorem laws_likeTexts9.calls (k : Nat) (A0 : Option Addr) (c0 : Nat) (l0 : List ByteArray) (A1 : Option Addr) (c1 : Nat) (l1 : List ByteArray) (r : Bool) (w : World) (hr0 : Kd.C Kd.string w A0 l0.length l0) (hc0 : l0.length ≤ c0) (hr1 : Kd.C Kd.string w A1 l1.length l1) (hc1 : l1.length ≤ c1) (h : laws_likeTexts9.f k l0 l1 = some r) :
  Calls Try.prog 16 #[.slice A0 l0.length c0, .slice A1 l1.length c1] w fun e w' => e = .returned (.bool r) ∧ Drawn0 w w' := by
 have HR0 := Aside0.mk hr0
 have HC0 := Aside0.mk hc0
 clear hr0 hc0
 have HR1 := Aside0.mk hr1
 have HC1 := Aside0.mk hc1
 clear hr1 hc1
 have H : (if (l0.length : Int) = (l1.length : Int) then (laws_likeTexts9.l0 k l0 l1 0) else (some false)) = some r := h
 clear h
 by_cases c3 : (l0.length : Int) = (l1.length : Int)
 ·rw [if_pos c3] at H
  have c3b0 : ((l0.length : Int) == (l1.length : Int)) = true := beq_iff_eq.mpr c3
  have c3b1 : ((l0.length : Int) != (l1.length : Int)) = false := bne_eq_false_iff_eq.mpr c3
  have c3b2 : (l0.length == l1.length) = true := by first | simpa using c3 | (simp at c3 ⊢; omega)
  clear c3
  have H' := Aside0.mk H
  clear H
  go_enter Try.func16, Try.ntmps16
  go_wp2
  repeat (go_quiet (fail); try go_wp2)
  go_loopg [5] k (fun kq v5 w' => ∃ (x5_1 : Int), v5 = .int .i64 x5_1 ∧ Aside0 (laws_likeTexts9.l0 kq l0 l1 x5_1 = some r) ∧ Aside0 (kq ≤ k) ∧ Drawn0 w w')
  case atStart => exact ⟨(0), (by first | rfl | (simp; done) | (simp [*]; done)), H', ⟨Nat.le_refl _⟩, by repeat (first | exact Drawn0.refl _ | apply Drawn0.step)⟩
  case round =>
   clear H'
   try clear c1
   try clear p2
   try clear c3
   try clear c3b0
   try clear c3b1
   try clear c3b2
   obtain ⟨x5_1, rfl, HA, HK1, ⟨m1, rfl⟩⟩ := hrel
   cases gk with
   | zero => exact absurd HA.out (by simp [laws_likeTexts9.l0])
   | succ k1 =>
    have H := HA.out
    clear HA
    simp only [laws_likeTexts9.l0] at H
    by_cases c4 : x5_1 < (l0.length : Int)
    rw [if_pos c4] at H
    have c4b0 := decide_eq_true c4
    clear c4
    by_cases c5 : 0 ≤ x5_1
    rw [if_pos c5] at H
    have c5b0 := decide_eq_true c5
    clear c5
    by_cases c6 : x5_1 < (l1.length : Int)
    rw [if_pos c6] at H
    have c6b0 := decide_eq_true c6
    clear c6
    by_cases c7 : (rdOf ByteArray.empty l0 x5_1).toList = (rdOf ByteArray.empty l1 x5_1).toList
    rw [if_pos c7] at H
    have c7b0 : ((rdOf ByteArray.empty l0 x5_1).toList == (rdOf ByteArray.empty l1 x5_1).toList) = true := beq_iff_eq.mpr c7
    have c7b1 : ((rdOf ByteArray.empty l0 x5_1).toList != (rdOf ByteArray.empty l1 x5_1).toList) = false := bne_eq_false_iff_eq.mpr c7
    clear c7
    have H' := Aside0.mk H
    clear H
    rotate_left
    rw [if_neg c7] at H
    have c7b0 : ((rdOf ByteArray.empty l0 x5_1).toList == (rdOf ByteArray.empty l1 x5_1).toList) = false := beq_eq_false_iff_ne.mpr c7
    have c7b1 : ((rdOf ByteArray.empty l0 x5_1).toList != (rdOf ByteArray.empty l1 x5_1).toList) = true := bne_iff_ne.mpr c7
    obtain rfl := Option.some.inj H
    rotate_left
    ·rw [if_neg c6] at H
     exact absurd H (by simp)
    ·rw [if_neg c5] at H
     exact absurd H (by simp)
    rw [if_neg c4] at H
    have c4b0 := decide_eq_false c4
    clear c4
    obtain rfl := Option.some.inj H
    rotate_left
    rotate_left 2
    ·go_wp2
     repeat (go_quiet (fail); try go_wp2)
     go_ret
     exact ⟨by first | rfl | (simp; done) | (simp [*]; done), by repeat (first | exact Drawn0.refl _ | apply Drawn0.step)⟩
    all_goals
     have p218 : 0 ≤ (x5_1 : Int) := od
     have q218 : x5_1 < (l0.length : Int) := od
     obtain ⟨ad218, e218, hx218_0⟩ := Kd.at_string HR0.out x5_1 p218 q218
     cases e218
     replace p218 := eq_true p218
     replace q218 := eq_true q218
     have p219 : 0 ≤ (x5_1 : Int) := od
     have q219 : x5_1 < (l1.length : Int) := od
     obtain ⟨ad219, e219, hx219_0⟩ := Kd.at_string HR1.out x5_1 p219 q219
     cases e219
     replace p219 := eq_true p219
     replace q219 := eq_true q219
     go_wp2
     repeat (go_quiet (fail); try go_wp2)
    ·go_roundg k1
     case measure => have := HK1.out; omega
     case rel => exact ⟨(wrap64 (x5_1 + 1)), (by first | rfl | (simp; done) | (simp [*]; done)), H', ⟨by have := HK1.out; omega⟩, by repeat (first | exact Drawn0.refl _ | apply Drawn0.step)⟩
    ·go_ret
     exact ⟨by first | rfl | (simp; done) | (simp [*]; done), by repeat (first | exact Drawn0.refl _ | apply Drawn0.step)⟩
 ·rw [if_neg c3] at H
  have c3b0 : ((l0.length : Int) == (l1.length : Int)) = false := beq_eq_false_iff_ne.mpr c3
  have c3b1 : ((l0.length : Int) != (l1.length : Int)) = true := bne_iff_ne.mpr c3
  have c3b2 : (l0.length == l1.length) = false := by first | simpa using c3 | (simp at c3 ⊢; omega)
  obtain rfl := Option.some.inj H
  go_enter Try.func16, Try.ntmps16
  go_wp2
  repeat (go_quiet (fail); try go_wp2)
  go_ret
  exact ⟨by first | rfl | (simp; done) | (simp [*]; done), by repeat (first | exact Drawn0.refl _ | apply Drawn0.step)⟩

end Go.Proofs.Ytfkdcngpjppnbaa.PA
