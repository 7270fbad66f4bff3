/- Walks written by program: each Go function that the law reaches comes to the plain function beside it. -/
import Derived.Test.YtnblfcibgokccaaGreatDoorPAx0
import Derived.Test.YtnblfcibgokccaaGreatDoorPAx3
import Derived.Test.YtnblfcibgokccaaGreatDoorPAx4
import Derived.Test.YtnblfcibgokccaaGreatDoorPAx6
import Derived.Test.YtnblfcibgokccaaGreatDoorPAx7
namespace Go.Proofs.YtnblfcibgokccaaGreatDoor.PA
open Go.RowKit Go.Proofs.YtnblfcibgokccaaGreatDoorW.PrintWords Go.Proofs.YtnblfcibgokccaaGreatDoorW.PrintLast Go.Proofs.YtnblfcibgokccaaGreatDoorW.PrintMore
attribute [local go_sem] max2_int min2_int max_two min_two max_three min_three max_four min_four   -- for this text's walks alone
set_option linter.unusedVariables false
set_option linter.unusedSimpArgs false

/-! ### spec_l01Damage: function 46 -/
def spec_l01Damage.f (s0_0 : List Int) (s0_1 : Int) (s0_2 : Int) (a1 : ByteArray) : Option (ByteArray × Int × Int) := (spec_l01Next.f s0_0 s0_1 s0_2 (wrap64 ((a1.size : Int) + 1))).bind fun bt398 => ((spec_l01Next.f s0_0 bt398.2.1 bt398.2.2 8).bind fun bt401 => (if bt401.1 = 0 then (if 0 ≤ bt398.1 then (if bt398.1 ≤ (a1.size : Int) then (some (a1.extract 0 (bt398.1 : Int).toNat, bt401.2.1, bt401.2.2)) else (none)) else (none)) else (if bt401.1 = 1 then (if 0 ≤ bt398.1 then (if bt398.1 ≤ (a1.size : Int) then ((some (([(⟨#[48]⟩ : ByteArray), (⟨#[49]⟩ : ByteArray), (⟨#[32]⟩ : ByteArray), (⟨#[45]⟩ : ByteArray), (⟨#[44]⟩ : ByteArray), (⟨#[59]⟩ : ByteArray), (⟨#[10]⟩ : ByteArray), (⟨#[97]⟩ : ByteArray)] : List ByteArray) : List ByteArray)).bind fun y404 => ((spec_l01Next.f s0_0 bt401.2.1 bt401.2.2 8).bind fun bt407 => (if 0 ≤ bt407.1 then (if bt407.1 < (y404.length : Int) then (if (a1.extract 0 (bt398.1 : Int).toNat).size + (rdOf ByteArray.empty y404 bt407.1).size ≤ 9223372036854775807 then (if ((a1.extract 0 (bt398.1 : Int).toNat) ++ (rdOf ByteArray.empty y404 bt407.1)).size + (a1.extract (bt398.1 : Int).toNat a1.size).size ≤ 9223372036854775807 then (some (((a1.extract 0 (bt398.1 : Int).toNat) ++ (rdOf ByteArray.empty y404 bt407.1)) ++ (a1.extract (bt398.1 : Int).toNat a1.size), bt407.2.1, bt407.2.2)) else (none)) else (none)) else (none)) else (none)))) else (none)) else (none)) else (if bt401.1 = 2 then (if bt398.1 < (a1.size : Int) then (if 0 ≤ bt398.1 then (if bt398.1 ≤ (a1.size : Int) then (if 0 ≤ (wrap64 (bt398.1 + 1)) then (if (wrap64 (bt398.1 + 1)) ≤ (a1.size : Int) then (if (a1.extract 0 (bt398.1 : Int).toNat).size + (a1.extract ((wrap64 (bt398.1 + 1)) : Int).toNat a1.size).size ≤ 9223372036854775807 then (some ((a1.extract 0 (bt398.1 : Int).toNat) ++ (a1.extract ((wrap64 (bt398.1 + 1)) : Int).toNat a1.size), bt401.2.1, bt401.2.2)) else (none)) else (none)) else (none)) else (none)) else (none)) else (some (a1, bt401.2.1, bt401.2.2))) else (some (a1, bt401.2.1, bt401.2.2))))))
def spec_l01Damage.T6 : Bool × List (List Nat × List Nat) := (true, [([], []), ([], []), ([0, 1], [0, 1]), ([], []), ([], []), ([4], [4]), ([3, 5], [3, 5]), ([6], [6]), ([2, 7], [2, 7]), ([], []), ([], []), ([9, 10], [9, 10]), ([8, 11], [8, 11]), ([12, 5, 0, 1, 2, 3, 4, 5, 6, 7, 8, 9, 10, 11, 12], [12])])
def spec_l01Damage.B6 : List Nat := [0, 0, 3, 0, 0, 16, 56, 120, 255, 0, 0, 1536, 4095, 8191]
theorem spec_l01Damage.tab6 : rtab .any (opsOf Tryz.f46 6) = spec_l01Damage.T6 := by kernel_rfl
theorem spec_l01Damage.bits6 : waitsOk spec_l01Damage.T6.2 spec_l01Damage.B6 = true := by kernel_rfl
def spec_l01Damage.T9 : Bool × List (List Nat × List Nat) := (true, [([], []), ([], []), ([0, 1], [0, 1]), ([], []), ([], []), ([4], [4]), ([3, 5], [3, 5]), ([2, 6], [2, 6]), ([7, 0, 1, 2, 3, 4, 5, 6, 7], [7])])
def spec_l01Damage.B9 : List Nat := [0, 0, 3, 0, 0, 16, 56, 127, 255]
theorem spec_l01Damage.tab9 : rtab .any (opsOf Tryz.f46 9) = spec_l01Damage.T9 := by kernel_rfl
theorem spec_l01Damage.bits9 : waitsOk spec_l01Damage.T9.2 spec_l01Damage.B9 = true := by kernel_rfl
theorem spec_l01Damage.exa {A : ByteArray} {T : Int} (h : T ≤ (A.size : Int)) : (A.extract 0 T.toNat).size = T.toNat := by
  rw [ByteArray.size_extract]; omega
theorem spec_l01Damage.exb (A : ByteArray) (J : Int) : (A.extract J.toNat A.size).size = A.size - J.toNat := by
  rw [ByteArray.size_extract]; omega
set_option maxHeartbeats 8000000 in
set_option maxRecDepth 100000 in
theorem spec_l01Damage.calls (g : Nat) (s0_0 : List Int) (s0_1 : Int) (s0_2 : Int) (a1 : ByteArray) (r1 : ByteArray) (r2 : Int) (r3 : Int) (w0 w : World) (hI : IsS106 w0 w g s0_0 s0_1 s0_2) (hB : Below w0.heap.size w0 w) (h : spec_l01Damage.f s0_0 s0_1 s0_2 a1 = some (r1, r2, r3)) :
  Calls Tryz.prog 46 #[.pointer (some ⟨g, 0, none⟩), .string a1] w fun e w' => e = .returned (.string r1) ∧ IsS106 w0 w' g s0_0 r2 r3 ∧ Below w0.heap.size w0 w' ∧ KeepBut w w' g none := by
 have HI0 := Aside0.mk hI
 have HK := asd (KeepBut.refl w g none)
 have HL := Aside0.mk hB.size
 clear hI
 have HW0 := Aside0.mk hB.size
 have HB := Aside0.mk hB
 clear hB
 have H : ((spec_l01Next.f s0_0 s0_1 s0_2 (wrap64 ((a1.size : Int) + 1))).bind fun bt398 => ((spec_l01Next.f s0_0 bt398.2.1 bt398.2.2 8).bind fun bt401 => (if bt401.1 = 0 then (if 0 ≤ bt398.1 then (if bt398.1 ≤ (a1.size : Int) then (some (a1.extract 0 (bt398.1 : Int).toNat, bt401.2.1, bt401.2.2)) else (none)) else (none)) else (if bt401.1 = 1 then (if 0 ≤ bt398.1 then (if bt398.1 ≤ (a1.size : Int) then ((some (([(⟨#[48]⟩ : ByteArray), (⟨#[49]⟩ : ByteArray), (⟨#[32]⟩ : ByteArray), (⟨#[45]⟩ : ByteArray), (⟨#[44]⟩ : ByteArray), (⟨#[59]⟩ : ByteArray), (⟨#[10]⟩ : ByteArray), (⟨#[97]⟩ : ByteArray)] : List ByteArray) : List ByteArray)).bind fun y404 => ((spec_l01Next.f s0_0 bt401.2.1 bt401.2.2 8).bind fun bt407 => (if 0 ≤ bt407.1 then (if bt407.1 < (y404.length : Int) then (if (a1.extract 0 (bt398.1 : Int).toNat).size + (rdOf ByteArray.empty y404 bt407.1).size ≤ 9223372036854775807 then (if ((a1.extract 0 (bt398.1 : Int).toNat) ++ (rdOf ByteArray.empty y404 bt407.1)).size + (a1.extract (bt398.1 : Int).toNat a1.size).size ≤ 9223372036854775807 then (some (((a1.extract 0 (bt398.1 : Int).toNat) ++ (rdOf ByteArray.empty y404 bt407.1)) ++ (a1.extract (bt398.1 : Int).toNat a1.size), bt407.2.1, bt407.2.2)) else (none)) else (none)) else (none)) else (none)))) else (none)) else (none)) else (if bt401.1 = 2 then (if bt398.1 < (a1.size : Int) then (if 0 ≤ bt398.1 then (if bt398.1 ≤ (a1.size : Int) then (if 0 ≤ (wrap64 (bt398.1 + 1)) then (if (wrap64 (bt398.1 + 1)) ≤ (a1.size : Int) then (if (a1.extract 0 (bt398.1 : Int).toNat).size + (a1.extract ((wrap64 (bt398.1 + 1)) : Int).toNat a1.size).size ≤ 9223372036854775807 then (some ((a1.extract 0 (bt398.1 : Int).toNat) ++ (a1.extract ((wrap64 (bt398.1 + 1)) : Int).toNat a1.size), bt401.2.1, bt401.2.2)) else (none)) else (none)) else (none)) else (none)) else (none)) else (some (a1, bt401.2.1, bt401.2.2))) else (some (a1, bt401.2.1, bt401.2.2))))))) = some (r1, r2, r3) := h
 clear h
 obtain ⟨⟨t398, t399, t400⟩, A3, H⟩ := ob H
 try dsimp only at H
 obtain ⟨⟨t401, t402, t403⟩, A4, H⟩ := ob H
 try dsimp only at H
 by_cases c5 : t401 = 0
 rw [if_pos c5] at H
 have c5b0 : (t401 == 0) = true := beq_iff_eq.mpr c5
 have c5b1 : (t401 != 0) = false := bne_eq_false_iff_eq.mpr c5
 clear c5
 by_cases c6 : 0 ≤ t398
 rw [if_pos c6] at H
 have c6b0 := eq_true c6
 have c6b1 := decide_eq_true c6
 clear c6
 by_cases c7 : t398 ≤ (a1.size : Int)
 rw [if_pos c7] at H
 have c7b0 := eq_true c7
 have c7b1 := decide_eq_true c7
 clear c7
 rotate_left
 ·rw [if_neg c7] at H
  exact absurd H (by simp)
 ·rw [if_neg c6] at H
  exact absurd H (by simp)
 rw [if_neg c5] at H
 have c5b0 : (t401 == 0) = false := beq_eq_false_iff_ne.mpr c5
 have c5b1 : (t401 != 0) = true := bne_iff_ne.mpr c5
 by_cases c10 : t401 = 1
 rw [if_pos c10] at H
 have c10b0 : (t401 == 1) = true := beq_iff_eq.mpr c10
 have c10b1 : (t401 != 1) = false := bne_eq_false_iff_eq.mpr c10
 clear c10
 by_cases c11 : 0 ≤ t398
 rw [if_pos c11] at H
 have c11b0 := eq_true c11
 have c11b1 := decide_eq_true c11
 clear c11
 by_cases c12 : t398 ≤ (a1.size : Int)
 rw [if_pos c12] at H
 have c12b0 := eq_true c12
 have c12b1 := decide_eq_true c12
 clear c12
 obtain ⟨y404, hy404⟩ : ∃ y_ : List ByteArray, y_ = (([(⟨#[48]⟩ : ByteArray), (⟨#[49]⟩ : ByteArray), (⟨#[32]⟩ : ByteArray), (⟨#[45]⟩ : ByteArray), (⟨#[44]⟩ : ByteArray), (⟨#[59]⟩ : ByteArray), (⟨#[10]⟩ : ByteArray), (⟨#[97]⟩ : ByteArray)] : List ByteArray)) := ⟨_, rfl⟩
 replace H : ((spec_l01Next.f s0_0 t402 t403 8).bind fun bt407 => (if 0 ≤ bt407.1 then (if bt407.1 < (y404.length : Int) then (if (a1.extract 0 (t398 : Int).toNat).size + (rdOf ByteArray.empty y404 bt407.1).size ≤ 9223372036854775807 then (if ((a1.extract 0 (t398 : Int).toNat) ++ (rdOf ByteArray.empty y404 bt407.1)).size + (a1.extract (t398 : Int).toNat a1.size).size ≤ 9223372036854775807 then (some (((a1.extract 0 (t398 : Int).toNat) ++ (rdOf ByteArray.empty y404 bt407.1)) ++ (a1.extract (t398 : Int).toNat a1.size), bt407.2.1, bt407.2.2)) else (none)) else (none)) else (none)) else (none))) = some (r1, r2, r3) := by first | (rw [hy404]; with_reducible exact H) | (have H2_ := (Option.bind_some _ _).symm.trans H; rw [hy404]; with_reducible exact H2_) | (have H2_ := (Option.bind_some _ _).symm.trans H; with_reducible exact H2_) | with_reducible exact H | (rw [hy404]; exact H) | exact H
 have Ny404 := Aside0.mk hy404
 clear hy404
 obtain ⟨⟨t407, t408, t409⟩, A13, H⟩ := ob H
 try dsimp only at H
 by_cases c14 : 0 ≤ t407
 rw [if_pos c14] at H
 have c14b0 := decide_eq_true c14
 clear c14
 by_cases c15 : t407 < (y404.length : Int)
 rw [if_pos c15] at H
 have c15b0 := decide_eq_true c15
 clear c15
 by_cases c16 : (a1.extract 0 (t398 : Int).toNat).size + (rdOf ByteArray.empty y404 t407).size ≤ 9223372036854775807
 rw [if_pos c16] at H
 have c16b0 := eq_true c16
 have c16b1 := decide_eq_true c16
 rotate_left
 ·rw [if_neg c16] at H
  exact absurd H (by simp)
 ·rw [if_neg c15] at H
  exact absurd H (by simp)
 ·rw [if_neg c14] at H
  exact absurd H (by simp)
 ·rw [if_neg c12] at H
  exact absurd H (by simp)
 ·rw [if_neg c11] at H
  exact absurd H (by simp)
 rw [if_neg c10] at H
 have c10b0 : (t401 == 1) = false := beq_eq_false_iff_ne.mpr c10
 have c10b1 : (t401 != 1) = true := bne_iff_ne.mpr c10
 by_cases c29 : t401 = 2
 rw [if_pos c29] at H
 have c29b0 : (t401 == 2) = true := beq_iff_eq.mpr c29
 have c29b1 : (t401 != 2) = false := bne_eq_false_iff_eq.mpr c29
 clear c29
 by_cases c30 : t398 < (a1.size : Int)
 rw [if_pos c30] at H
 have c30b0 := decide_eq_true c30
 clear c30
 by_cases c31 : 0 ≤ t398
 rw [if_pos c31] at H
 have c31b0 := eq_true c31
 have c31b1 := decide_eq_true c31
 clear c31
 by_cases c32 : t398 ≤ (a1.size : Int)
 rw [if_pos c32] at H
 have c32b0 := eq_true c32
 have c32b1 := decide_eq_true c32
 clear c32
 obtain ⟨ji33, hji33⟩ : ∃ j_ : Int, (wrap64 (t398 + 1)) = j_ := ⟨_, rfl⟩
 replace H : (if 0 ≤ (ji33) then (if (ji33) ≤ (a1.size : Int) then (if (a1.extract 0 (t398 : Int).toNat).size + (a1.extract ((ji33) : Int).toNat a1.size).size ≤ 9223372036854775807 then (some ((a1.extract 0 (t398 : Int).toNat) ++ (a1.extract ((ji33) : Int).toNat a1.size), t402, t403)) else (none)) else (none)) else (none)) = some (r1, r2, r3) := by first | (rw [hji33] at H; first | done | exact H) | (simp only [hji33] at H ⊢; exact H)
 (try rw [hji33] at A3)
 (try rw [hji33] at A4)
 have hji33w : (IntKind.i64.wrap (t398 + 1)) = ji33 := (i64_w _).trans hji33
 by_cases c34 : 0 ≤ (ji33)
 rw [if_pos c34] at H
 have c34b0 := eq_true c34
 have c34b1 := decide_eq_true c34
 clear c34
 by_cases c35 : (ji33) ≤ (a1.size : Int)
 rw [if_pos c35] at H
 have c35b0 := eq_true c35
 have c35b1 := decide_eq_true c35
 clear c35
 by_cases c36 : (a1.extract 0 (t398 : Int).toNat).size + (a1.extract ((ji33) : Int).toNat a1.size).size ≤ 9223372036854775807
 rw [if_pos c36] at H
 have c36b0 := eq_true c36
 have c36b1 := decide_eq_true c36
 rotate_left
 ·rw [if_neg c36] at H
  exact absurd H (by simp)
 ·rw [if_neg c35] at H
  exact absurd H (by simp)
 ·rw [if_neg c34] at H
  exact absurd H (by simp)
 ·rw [if_neg c32] at H
  exact absurd H (by simp)
 ·rw [if_neg c31] at H
  exact absurd H (by simp)
 rw [if_neg c30] at H
 have c30b0 := decide_eq_false c30
 clear c30
 rotate_left
 rw [if_neg c29] at H
 have c29b0 : (t401 == 2) = false := beq_eq_false_iff_ne.mpr c29
 have c29b1 : (t401 != 2) = true := bne_iff_ne.mpr c29
 rotate_left
 rotate_left
 ·try have c16b2 : (9223372036854775807 < (a1.extract 0 (t398 : Int).toNat).size + (rdOf ByteArray.empty y404 t407).size) = False := eq_false (Nat.not_lt.2 c16)
  try (have c16b5 := c16b2; simp only [ByteArray.size_append, spec_l01Damage.exa (of_decide_eq_true c12b1), spec_l01Damage.exb] at c16b5)
  have c17b0 := eq_true (od : 0 ≤ t398)
  have c18b0 := eq_true (od : t398 ≤ (a1.size : Int))
  by_cases c19 : ((a1.extract 0 (t398 : Int).toNat) ++ (rdOf ByteArray.empty y404 t407)).size + (a1.extract (t398 : Int).toNat a1.size).size ≤ 9223372036854775807
  ·rw [if_pos c19] at H
   have c19b0 := eq_true c19
   have c19b1 := decide_eq_true c19
   try have c19b2 : (9223372036854775807 < ((a1.extract 0 (t398 : Int).toNat) ++ (rdOf ByteArray.empty y404 t407)).size + (a1.extract (t398 : Int).toNat a1.size).size) = False := eq_false (Nat.not_lt.2 c19)
   try (have c19b5 := c19b2; simp only [ByteArray.size_append, spec_l01Damage.exa (of_decide_eq_true c12b1), spec_l01Damage.exb] at c19b5)
   try (have c19b3 := c19b2; simp only [ByteArray.size_append] at c19b3)
   simp only [Option.some.injEq, Prod.mk.injEq] at H
   obtain ⟨rfl, rfl, rfl⟩ := H
   go_enter Tryz.func46, Tryz.ntmps46
   try go_wp2_with (first | ((with_reducible refine gate_callee (f := 45) rfl ?_); refine gl 10 Tryz.func45 #[.pointer (some ⟨g, 0, none⟩), .int .i64 (wrap64 ((a1.size : Int) + 1))] ?_; (with_reducible refine (spec_l01Next.calls _ _ _ _ _ _ _ _ w0 _ ?side1 ?side2 A3.out).mono ?_); (case side1 => repeat (first | (with_reducible first | exact HI0.out | apply IsS106.alloc | apply IsS106.drewN | apply IsS106.drew | apply IsS106.set_1 | apply IsS106.set_2) | exact HI0.out)); (case side2 => repeat (first | (with_reducible first | exact HB.out | apply below_alloc | apply pw_below_drewN | apply below_drew1 | refine below_set ?_ (IsS106.ge HI0.out)) | exact HB.out)); rintro e w20 ⟨rfl, hi, hb, hk⟩; refine ⟨_, rfl, ?_⟩; replace HK := asd (KeepBut.trans (by repeat (first | (with_reducible first | exact HK.out | apply KeepBut.set_ | apply keep_drewN | apply keep_drew | apply keep_alloc) | exact HK.out)) hk (.inl rfl)); replace HB := asd (hb); replace HI0 := asd (hi); (try clear hb); (try clear hb2); (try clear hk); (try clear hi)) | ((with_reducible refine gate_callee (f := 45) rfl ?_); refine gl 12 Tryz.func45 #[.pointer (some ⟨g, 0, none⟩), .int .i64 8] ?_; (with_reducible refine (spec_l01Next.calls _ _ _ _ _ _ _ _ w0 _ ?side1 ?side2 A4.out).mono ?_); (case side1 => repeat (first | (with_reducible first | exact HI0.out | apply IsS106.alloc | apply IsS106.drewN | apply IsS106.drew | apply IsS106.set_1 | apply IsS106.set_2) | exact HI0.out)); (case side2 => repeat (first | (with_reducible first | exact HB.out | apply below_alloc | apply pw_below_drewN | apply below_drew1 | refine below_set ?_ (IsS106.ge HI0.out)) | exact HB.out)); rintro e w21 ⟨rfl, hi, hb, hk⟩; refine ⟨_, rfl, ?_⟩; replace HK := asd (KeepBut.trans (by repeat (first | (with_reducible first | exact HK.out | apply KeepBut.set_ | apply keep_drewN | apply keep_drew | apply keep_alloc) | exact HK.out)) hk (.inl rfl)); replace HB := asd (hb); replace HI0 := asd (hi); (try clear hb); (try clear hb2); (try clear hk); (try clear hi)))
   have pi410 : (0 ≤ (t407 : Int)) = True := eq_true (od)
   have qi410 : (t407 < (y404.length : Int)) = True := eq_true (od)
   replace HI0 := asd (IsS106.drew HI0.out)
   replace HK := asd (keep_drew HK.out)
   replace HB := asd (below_drew1 HB.out)
   refine start_ (n := 14) (S := fun w' => True) (ds := []) (bT 14 0) (by kernel_rfl) rfl rfl trivial (fun hHeld => ?_); refine with_tabW spec_l01Damage.tab6 spec_l01Damage.bits6 (fun HT_ HW_ => ?_)
   generalize w21.drew = w22 at HI0 HK HB hHeld ⊢
   refine pu 0 (some 20) (bT 14 1) HT_ ?_
   refine pu 1 (some 21) (bT 14 2) HT_ ?_
   refine pu 4 (some 24) (bs 14 19) HT_ ?_
   refine pu 9 (some 29) (bs 14 531) HT_ ?_
   refine pu 10 (some 30) (bs 14 1555) HT_ ?_
   refine inv_at [2, 3, 5, 6, 7, 8, 11, 12, 13] (fun a0_ b a w' => ∃ (v405 : Value) (adz_v405 : Addr) (m6_ : Value), a = putSel a0_ b [(2, 22, .string (a1.extract 0 (t398 : Int).toNat)), (3, 23, v405), (5, 25, .int .i64 t407), (6, 26, m6_), (7, 27, .string (rdOf ByteArray.empty y404 t407)), (8, 28, .string ((a1.extract 0 (t398 : Int).toNat) ++ (rdOf ByteArray.empty y404 t407))), (11, 31, .string (a1.extract (t398 : Int).toNat a1.size)), (12, 32, .string (((a1.extract 0 (t398 : Int).toNat) ++ (rdOf ByteArray.empty y404 t407)) ++ (a1.extract (t398 : Int).toNat a1.size))), (13, 4, .string (((a1.extract 0 (t398 : Int).toNat) ++ (rdOf ByteArray.empty y404 t407)) ++ (a1.extract (t398 : Int).toNat a1.size)))] ∧ (b 5 = false → IsS106 w0 w' g s0_0 t402 t403) ∧ (KeepBut w w' g none) ∧ (Below w0.heap.size w0 w') ∧ (b 3 = true → Kd.R Kd.string 9 w' w.heap.size (fun _ => True) v405 y404) ∧ (b 3 = true → ∃ c_, (v405 : Value) = .slice (some adz_v405) y404.length c_) ∧ (b 5 = true → IsS106 w0 w' g s0_0 t408 t409) ∧ (b 6 = true → (m6_ : Value) = .pointer (some (adz_v405.add (t407).toNat)))) HT_.out HW_.out (by kernel_rfl) (by kernel_rfl) ?_ ?_ ?_
   ·exact ⟨.bool false, ⟨0, 0, none⟩, .bool false, by simp only [putSel, Bool.false_eq_true, if_false], fun _ => HI0.out, HK.out, HB.out, fun h_ => absurd h_ (by decide), fun h_ => absurd h_ (by decide), fun h_ => absurd h_ (by decide), fun h_ => absurd h_ (by decide)⟩
   ·skip
    clear HB HI0 HK
    refine steps_cons ?_ ?_
    ·rintro b a w' ⟨v405, adz_v405, m6_, ha, Q_HI0, Q_HK, Q_HB, Q_HO406, Q_HA_HO406, Q_HI0_e5, Q_X6_⟩ hb_ hon hoff
     refine ⟨_, rfl, fun K hK => ?_⟩
     have e20 : a.tmps[20]? = some (.string a1) := by rw [ha]; exact (putSel_off rfl).trans rfl
     have e21 : a.tmps[21]? = some (.int .i64 t398) := by rw [ha]; exact (putSel_off rfl).trans rfl
     replace ha := Aside0.mk ha
     have HK := Aside0.mk Q_HK
     have HB := Aside0.mk Q_HB
     refine value_ (w1 := w') (v := .string (a1.extract 0 (t398 : Int).toNat)) (by rfl) rfl ?_ ?_
     ·go_simp
      (try simp only [i64_w])
      try rfl
     refine hK.out _ _ ⟨v405, adz_v405, m6_, (by rw [ha.out]; exact putSel_upk 0 hb_ rfl rfl rfl), Q_HI0, Q_HK, Q_HB, Q_HO406, Q_HA_HO406, Q_HI0_e5, Q_X6_⟩
    refine steps_cons ?_ ?_
    ·rintro b a w' ⟨v405, adz_v405, m6_, ha, Q_HI0, Q_HK, Q_HB, Q_HO406, Q_HA_HO406, Q_HI0_e5, Q_X6_⟩ hb_ hon hoff
     refine ⟨_, rfl, fun K hK => ?_⟩
     replace ha := Aside0.mk ha
     have HK := Aside0.mk Q_HK
     have HB := Aside0.mk Q_HB
     refine Kd.R_lit_step Kd.string _ 9 ?hg (N := 23) ?hd (xs := ([(⟨#[48]⟩ : ByteArray), (⟨#[49]⟩ : ByteArray), (⟨#[32]⟩ : ByteArray), (⟨#[45]⟩ : ByteArray), (⟨#[44]⟩ : ByteArray), (⟨#[59]⟩ : ByteArray), (⟨#[10]⟩ : ByteArray), (⟨#[97]⟩ : ByteArray)] : List ByteArray)) (inner := [.string (⟨#[48]⟩ : ByteArray), .string (⟨#[49]⟩ : ByteArray), .string (⟨#[32]⟩ : ByteArray), .string (⟨#[45]⟩ : ByteArray), .string (⟨#[44]⟩ : ByteArray), .string (⟨#[59]⟩ : ByteArray), .string (⟨#[10]⟩ : ByteArray), .string (⟨#[97]⟩ : ByteArray)]) (ok := fun _ => True) (okp := fun _ => True) ?hr ?hp (fun _ hk => hk) trivial (Below.refl _ _) (Nat.le_refl _) (by simp) ?_; (case hd => rfl); (case hg => rfl); (case hr => first | (go_simp; done) | (go_simp; rfl)); (case hp => exact (Reps.one (show Kd.M Kd.string _ _ _ (⟨#[48]⟩ : ByteArray) [.string (⟨#[48]⟩ : ByteArray)] from rfl) (Reps.one (show Kd.M Kd.string _ _ _ (⟨#[49]⟩ : ByteArray) [.string (⟨#[49]⟩ : ByteArray)] from rfl) (Reps.one (show Kd.M Kd.string _ _ _ (⟨#[32]⟩ : ByteArray) [.string (⟨#[32]⟩ : ByteArray)] from rfl) (Reps.one (show Kd.M Kd.string _ _ _ (⟨#[45]⟩ : ByteArray) [.string (⟨#[45]⟩ : ByteArray)] from rfl) (Reps.one (show Kd.M Kd.string _ _ _ (⟨#[44]⟩ : ByteArray) [.string (⟨#[44]⟩ : ByteArray)] from rfl) (Reps.one (show Kd.M Kd.string _ _ _ (⟨#[59]⟩ : ByteArray) [.string (⟨#[59]⟩ : ByteArray)] from rfl) (Reps.one (show Kd.M Kd.string _ _ _ (⟨#[10]⟩ : ByteArray) [.string (⟨#[10]⟩ : ByteArray)] from rfl) (Reps.one (show Kd.M Kd.string _ _ _ (⟨#[97]⟩ : ByteArray) [.string (⟨#[97]⟩ : ByteArray)] from rfl) (Reps.none _ _))))))))))
     intro v405 w23 ho24 hb hg_ hnew_
     clear hg_ hnew_
     (first | rw [← Ny404.out] at ho24 | (simp only [Int.reduceToNat] at ho24; rw [← Ny404.out] at ho24))
     have n0_ := asd (Kd.R_lower ho24 (keep_size (w := w) (g := g) (row := none) (by repeat (first | (with_reducible first | exact HK.out | apply KeepBut.set_ | apply keep_drewN | apply keep_drew | apply keep_alloc) | exact HK.out))))
     have n2_ := asd (KeepBut.trans (by repeat (first | (with_reducible first | exact HK.out | apply KeepBut.set_ | apply keep_drewN | apply keep_drew | apply keep_alloc) | exact HK.out)) (KeepBut.of_below hb g none) (.inl rfl))
     have n3_ := bS0 HB hb
     have z_HI0 := fun (h0_ : b 5 = false) => (show IsS106 w0 w23 g s0_0 t402 t403 from by first | exact (IsS106.below (by repeat (first | (with_reducible first | exact (Q_HI0 h0_) | apply IsS106.alloc | apply IsS106.drewN | apply IsS106.drew | apply IsS106.set_1 | apply IsS106.set_2) | exact (Q_HI0 h0_))) hb))
     have z_HI0_e5 := fun (h0_ : b 5 = true) => (show IsS106 w0 w23 g s0_0 t408 t409 from by first | exact (IsS106.below (by repeat (first | (with_reducible first | exact (Q_HI0_e5 h0_) | apply IsS106.alloc | apply IsS106.drewN | apply IsS106.drew | apply IsS106.set_1 | apply IsS106.set_2) | exact (Q_HI0_e5 h0_))) hb))
     clear HK
     clear HB
     have HO406 := n0_
     have HK := n2_
     have HB := n3_
     clear n0_ n2_ n3_
     clear hb ho24
     obtain ⟨Ao25, co25, eo25⟩ := Kd.R_slice HO406.out
     subst eo25
     obtain ⟨ado25, fo25, _⟩ := Kd.at_string (Kd.R_reads' HO406.out).2.2 0 (by decide) (by rw [Ny404.out]; simp)
     cases fo25
     refine hK.out _ _ ⟨.slice (some ado25) y404.length co25, ado25, m6_, (by rw [ha.out]; exact putSel_upk 1 hb_ rfl rfl rfl), z_HI0, (by repeat (first | (with_reducible first | exact HK.out | apply KeepBut.set_ | apply keep_drewN | apply keep_drew | apply keep_alloc) | exact HK.out)), (bbw0 HB), fun _ => (kr HO406), fun _ => ⟨_, rfl⟩, z_HI0_e5, fun h0_ => absurd ((hoff 6 (by kernel_rfl)).symm.trans h0_) (by decide)⟩
    refine steps_cons ?_ ?_
    ·rintro b a w' ⟨v405, adz_v405, m6_, ha, Q_HI0, Q_HK, Q_HB, Q_HO406, Q_HA_HO406, Q_HI0_e5, Q_X6_⟩ hb_ hon hoff
     refine ⟨_, rfl, fun K hK => ?_⟩
     have e24 : a.tmps[24]? = some (.pointer (some ⟨g, 0, none⟩)) := by rw [ha]; exact (putSel_off rfl).trans rfl
     replace ha := Aside0.mk ha
     have HI0 := asd (Q_HI0 hb_)
     have HK := Aside0.mk Q_HK
     have HB := Aside0.mk Q_HB
     refine goes_ Tryz.func45 (by kernel_rfl) rfl #[.pointer (some ⟨g, 0, none⟩), .int .i64 8] (by rfl) rfl rfl (by first | (simp only [List.map_toArray, List.map_cons, List.map_nil, Act.eval, Array.getD_eq_getD_getElem?, Option.getD_some, e24]; done) | (simp only [List.map_toArray, List.map_cons, List.map_nil, Act.eval, Array.getD_eq_getD_getElem?, Option.getD_some, e24]; rfl)) ?_
     with_reducible refine (spec_l01Next.calls _ _ _ _ _ _ _ _ w0 _ ?side1 ?side2 A13.out).mono ?_
     (case side1 => repeat (first | (with_reducible first | exact HI0.out | apply IsS106.alloc | apply IsS106.drewN | apply IsS106.drew | apply IsS106.set_1 | apply IsS106.set_2) | exact HI0.out))
     (case side2 => repeat (first | (with_reducible first | exact HB.out | apply below_alloc | apply pw_below_drewN | apply below_drew1 | refine below_set ?_ (IsS106.ge HI0.out)) | exact HB.out))
     rintro e w23 ⟨rfl, hi, hb, hk⟩
     refine ⟨_, rfl, ?_⟩
     have n0_ := asd (KeepBut.trans (by repeat (first | (with_reducible first | exact HK.out | apply KeepBut.set_ | apply keep_drewN | apply keep_drew | apply keep_alloc) | exact HK.out)) hk (.inl rfl))
     have n1_ := asd (hb)
     have n2_ := asd (hi)
     have z_HO406 := fun (h0_ : b 3 = true) => (show Kd.R Kd.string 9 w23 w.heap.size (fun _ => True) v405 y404 from by first | exact (Kd.R_mono (Kd.R_keep (IsS106.apart (show IsS106 w0 _ g s0_0 t402 t403 from by repeat (first | (with_reducible first | exact HI0.out | apply IsS106.alloc | apply IsS106.drewN | apply IsS106.drew | apply IsS106.set_1 | apply IsS106.set_2) | exact HI0.out)) (by (with_reducible repeat (first | apply Kd.R_alloc | apply Kd.R_drewN | apply Kd.R_drew)); exact (Q_HO406 h0_)) (by decide)) hk (fun _ h => h.2)) (fun _ h => h.1)) | exact Kd.R_mono (Kd.R_mono (Kd.R_keep (IsS106.apart (show IsS106 w0 _ g s0_0 t402 t403 from by repeat (first | (with_reducible first | exact HI0.out | apply IsS106.alloc | apply IsS106.drewN | apply IsS106.drew | apply IsS106.set_1 | apply IsS106.set_2) | exact HI0.out)) (by (with_reducible repeat (first | apply Kd.R_alloc | apply Kd.R_drewN | apply Kd.R_drew)); exact (Q_HO406 h0_)) (by decide)) hk (fun _ h => h.2)) (fun _ h => h.1)) (fun _ h_ => by first | trivial | exact h_ | exact h_.1))
     clear HK
     clear HB
     clear HI0
     have HK := n0_
     have HB := n1_
     have HI0 := n2_
     clear n0_ n1_ n2_
     (try clear hb)
     (try clear hb2)
     (try clear hk)
     (try clear hi)
     refine hK.out _ _ ⟨v405, adz_v405, m6_, (by rw [ha.out]; exact putSel_upk 2 hb_ rfl rfl rfl), fun h0_ => absurd ((up_self b 5).symm.trans h0_) (by decide), (by repeat (first | (with_reducible first | exact HK.out | apply KeepBut.set_ | apply keep_drewN | apply keep_drew | apply keep_alloc) | exact HK.out)), (by repeat (first | (with_reducible first | exact HB.out | apply below_alloc | apply pw_below_drewN | apply below_drew1 | refine below_set ?_ (IsS106.ge HI0.out)) | exact HB.out)), z_HO406, Q_HA_HO406, fun _ => (by repeat (first | (with_reducible first | exact HI0.out | apply IsS106.alloc | apply IsS106.drewN | apply IsS106.drew | apply IsS106.set_1 | apply IsS106.set_2) | exact HI0.out)), fun h0_ => absurd ((hoff 6 (by kernel_rfl)).symm.trans h0_) (by decide)⟩
    refine steps_cons ?_ ?_
    ·rintro b a w' ⟨v405, adz_v405, m6_, ha, Q_HI0, Q_HK, Q_HB, Q_HO406, Q_HA_HO406, Q_HI0_e5, Q_X6_⟩ hb_ hon hoff
     refine ⟨_, rfl, fun K hK => ?_⟩
     have e23 : a.tmps[23]? = some (v405) := by rw [ha]; exact putSel_on (e := (3, 23, v405)) 1 rfl rfl (hon 3 (by kernel_rfl)) rfl
     have e25 : a.tmps[25]? = some (.int .i64 t407) := by rw [ha]; exact putSel_on (e := (5, 25, .int .i64 t407)) 2 rfl rfl (hon 5 (by kernel_rfl)) rfl
     replace ha := Aside0.mk ha
     have HK := Aside0.mk Q_HK
     have HB := Aside0.mk Q_HB
     have HO406 := asd (Q_HO406 (hon 3 (by kernel_rfl)))
     have HA_HO406 := asd (Q_HA_HO406 (hon 3 (by kernel_rfl)))
     have HI0 := asd (Q_HI0_e5 (hon 5 (by kernel_rfl)))
     obtain ⟨c_, hv_⟩ := HA_HO406.out
     rw [hv_] at e23
     refine value_ (w1 := w') (v := .pointer (some (adz_v405.add (t407).toNat))) (by rfl) rfl ?_ ?_
     ·go_simp
      (try simp only [i64_w])
      try rfl
     refine hK.out _ _ ⟨v405, adz_v405, (.pointer (some (adz_v405.add (t407).toNat))), (by rw [ha.out]; exact putSel_upk 3 hb_ rfl rfl rfl), fun h0_ => absurd ((hon 5 (by kernel_rfl)).symm.trans h0_) (by decide), Q_HK, Q_HB, Q_HO406, Q_HA_HO406, Q_HI0_e5, fun _ => rfl⟩
    refine steps_cons ?_ ?_
    ·rintro b a w' ⟨v405, adz_v405, m6_, ha, Q_HI0, Q_HK, Q_HB, Q_HO406, Q_HA_HO406, Q_HI0_e5, Q_X6_⟩ hb_ hon hoff
     refine ⟨_, rfl, fun K hK => ?_⟩
     have e26 : a.tmps[26]? = some (m6_) := by rw [ha]; exact putSel_on (e := (6, 26, m6_)) 3 rfl rfl (hon 6 (by kernel_rfl)) rfl
     rw [Q_X6_ (hon 6 (by kernel_rfl))] at e26
     replace ha := Aside0.mk ha
     have HK := Aside0.mk Q_HK
     have HB := Aside0.mk Q_HB
     have HO406 := asd (Q_HO406 (hon 3 (by kernel_rfl)))
     have HA_HO406 := asd (Q_HA_HO406 (hon 3 (by kernel_rfl)))
     have HI0 := asd (Q_HI0_e5 (hon 5 (by kernel_rfl)))
     obtain ⟨c_, hv_⟩ := HA_HO406.out
     have hF_ := HO406.out
     rw [hv_] at hF_
     obtain ⟨ad_, ea_, hx_⟩ := Kd.at_string (Kd.R_reads' hF_).2.2 t407 (of_eq_true pi410) (of_eq_true qi410)
     cases ea_
     refine value_ (w1 := w') (v := .string (rdOf ByteArray.empty y404 t407)) (by rfl) rfl ?_ ?_
     ·go_simp
      (try simp only [i64_w])
      try rfl
     refine hK.out _ _ ⟨v405, adz_v405, m6_, (by rw [ha.out]; exact putSel_upk 4 hb_ rfl rfl rfl), fun h0_ => absurd ((hon 5 (by kernel_rfl)).symm.trans h0_) (by decide), Q_HK, Q_HB, Q_HO406, Q_HA_HO406, Q_HI0_e5, Q_X6_⟩
    refine steps_cons ?_ ?_
    ·rintro b a w' ⟨v405, adz_v405, m6_, ha, Q_HI0, Q_HK, Q_HB, Q_HO406, Q_HA_HO406, Q_HI0_e5, Q_X6_⟩ hb_ hon hoff
     refine ⟨_, rfl, fun K hK => ?_⟩
     have e22 : a.tmps[22]? = some (.string (a1.extract 0 (t398 : Int).toNat)) := by rw [ha]; exact putSel_on (e := (2, 22, .string (a1.extract 0 (t398 : Int).toNat))) 0 rfl rfl (hon 2 (by kernel_rfl)) rfl
     have e27 : a.tmps[27]? = some (.string (rdOf ByteArray.empty y404 t407)) := by rw [ha]; exact putSel_on (e := (7, 27, .string (rdOf ByteArray.empty y404 t407))) 4 rfl rfl (hon 7 (by kernel_rfl)) rfl
     replace ha := Aside0.mk ha
     have HK := Aside0.mk Q_HK
     have HB := Aside0.mk Q_HB
     have HO406 := asd (Q_HO406 (hon 3 (by kernel_rfl)))
     have HA_HO406 := asd (Q_HA_HO406 (hon 3 (by kernel_rfl)))
     have HI0 := asd (Q_HI0_e5 (hon 5 (by kernel_rfl)))
     refine value_ (w1 := w') (v := .string ((a1.extract 0 (t398 : Int).toNat) ++ (rdOf ByteArray.empty y404 t407))) (by rfl) rfl ?_ ?_
     ·go_simp
      (try simp only [i64_w])
      try rfl
     refine hK.out _ _ ⟨v405, adz_v405, m6_, (by rw [ha.out]; exact putSel_upk 5 hb_ rfl rfl rfl), fun h0_ => absurd ((hon 5 (by kernel_rfl)).symm.trans h0_) (by decide), Q_HK, Q_HB, Q_HO406, Q_HA_HO406, Q_HI0_e5, Q_X6_⟩
    refine steps_cons ?_ ?_
    ·rintro b a w' ⟨v405, adz_v405, m6_, ha, Q_HI0, Q_HK, Q_HB, Q_HO406, Q_HA_HO406, Q_HI0_e5, Q_X6_⟩ hb_ hon hoff
     refine ⟨_, rfl, fun K hK => ?_⟩
     have e29 : a.tmps[29]? = some (.string a1) := by rw [ha]; exact (putSel_off rfl).trans rfl
     have e30 : a.tmps[30]? = some (.int .i64 t398) := by rw [ha]; exact (putSel_off rfl).trans rfl
     replace ha := Aside0.mk ha
     have HK := Aside0.mk Q_HK
     have HB := Aside0.mk Q_HB
     refine value_ (w1 := w') (v := .string (a1.extract (t398 : Int).toNat a1.size)) (by rfl) rfl ?_ ?_
     ·go_simp
      (try simp only [i64_w])
      try rfl
     refine hK.out _ _ ⟨v405, adz_v405, m6_, (by rw [ha.out]; exact putSel_upk 6 hb_ rfl rfl rfl), Q_HI0, Q_HK, Q_HB, Q_HO406, Q_HA_HO406, Q_HI0_e5, Q_X6_⟩
    refine steps_cons ?_ ?_
    ·rintro b a w' ⟨v405, adz_v405, m6_, ha, Q_HI0, Q_HK, Q_HB, Q_HO406, Q_HA_HO406, Q_HI0_e5, Q_X6_⟩ hb_ hon hoff
     refine ⟨_, rfl, fun K hK => ?_⟩
     have e28 : a.tmps[28]? = some (.string ((a1.extract 0 (t398 : Int).toNat) ++ (rdOf ByteArray.empty y404 t407))) := by rw [ha]; exact putSel_on (e := (8, 28, .string ((a1.extract 0 (t398 : Int).toNat) ++ (rdOf ByteArray.empty y404 t407)))) 5 rfl rfl (hon 8 (by kernel_rfl)) rfl
     have e31 : a.tmps[31]? = some (.string (a1.extract (t398 : Int).toNat a1.size)) := by rw [ha]; exact putSel_on (e := (11, 31, .string (a1.extract (t398 : Int).toNat a1.size))) 6 rfl rfl (hon 11 (by kernel_rfl)) rfl
     replace ha := Aside0.mk ha
     have HK := Aside0.mk Q_HK
     have HB := Aside0.mk Q_HB
     have HO406 := asd (Q_HO406 (hon 3 (by kernel_rfl)))
     have HA_HO406 := asd (Q_HA_HO406 (hon 3 (by kernel_rfl)))
     have HI0 := asd (Q_HI0_e5 (hon 5 (by kernel_rfl)))
     refine value_ (w1 := w') (v := .string (((a1.extract 0 (t398 : Int).toNat) ++ (rdOf ByteArray.empty y404 t407)) ++ (a1.extract (t398 : Int).toNat a1.size))) (by rfl) rfl ?_ ?_
     ·go_simp
      (try simp only [i64_w])
      try rfl
     refine hK.out _ _ ⟨v405, adz_v405, m6_, (by rw [ha.out]; exact putSel_upk 7 hb_ rfl rfl rfl), fun h0_ => absurd ((hon 5 (by kernel_rfl)).symm.trans h0_) (by decide), Q_HK, Q_HB, Q_HO406, Q_HA_HO406, Q_HI0_e5, Q_X6_⟩
    refine steps_cons ?_ ?_
    ·rintro b a w' ⟨v405, adz_v405, m6_, ha, Q_HI0, Q_HK, Q_HB, Q_HO406, Q_HA_HO406, Q_HI0_e5, Q_X6_⟩ hb_ hon hoff
     refine ⟨_, rfl, fun K hK => ?_⟩
     have e32 : a.tmps[32]? = some (.string (((a1.extract 0 (t398 : Int).toNat) ++ (rdOf ByteArray.empty y404 t407)) ++ (a1.extract (t398 : Int).toNat a1.size))) := by rw [ha]; exact putSel_on (e := (12, 32, .string (((a1.extract 0 (t398 : Int).toNat) ++ (rdOf ByteArray.empty y404 t407)) ++ (a1.extract (t398 : Int).toNat a1.size)))) 7 rfl rfl (hon 12 (by kernel_rfl)) rfl
     replace ha := Aside0.mk ha
     have HK := Aside0.mk Q_HK
     have HB := Aside0.mk Q_HB
     have HO406 := asd (Q_HO406 (hon 3 (by kernel_rfl)))
     have HA_HO406 := asd (Q_HA_HO406 (hon 3 (by kernel_rfl)))
     have HI0 := asd (Q_HI0_e5 (hon 5 (by kernel_rfl)))
     refine value_ (w1 := w') (v := .string (((a1.extract 0 (t398 : Int).toNat) ++ (rdOf ByteArray.empty y404 t407)) ++ (a1.extract (t398 : Int).toNat a1.size))) (by rfl) rfl ?_ ?_
     ·go_simp
      (try simp only [i64_w])
      try rfl
     refine hK.out _ _ ⟨v405, adz_v405, m6_, (by rw [ha.out]; exact putSel_upk 8 hb_ rfl rfl rfl), fun h0_ => absurd ((hon 5 (by kernel_rfl)).symm.trans h0_) (by decide), Q_HK, Q_HB, Q_HO406, Q_HA_HO406, Q_HI0_e5, Q_X6_⟩
    exact steps_nil
   rintro b a w27 hall ⟨v405, adz_v405, m6_, ha, Q_HI0, Q_HK, Q_HB, Q_HO406, Q_HA_HO406, Q_HI0_e5, Q_X6_⟩
   clear HB HI0 HK
   have hb2_ := hall 2 (by kernel_rfl)
   have hb3_ := hall 3 (by kernel_rfl)
   have hb5_ := hall 5 (by kernel_rfl)
   have hb6_ := hall 6 (by kernel_rfl)
   have hb7_ := hall 7 (by kernel_rfl)
   have hb8_ := hall 8 (by kernel_rfl)
   have hb11_ := hall 11 (by kernel_rfl)
   have hb12_ := hall 12 (by kernel_rfl)
   have hb13_ := hall 13 (by kernel_rfl)
   subst ha
   obtain rfl := Q_X6_ hb6_
   simp only [putSel, hb2_, hb3_, hb5_, hb6_, hb7_, hb8_, hb11_, hb12_, hb13_, if_true, Act.put, sA, sB, sC]
   clear Q_HI0
   have HK := Aside0.mk Q_HK
   clear Q_HK
   have HB := Aside0.mk Q_HB
   clear Q_HB
   have HO406 := asd (Q_HO406 hb3_)
   clear Q_HO406
   have HA_HO406 := asd (Q_HA_HO406 hb3_)
   clear Q_HA_HO406
   have HI0 := asd (Q_HI0_e5 hb5_)
   clear Q_HI0_e5
   clear hall hb2_ hb3_ hb5_ hb6_ hb7_ hb8_ hb11_ hb12_ hb13_
   obtain ⟨co28, eo28⟩ := HA_HO406.out
   clear HA_HO406
   subst eo28
   try go_wp2
   go_ret
   exact ⟨by first | rfl | (simp [errW_none, errW_some] <;> rfl) | (simp [*, errW_none, errW_some] <;> rfl), by repeat (first | (with_reducible first | exact HI0.out | apply IsS106.alloc | apply IsS106.drewN | apply IsS106.drew | apply IsS106.set_1 | apply IsS106.set_2) | exact HI0.out), by repeat (first | (with_reducible first | exact HB.out | apply below_alloc | apply pw_below_drewN | apply below_drew1 | refine below_set ?_ (IsS106.ge HI0.out)) | exact HB.out), by repeat (first | (with_reducible first | exact HK.out | apply KeepBut.set_ | apply keep_drewN | apply keep_drew | apply keep_alloc) | exact HK.out)⟩
  ·rw [if_neg c19] at H
   exact absurd H (by simp)
 try have c36b2 : (9223372036854775807 < (a1.extract 0 (t398 : Int).toNat).size + (a1.extract ((ji33) : Int).toNat a1.size).size) = False := eq_false (Nat.not_lt.2 c36)
 try (have c36b5 := c36b2; simp only [ByteArray.size_append, spec_l01Damage.exa (of_decide_eq_true c32b1), spec_l01Damage.exb] at c36b5)
 rotate_left 3
 all_goals
  simp only [Option.some.injEq, Prod.mk.injEq] at H
  obtain ⟨rfl, rfl, rfl⟩ := H
  go_enter Tryz.func46, Tryz.ntmps46
 rotate_left
 ·try go_wp2_with (first | ((with_reducible refine gate_callee (f := 45) rfl ?_); refine gl 10 Tryz.func45 #[.pointer (some ⟨g, 0, none⟩), .int .i64 (wrap64 ((a1.size : Int) + 1))] ?_; (with_reducible refine (spec_l01Next.calls _ _ _ _ _ _ _ _ w0 _ ?side1 ?side2 A3.out).mono ?_); (case side1 => repeat (first | (with_reducible first | exact HI0.out | apply IsS106.alloc | apply IsS106.drewN | apply IsS106.drew | apply IsS106.set_1 | apply IsS106.set_2) | exact HI0.out)); (case side2 => repeat (first | (with_reducible first | exact HB.out | apply below_alloc | apply pw_below_drewN | apply below_drew1 | refine below_set ?_ (IsS106.ge HI0.out)) | exact HB.out)); rintro e w37 ⟨rfl, hi, hb, hk⟩; refine ⟨_, rfl, ?_⟩; replace HK := asd (KeepBut.trans (by repeat (first | (with_reducible first | exact HK.out | apply KeepBut.set_ | apply keep_drewN | apply keep_drew | apply keep_alloc) | exact HK.out)) hk (.inl rfl)); replace HB := asd (hb); replace HI0 := asd (hi); (try clear hb); (try clear hb2); (try clear hk); (try clear hi)) | ((with_reducible refine gate_callee (f := 45) rfl ?_); refine gl 12 Tryz.func45 #[.pointer (some ⟨g, 0, none⟩), .int .i64 8] ?_; (with_reducible refine (spec_l01Next.calls _ _ _ _ _ _ _ _ w0 _ ?side1 ?side2 A4.out).mono ?_); (case side1 => repeat (first | (with_reducible first | exact HI0.out | apply IsS106.alloc | apply IsS106.drewN | apply IsS106.drew | apply IsS106.set_1 | apply IsS106.set_2) | exact HI0.out)); (case side2 => repeat (first | (with_reducible first | exact HB.out | apply below_alloc | apply pw_below_drewN | apply below_drew1 | refine below_set ?_ (IsS106.ge HI0.out)) | exact HB.out)); rintro e w38 ⟨rfl, hi, hb, hk⟩; refine ⟨_, rfl, ?_⟩; replace HK := asd (KeepBut.trans (by repeat (first | (with_reducible first | exact HK.out | apply KeepBut.set_ | apply keep_drewN | apply keep_drew | apply keep_alloc) | exact HK.out)) hk (.inl rfl)); replace HB := asd (hb); replace HI0 := asd (hi); (try clear hb); (try clear hb2); (try clear hk); (try clear hi)))
  replace HI0 := asd (IsS106.drew HI0.out)
  replace HK := asd (keep_drew HK.out)
  replace HB := asd (below_drew1 HB.out)
  refine start_ (n := 9) (S := fun w' => True) (ds := []) (bT 9 0) (by kernel_rfl) rfl rfl trivial (fun hHeld => ?_); refine with_tabW spec_l01Damage.tab9 spec_l01Damage.bits9 (fun HT_ HW_ => ?_)
  generalize w38.drew = w39 at HI0 HK HB hHeld ⊢
  refine pu 0 (some 39) (bT 9 1) HT_ ?_
  refine pu 1 (some 40) (bT 9 2) HT_ ?_
  refine pu 2 (some 41) (bT 9 3) HT_ ?_
  refine pu 3 (some 42) (bT 9 4) HT_ ?_
  refine pu 4 (some 43) (bT 9 5) HT_ ?_
  refine pu 5 (some 44) (bT 9 6) HT_ ?_
  refine pu 6 (some 45) (bT 9 7) HT_ ?_
  refine pu 7 (some 46) (bT 9 8) HT_ ?_
  refine pu 8 (some 4) (bT 9 9) HT_ ?_
  refine done_ (done_of HT_.out (by kernel_rfl)) ?_
  try go_wp2
  go_ret
  exact ⟨by first | rfl | (simp [errW_none, errW_some] <;> rfl) | (simp only [← hji33]; first | rfl | (simp [errW_none, errW_some] <;> rfl)) | (simp [*, errW_none, errW_some] <;> rfl), by repeat (first | (with_reducible first | exact HI0.out | apply IsS106.alloc | apply IsS106.drewN | apply IsS106.drew | apply IsS106.set_1 | apply IsS106.set_2) | exact HI0.out), by repeat (first | (with_reducible first | exact HB.out | apply below_alloc | apply pw_below_drewN | apply below_drew1 | refine below_set ?_ (IsS106.ge HI0.out)) | exact HB.out), by repeat (first | (with_reducible first | exact HK.out | apply KeepBut.set_ | apply keep_drewN | apply keep_drew | apply keep_alloc) | exact HK.out)⟩
 rotate_left 2
 all_goals
  go_wp2_with (first | ((with_reducible refine gate_callee (f := 45) rfl ?_); refine gl 10 Tryz.func45 #[.pointer (some ⟨g, 0, none⟩), .int .i64 (wrap64 ((a1.size : Int) + 1))] ?_; (with_reducible refine (spec_l01Next.calls _ _ _ _ _ _ _ _ w0 _ ?side1 ?side2 A3.out).mono ?_); (case side1 => repeat (first | (with_reducible first | exact HI0.out | apply IsS106.alloc | apply IsS106.drewN | apply IsS106.drew | apply IsS106.set_1 | apply IsS106.set_2) | exact HI0.out)); (case side2 => repeat (first | (with_reducible first | exact HB.out | apply below_alloc | apply pw_below_drewN | apply below_drew1 | refine below_set ?_ (IsS106.ge HI0.out)) | exact HB.out)); rintro e w8 ⟨rfl, hi, hb, hk⟩; refine ⟨_, rfl, ?_⟩; replace HK := asd (KeepBut.trans (by repeat (first | (with_reducible first | exact HK.out | apply KeepBut.set_ | apply keep_drewN | apply keep_drew | apply keep_alloc) | exact HK.out)) hk (.inl rfl)); replace HB := asd (hb); replace HI0 := asd (hi); (try clear hb); (try clear hb2); (try clear hk); (try clear hi)) | ((with_reducible refine gate_callee (f := 45) rfl ?_); refine gl 12 Tryz.func45 #[.pointer (some ⟨g, 0, none⟩), .int .i64 8] ?_; (with_reducible refine (spec_l01Next.calls _ _ _ _ _ _ _ _ w0 _ ?side1 ?side2 A4.out).mono ?_); (case side1 => repeat (first | (with_reducible first | exact HI0.out | apply IsS106.alloc | apply IsS106.drewN | apply IsS106.drew | apply IsS106.set_1 | apply IsS106.set_2) | exact HI0.out)); (case side2 => repeat (first | (with_reducible first | exact HB.out | apply below_alloc | apply pw_below_drewN | apply below_drew1 | refine below_set ?_ (IsS106.ge HI0.out)) | exact HB.out)); rintro e w9 ⟨rfl, hi, hb, hk⟩; refine ⟨_, rfl, ?_⟩; replace HK := asd (KeepBut.trans (by repeat (first | (with_reducible first | exact HK.out | apply KeepBut.set_ | apply keep_drewN | apply keep_drew | apply keep_alloc) | exact HK.out)) hk (.inl rfl)); replace HB := asd (hb); replace HI0 := asd (hi); (try clear hb); (try clear hb2); (try clear hk); (try clear hi)))
  go_ret
  exact ⟨by first | rfl | (simp [errW_none, errW_some] <;> rfl) | (simp [*, errW_none, errW_some] <;> rfl), by repeat (first | (with_reducible first | exact HI0.out | apply IsS106.alloc | apply IsS106.drewN | apply IsS106.drew | apply IsS106.set_1 | apply IsS106.set_2) | exact HI0.out), by repeat (first | (with_reducible first | exact HB.out | apply below_alloc | apply pw_below_drewN | apply below_drew1 | refine below_set ?_ (IsS106.ge HI0.out)) | exact HB.out), by repeat (first | (with_reducible first | exact HK.out | apply KeepBut.set_ | apply keep_drewN | apply keep_drew | apply keep_alloc) | exact HK.out)⟩
/-! ### spec_DrawReadMat: function 20 -/
def spec_DrawReadMat.f (k : Nat) (l0 : List Int) : Option (ByteArray) := (spec_l01From.f k l0).bind fun bt411 => ((spec_l02Draw.f k bt411.1 bt411.2.1 bt411.2.2).bind fun bt415 => ((spec_MatText.f k bt415.1 bt415.2.1 bt415.2.2.1 bt415.2.2.2.1).bind fun t421 => ((spec_l01Next.f bt411.1 bt415.2.2.2.2.1 bt415.2.2.2.2.2 3).bind fun bt422 => (if bt422.1 = 0 then ((spec_l01Damage.f bt411.1 bt422.2.1 bt422.2.2 t421).bind fun bt425 => (some bt425.1)) else (some t421)))))
set_option maxHeartbeats 8000000 in
set_option maxRecDepth 100000 in
theorem spec_DrawReadMat.calls (k : Nat) (A0 : Option Addr) (c0 : Nat) (l0 : List Int) (r : ByteArray) (w : World) (hr0 : Kd.C (Kd.int .u8) w A0 l0.length l0) (hc0 : l0.length ≤ c0) (h : spec_DrawReadMat.f k l0 = some r) :
  Calls Tryz.prog 20 #[.slice A0 l0.length c0] w fun e w' => e = .returned (.string r) ∧ Below w.heap.size w w' := by
 have HR0 := Aside0.mk hr0
 have HC0 := Aside0.mk hc0
 clear hr0 hc0
 have HB := asd (Below.refl w.heap.size w)
 have H : ((spec_l01From.f k l0).bind fun bt411 => ((spec_l02Draw.f k bt411.1 bt411.2.1 bt411.2.2).bind fun bt415 => ((spec_MatText.f k bt415.1 bt415.2.1 bt415.2.2.1 bt415.2.2.2.1).bind fun t421 => ((spec_l01Next.f bt411.1 bt415.2.2.2.2.1 bt415.2.2.2.2.2 3).bind fun bt422 => (if bt422.1 = 0 then ((spec_l01Damage.f bt411.1 bt422.2.1 bt422.2.2 t421).bind fun bt425 => (some bt425.1)) else (some t421)))))) = some r := h
 clear h
 obtain ⟨⟨t411, t412, t413⟩, A2, H⟩ := ob H
 try dsimp only at H
 obtain ⟨⟨t415, t416, t417, t418, t419, t420⟩, A3, H⟩ := ob H
 try dsimp only at H
 obtain ⟨t421, A4, H⟩ := ob H
 try dsimp only at H
 obtain ⟨⟨t422, t423, t424⟩, A5, H⟩ := ob H
 try dsimp only at H
 by_cases c6 : t422 = 0
 rw [if_pos c6] at H
 have c6b0 : (t422 == 0) = true := beq_iff_eq.mpr c6
 have c6b1 : (t422 != 0) = false := bne_eq_false_iff_eq.mpr c6
 clear c6
 obtain ⟨⟨t425, t426, t427⟩, A7, H⟩ := ob H
 try dsimp only at H
 obtain rfl := Option.some.inj H
 rotate_left
 rw [if_neg c6] at H
 have c6b0 : (t422 == 0) = false := beq_eq_false_iff_ne.mpr c6
 have c6b1 : (t422 != 0) = true := bne_iff_ne.mpr c6
 obtain rfl := Option.some.inj H
 rotate_left
 all_goals
  go_enter Tryz.func20, Tryz.ntmps20
  go_wp2_with (first | ((with_reducible refine gate_callee (f := 33) rfl ?_); refine gl 6 Tryz.func33 #[.slice A0 l0.length c0] ?_; (with_reducible refine (spec_l01From.calls _ _ _ _ _ _ _ w _ ?side1 ?side2 ?side3 A2.out).mono ?_); (case side1 => repeat (first | (with_reducible first | exact HB.out | apply below_alloc | apply pw_below_drewN | apply below_drew1) | exact HB.out)); (case side2 => exact HR0.out); (case side3 => exact HC0.out); rintro e w8 ⟨g414, rfl, hi, hb, hb2⟩; refine ⟨_, rfl, ?_⟩; replace HB := asd (hb); have HI414 := asd (hi); (try clear hb); (try clear hb2); (try clear hk); (try clear hi)) | ((with_reducible refine gate_callee (f := 50) rfl ?_); refine gl 8 Tryz.func50 #[.pointer (some ⟨g414, 0, none⟩)] ?_; (with_reducible refine (spec_l02Draw.calls _ _ _ _ _ _ _ _ _ _ _ w _ ?side1 ?side2 A3.out).mono ?_); (case side1 => repeat (first | (with_reducible first | exact HI414.out | apply IsS106.alloc | apply IsS106.drewN | apply IsS106.drew | apply IsS106.set_1 | apply IsS106.set_2) | exact HI414.out)); (case side2 => repeat (first | (with_reducible first | exact HB.out | apply below_alloc | apply pw_below_drewN | apply below_drew1 | refine below_set ?_ (IsS106.ge HI414.out)) | exact HB.out)); rintro e w9 ⟨rfl, hi, hb, hk⟩; refine ⟨_, rfl, ?_⟩; replace HB := asd (hb); replace HI414 := asd (hi); (try clear hb); (try clear hb2); (try clear hk); (try clear hi)) | ((with_reducible refine gate_callee (f := 22) rfl ?_); refine gl 9 Tryz.func22 #[.agg #[.int .i64 t415, .int .i64 t416, .int .i64 t417, .int .i64 t418]] ?_; (with_reducible refine (spec_MatText.calls _ _ _ _ _ _ _ A4.out).mono ?_); rintro e w10 ⟨rfl, hb⟩; refine ⟨_, rfl, ?_⟩; replace HB := asd (below_step (by repeat (first | (with_reducible first | exact HB.out | apply below_alloc | apply pw_below_drewN | apply below_drew1 | refine below_set ?_ (IsS106.ge HI414.out)) | exact HB.out)) hb); replace HI414 := asd (IsS106.below (by repeat (first | (with_reducible first | exact HI414.out | apply IsS106.alloc | apply IsS106.drewN | apply IsS106.drew | apply IsS106.set_1 | apply IsS106.set_2) | exact HI414.out)) hb); (try clear hb)) | ((with_reducible refine gate_callee (f := 45) rfl ?_); refine gl 11 Tryz.func45 #[.pointer (some ⟨g414, 0, none⟩), .int .i64 3] ?_; (with_reducible refine (spec_l01Next.calls _ _ _ _ _ _ _ _ w _ ?side1 ?side2 A5.out).mono ?_); (case side1 => repeat (first | (with_reducible first | exact HI414.out | apply IsS106.alloc | apply IsS106.drewN | apply IsS106.drew | apply IsS106.set_1 | apply IsS106.set_2) | exact HI414.out)); (case side2 => repeat (first | (with_reducible first | exact HB.out | apply below_alloc | apply pw_below_drewN | apply below_drew1 | refine below_set ?_ (IsS106.ge HI414.out)) | exact HB.out)); rintro e w11 ⟨rfl, hi, hb, hk⟩; refine ⟨_, rfl, ?_⟩; replace HB := asd (hb); replace HI414 := asd (hi); (try clear hb); (try clear hb2); (try clear hk); (try clear hi)) | ((with_reducible refine gate_callee (f := 46) rfl ?_); refine gl 15 Tryz.func46 #[.pointer (some ⟨g414, 0, none⟩), .string t421] ?_; (with_reducible refine (spec_l01Damage.calls _ _ _ _ _ _ _ _ w _ ?side1 ?side2 A7.out).mono ?_); (case side1 => repeat (first | (with_reducible first | exact HI414.out | apply IsS106.alloc | apply IsS106.drewN | apply IsS106.drew | apply IsS106.set_1 | apply IsS106.set_2) | exact HI414.out)); (case side2 => repeat (first | (with_reducible first | exact HB.out | apply below_alloc | apply pw_below_drewN | apply below_drew1 | refine below_set ?_ (IsS106.ge HI414.out)) | exact HB.out)); rintro e w12 ⟨rfl, hi, hb, hk⟩; refine ⟨_, rfl, ?_⟩; replace HB := asd (hb); replace HI414 := asd (hi); (try clear hb); (try clear hb2); (try clear hk); (try clear hi)))
  go_ret
  exact ⟨by first | rfl | (simp [errW_none, errW_some] <;> rfl) | (simp [*, errW_none, errW_some] <;> rfl), by repeat (first | (with_reducible first | exact HB.out | apply below_alloc | apply pw_below_drewN | apply below_drew1 | refine below_set ?_ (IsS106.ge HI414.out)) | exact HB.out)⟩
/-! ### spec_l01Split: function 47 -/
def spec_l01Split.l0 : Nat → ByteArray → Int → List ByteArray → Int → Int → Option (List ByteArray)
 | 0, _, _, _, _, _ => none
 | k + 1, x0, x1, x5, x6, x7 => if x7 ≤ (x0.size : Int) then (if x7 = (x0.size : Int) then (if 0 ≤ x6 then (if x6 ≤ x7 then (if x5.length < 8796093022208 then (spec_l01Split.l0 k x0 x1 (x5 ++ [x0.extract (x6 : Int).toNat (x7 : Int).toNat]) (wrap64 (x7 + 1)) (wrap64 (x7 + 1))) else (none)) else (none)) else (none)) else (if 0 ≤ x7 then (if x7 < (x0.size : Int) then (if (bt x0 x7) = x1 then (if 0 ≤ x6 then (if x6 ≤ x7 then (if x5.length < 8796093022208 then (spec_l01Split.l0 k x0 x1 (x5 ++ [x0.extract (x6 : Int).toNat (x7 : Int).toNat]) (wrap64 (x7 + 1)) (wrap64 (x7 + 1))) else (none)) else (none)) else (none)) else (spec_l01Split.l0 k x0 x1 x5 x6 (wrap64 (x7 + 1)))) else (none)) else (none))) else (some x5)
def spec_l01Split.f (k : Nat) (a0 : ByteArray) (a1 : Int) : Option (List ByteArray) := spec_l01Split.l0 k a0 a1 (([] : List ByteArray)) 0 0
set_option maxHeartbeats 8000000 in
set_option maxRecDepth 100000 in
theorem spec_l01Split.calls (k : Nat) (a0 : ByteArray) (a1 : Int) (r : List ByteArray) (w : World) (h : spec_l01Split.f k a0 a1 = some r) :
  Calls Tryz.prog 47 #[.string a0, .int .u8 a1] w fun e w' => ∃ v0_ : Value, e = .returned (v0_) ∧ Kd.R Kd.string 9 w' w.heap.size (fun _ => True) v0_ r ∧ Below w.heap.size w w' := by
 have HB := asd (Below.refl w.heap.size w)
 have H : (spec_l01Split.l0 k a0 a1 (([] : List ByteArray)) 0 0) = some r := h
 clear h
 obtain ⟨y428, hy428⟩ : ∃ y_ : List ByteArray, y_ = (([] : List ByteArray)) := ⟨_, rfl⟩
 replace H : (spec_l01Split.l0 k a0 a1 y428 0 0) = some r := by first | (rw [hy428]; with_reducible exact H) | (have H2_ := (Option.bind_some _ _).symm.trans H; rw [hy428]; with_reducible exact H2_) | (have H2_ := (Option.bind_some _ _).symm.trans H; with_reducible exact H2_) | with_reducible exact H | (rw [hy428]; exact H) | exact H
 have Ny428 := Aside0.mk hy428
 clear hy428
 have H' := Aside0.mk H
 clear H
 go_enter Tryz.func47, Tryz.ntmps47
 go_wp2_with (first | ((with_reducible refine gd 8 rfl ?_); refine Kd.R_lit Kd.string _ 9 ?hg (N := 8) ?hd (xs := ([] : List ByteArray)) (inner := []) (ok := fun _ => True) (okp := fun _ => True) ?hr ?hp (fun _ hk => hk) trivial (Below.refl _ _) (Nat.le_refl _) (by simp) ?_; (case hd => rfl); (case hg => rfl); (case hr => first | (go_simp; done) | (go_simp; rfl)); (case hp => exact (Reps.none _ _)); intro v429 w3 ho4 hb hg_ hnew_; clear hg_ hnew_; (first | rw [← Ny428.out] at ho4 | (simp only [Int.reduceToNat] at ho4; rw [← Ny428.out] at ho4)); have HO430 := asd (Kd.R_lower ho4 (bsz0 HB)); replace HB := bS0 HB hb; clear hb ho4))
 go_loopg [5, 6, 7] k (fun kq v5 v6 v7 w' => ∃ (x5_1 : List ByteArray) (x6_1 : Int) (x7_1 : Int), v6 = .int .i64 x6_1 ∧ v7 = .int .i64 x7_1 ∧ Aside0 (spec_l01Split.l0 kq a0 a1 x5_1 x6_1 x7_1 = some r) ∧ Aside0 (kq ≤ k) ∧ Aside0 (Kd.R Kd.string 9 w' w.heap.size (fun _ => True) v5 x5_1) ∧ Aside0 (Below w.heap.size w w'))
 case atStart => exact ⟨(y428), (0), (0), (by first | rfl | (simp; done) | (simp [*]; done)), (by first | rfl | (simp; done) | (simp [*]; done)), H', ⟨Nat.le_refl _⟩, ⟨by (with_reducible repeat (first | apply Kd.R_alloc | apply Kd.R_drewN | apply Kd.R_drew)); exact HO430.out⟩, ⟨bbw0 HB⟩⟩
 case round =>
  clear H'
  try clear p2
  try clear c4
  obtain ⟨x5_1, x6_1, x7_1, rfl, rfl, HA, HK1, HO_5, HB⟩ := hrel
  cases gk with
  | zero => exact absurd HA.out (by simp [spec_l01Split.l0])
  | succ k1 =>
   have H := HA.out
   clear HA
   simp only [spec_l01Split.l0] at H
   by_cases c5 : x7_1 ≤ (a0.size : Int)
   rw [if_pos c5] at H
   have c5b0 := decide_eq_true c5
   clear c5
   by_cases c6 : x7_1 = (a0.size : Int)
   rw [if_pos c6] at H
   have c6b0 : (x7_1 == (a0.size : Int)) = true := beq_iff_eq.mpr c6
   have c6b1 : (x7_1 != (a0.size : Int)) = false := bne_eq_false_iff_eq.mpr c6
   clear c6
   by_cases c7 : 0 ≤ x6_1
   rw [if_pos c7] at H
   have c7b0 := eq_true c7
   have c7b1 := decide_eq_true c7
   clear c7
   by_cases c8 : x6_1 ≤ x7_1
   rw [if_pos c8] at H
   have c8b0 := eq_true c8
   have c8b1 := decide_eq_true c8
   clear c8
   have c9b0 := eq_true (od : x7_1 ≤ (a0.size : Int))
   by_cases c10 : x5_1.length < 8796093022208
   rw [if_pos c10] at H
   have LMc10 := Aside0.mk c10
   clear c10
   obtain ⟨y431, hy431⟩ : ∃ y_ : List ByteArray, y_ = (x5_1 ++ [a0.extract (x6_1 : Int).toNat (x7_1 : Int).toNat]) := ⟨_, rfl⟩
   replace H : (spec_l01Split.l0 k1 a0 a1 y431 (wrap64 (x7_1 + 1)) (wrap64 (x7_1 + 1))) = some r := by first | (rw [hy431]; with_reducible exact H) | (have H2_ := (Option.bind_some _ _).symm.trans H; rw [hy431]; with_reducible exact H2_) | (have H2_ := (Option.bind_some _ _).symm.trans H; with_reducible exact H2_) | with_reducible exact H | (rw [hy431]; exact H) | exact H
   have Ny431 := Aside0.mk hy431
   clear hy431
   have H' := Aside0.mk H
   clear H
   rotate_left
   ·rw [if_neg c10] at H
    exact absurd H (by simp)
   ·rw [if_neg c8] at H
    exact absurd H (by simp)
   ·rw [if_neg c7] at H
    exact absurd H (by simp)
   rw [if_neg c6] at H
   have c6b0 : (x7_1 == (a0.size : Int)) = false := beq_eq_false_iff_ne.mpr c6
   have c6b1 : (x7_1 != (a0.size : Int)) = true := bne_iff_ne.mpr c6
   by_cases c12 : 0 ≤ x7_1
   rw [if_pos c12] at H
   have c12b0 := decide_eq_true c12
   clear c12
   by_cases c13 : x7_1 < (a0.size : Int)
   rw [if_pos c13] at H
   have c13b0 := decide_eq_true c13
   clear c13
   by_cases c15 : (bt a0 x7_1) = a1
   rw [if_pos c15] at H
   have c15b0 : ((bt a0 x7_1) == a1) = true := beq_iff_eq.mpr c15
   have c15b1 : ((bt a0 x7_1) != a1) = false := bne_eq_false_iff_eq.mpr c15
   clear c15
   by_cases c16 : 0 ≤ x6_1
   rw [if_pos c16] at H
   have c16b0 := eq_true c16
   have c16b1 := decide_eq_true c16
   clear c16
   by_cases c17 : x6_1 ≤ x7_1
   rw [if_pos c17] at H
   have c17b0 := eq_true c17
   have c17b1 := decide_eq_true c17
   clear c17
   have c18b0 := eq_true (od : x7_1 ≤ (a0.size : Int))
   by_cases c19 : x5_1.length < 8796093022208
   rw [if_pos c19] at H
   have LMc10 := Aside0.mk c19
   clear c19
   obtain ⟨y431, hy434⟩ : ∃ y_ : List ByteArray, y_ = (x5_1 ++ [a0.extract (x6_1 : Int).toNat (x7_1 : Int).toNat]) := ⟨_, rfl⟩
   replace H : (spec_l01Split.l0 k1 a0 a1 y431 (wrap64 (x7_1 + 1)) (wrap64 (x7_1 + 1))) = some r := by first | (rw [hy434]; with_reducible exact H) | (have H2_ := (Option.bind_some _ _).symm.trans H; rw [hy434]; with_reducible exact H2_) | (have H2_ := (Option.bind_some _ _).symm.trans H; with_reducible exact H2_) | with_reducible exact H | (rw [hy434]; exact H) | exact H
   have Ny431 := Aside0.mk hy434
   clear hy434
   have H' := Aside0.mk H
   clear H
   rotate_left
   ·rw [if_neg c19] at H
    exact absurd H (by simp)
   ·rw [if_neg c17] at H
    exact absurd H (by simp)
   ·rw [if_neg c16] at H
    exact absurd H (by simp)
   rw [if_neg c15] at H
   have c15b0 : ((bt a0 x7_1) == a1) = false := beq_eq_false_iff_ne.mpr c15
   have c15b1 : ((bt a0 x7_1) != a1) = true := bne_iff_ne.mpr c15
   have H' := Aside0.mk H
   clear H
   rotate_left
   ·rw [if_neg c13] at H
    exact absurd H (by simp)
   ·rw [if_neg c12] at H
    exact absurd H (by simp)
   rw [if_neg c5] at H
   have c5b0 := decide_eq_false c5
   clear c5
   obtain rfl := Option.some.inj H
   rotate_left
   rotate_left
   have p14 : 0 ≤ (x7_1 : Int) := od
   have q14 : x7_1 < (a0.size : Int) := od
   have hx14 := bt_at a0 x7_1
   replace p14 := eq_true p14
   replace q14 := eq_true q14
   rotate_left
   ·have p14 : 0 ≤ (x7_1 : Int) := od
    have q14 : x7_1 < (a0.size : Int) := od
    have hx14 := bt_at a0 x7_1
    replace p14 := eq_true p14
    replace q14 := eq_true q14
    go_wp2
    go_roundg k1
    case measure => have := HK1.out; omega
    case rel => exact ⟨(x5_1), (x6_1), (wrap64 (x7_1 + 1)), (by first | rfl | (simp; done) | (simp [*]; done)), (by first | rfl | (simp; done) | (simp [*]; done)), H', ⟨by have := HK1.out; omega⟩, ⟨by (with_reducible repeat (first | apply Kd.R_alloc | apply Kd.R_drewN | apply Kd.R_drew)); exact HO_5.out⟩, ⟨bbw0 HB⟩⟩
   ·go_wp2
    go_ret
    exact ⟨_, by first | rfl | (simp [errW_none, errW_some] <;> rfl) | (simp [*, errW_none, errW_some] <;> rfl), by (with_reducible repeat (first | apply Kd.R_alloc | apply Kd.R_drewN | apply Kd.R_drew)); exact HO_5.out, bbw0 HB⟩
   all_goals
    go_wp2_with (first | ((with_reducible refine gate_builtin (b := .append) (xs := #[.tmp 26, .tmp 31]) rfl ?_); at_builtin; refine Kd.R_append Kd.string (w0 := w) w.heap.size rfl (.tmp 26) (.tmp 31) 73 9 (.string ⟨#[]⟩) 16 rfl Tryz.underlying73 info9 rfl (by decide) (by omega) u5 x5_1 (a0.extract (x6_1 : Int).toNat (x7_1 : Int).toNat) [.string (a0.extract (x6_1 : Int).toNat (x7_1 : Int).toNat)] (fun _ => True) (fun _ => False) rfl rfl ?aP (fun _ hk => hk.elim) ?aF ?aO ?aB ?aS ?aL ?_; (case aP => exact rfl); (case aB => exact (bbw0 HB)); (case aF => exact (fun _ _ => trivial)); (case aO => exact (kr HO_5)); (case aS => exact (bsz0 HB)); (case aL => have := LMc10.out; omega); intro v432 w11 ho hb hg hat; rw [← Ny431.out] at ho; have n0_ := asd (hb); have n1_ := asd (ho); clear HB; clear HO_5; have HB := n0_; have HO433 := n1_; clear n0_ n1_; clear ho hb hg hat))
    go_roundg k1
    case measure => have := HK1.out; omega
    case rel => exact ⟨(y431), (wrap64 (x7_1 + 1)), (wrap64 (x7_1 + 1)), (by first | rfl | (simp; done) | (simp [*]; done)), (by first | rfl | (simp; done) | (simp [*]; done)), H', ⟨by have := HK1.out; omega⟩, ⟨by (with_reducible repeat (first | apply Kd.R_alloc | apply Kd.R_drewN | apply Kd.R_drew)); exact HO433.out⟩, ⟨bbw0 HB⟩⟩
/-! ### spec_l01Digits: function 135 -/
mutual
def spec_l01Digits.j0 : Nat → ByteArray → Bool → Option (Int × Bool)
 | 0, _, _ => none
 | k + 1, x0, x13 => if x13 = true then (some (0, false)) else (spec_l01Digits.l0 k x0 0 0)
def spec_l01Digits.l0 : Nat → ByteArray → Int → Int → Option (Int × Bool)
 | 0, _, _, _ => none
 | k + 1, x0, x4, x5 => if x5 < (x0.size : Int) then (if 0 ≤ x5 then (if (bt x0 x5) < 48 then (some (0, false)) else (if (bt x0 x5) > 57 then (some (0, false)) else (spec_l01Digits.l0 k x0 (wrap64 ((wrap64 (10 * x4)) + (((bt x0 x5) - 48) % 256))) (wrap64 (x5 + 1))))) else (none)) else ((spec_l01Dec.f k x4).bind fun t437 => (some (x4, (t437.toList == x0.toList))))
end
def spec_l01Digits.f (k : Nat) (a0 : ByteArray) : Option (Int × Bool) := if (a0.size : Int) < 1 then (spec_l01Digits.j0 k a0 true) else (spec_l01Digits.j0 k a0 (decide ((a0.size : Int) > 10)))
set_option maxHeartbeats 8000000 in
set_option maxRecDepth 100000 in
theorem spec_l01Digits.calls (k : Nat) (a0 : ByteArray) (r1 : Int) (r2 : Bool) (w : World) (h : spec_l01Digits.f k a0 = some (r1, r2)) :
  Calls Tryz.prog 135 #[.string a0] w fun e w' => e = .returned (.tuple #[.int .i64 r1, .bool r2]) ∧ Below w.heap.size w w' := by
 have HB := asd (Below.refl w.heap.size w)
 have H : (if (a0.size : Int) < 1 then (spec_l01Digits.j0 k a0 true) else (spec_l01Digits.j0 k a0 (decide ((a0.size : Int) > 10)))) = some (r1, r2) := h
 clear h
 have HC2 := Aside0.mk H
 clear H
 go_enter Tryz.func135, Tryz.ntmps135
 go_upto_region 1 with (fail)
 go_cut [13] (fun v13 wc => ∃ (kq : Nat) (x13_1 : Bool), v13 = .bool x13_1 ∧ Aside0 (spec_l01Digits.j0 kq a0 x13_1 = some (r1, r2)) ∧ Aside0 (kq ≤ k) ∧ Aside0 (Below w.heap.size w wc))
 case first =>
  have H := HC2.out
  clear HC2
  by_cases c3 : (a0.size : Int) < 1
  ·rw [if_pos c3] at H
   have c3b0 := decide_eq_true c3
   have c3b1 : decide (a0.size < 1) = true := decide_eq_true (by omega)
   clear c3
   (first | rw [c3b0] | (simp only [i64_w, i32_w]; rw [c3b0]) | skip)
   have H' := Aside0.mk H
   clear H
   go_wp2
   go_meet
   case rel => exact ⟨_, (true), (by first | rfl | (simp; done) | (simp [*]; done)), H', ⟨by first | omega | exact Nat.le_refl _⟩, ⟨bbw0 HB⟩⟩
  ·rw [if_neg c3] at H
   have c3b0 := decide_eq_false c3
   have c3b1 : decide (a0.size < 1) = false := decide_eq_false (by omega)
   clear c3
   (first | rw [c3b0] | (simp only [i64_w, i32_w]; rw [c3b0]) | skip)
   have H' := Aside0.mk H
   clear H
   go_wp2
   go_meet
   case rel => exact ⟨_, (decide ((a0.size : Int) > 10)), (by first | rfl | (simp; done) | (simp [*]; done)), H', ⟨by first | omega | exact Nat.le_refl _⟩, ⟨bbw0 HB⟩⟩
 case rest =>
  clear HC2
  try clear c1
  try clear p2
  try clear c3
  try clear c3b0
  try clear c3b1
  obtain ⟨kq, x13_1, rfl, HA, HJ1, HB⟩ := hcut
  cases kq with
  | zero => exact absurd HA.out (by simp [spec_l01Digits.j0])
  | succ kj1 =>
   have H := HA.out
   clear HA
   simp only [spec_l01Digits.j0] at H
   by_cases c4 : x13_1 = true
   ·subst c4
    replace H := ifT H
    simp only [Option.some.injEq, Prod.mk.injEq] at H
    obtain ⟨rfl, rfl⟩ := H
    go_wp2
    go_ret2
    exact er (bbw0 HB)
   ·replace c4 := Bool.eq_false_iff.mpr c4
    subst c4
    replace H := ifF H
    have H' := Aside0.mk H
    clear H
    go_wp2
    go_loopg [4, 5] kj1 (fun kq v4 v5 w' => ∃ (x4_2 : Int) (x5_2 : Int), v4 = .int .i64 x4_2 ∧ v5 = .int .i64 x5_2 ∧ Aside0 (spec_l01Digits.l0 kq a0 x4_2 x5_2 = some (r1, r2)) ∧ Aside0 (kq ≤ kj1) ∧ Aside0 (Below w.heap.size w w'))
    case atStart => exact ⟨(0), (0), (by first | rfl | (simp; done) | (simp [*]; done)), (by first | rfl | (simp; done) | (simp [*]; done)), H', ⟨Nat.le_refl _⟩, ⟨bbw0 HB⟩⟩
    case round =>
     clear H'
     try clear c1
     try clear p2
     try clear c3
     try clear c3b0
     try clear c3b1
     try clear c4
     try clear p2
     obtain ⟨x4_2, x5_2, rfl, rfl, HA, HK2, HB⟩ := hrel
     cases gk with
     | zero => exact absurd HA.out (by simp [spec_l01Digits.l0])
     | succ k2 =>
      have H := HA.out
      clear HA
      simp only [spec_l01Digits.l0] at H
      by_cases c5 : x5_2 < (a0.size : Int)
      rw [if_pos c5] at H
      have c5b0 := decide_eq_true c5
      clear c5
      by_cases c6 : 0 ≤ x5_2
      rw [if_pos c6] at H
      have c6b0 := decide_eq_true c6
      clear c6
      by_cases c8 : (bt a0 x5_2) < 48
      rw [if_pos c8] at H
      have c8b0 := decide_eq_true c8
      clear c8
      rotate_left
      rw [if_neg c8] at H
      have c8b0 := decide_eq_false c8
      clear c8
      by_cases c10 : (bt a0 x5_2) > 57
      rw [if_pos c10] at H
      have c10b0 : decide (57 < (bt a0 x5_2)) = true := decide_eq_true c10
      clear c10
      rotate_left
      rw [if_neg c10] at H
      have c10b0 : decide (57 < (bt a0 x5_2)) = false := decide_eq_false c10
      clear c10
      have H' := Aside0.mk H
      clear H
      rotate_left
      ·rw [if_neg c6] at H
       exact absurd H (by simp)
      rw [if_neg c5] at H
      have c5b0 := decide_eq_false c5
      clear c5
      obtain ⟨t437, A12, H⟩ := ob H
      try dsimp only at H
      rotate_left
      simp only [Option.some.injEq, Prod.mk.injEq] at H
      obtain ⟨rfl, rfl⟩ := H
      rotate_left
      simp only [Option.some.injEq, Prod.mk.injEq] at H
      obtain ⟨rfl, rfl⟩ := H
      rotate_left 2
      ·simp only [Option.some.injEq, Prod.mk.injEq] at H
       obtain ⟨rfl, rfl⟩ := H
       go_wp2_with (first | ((with_reducible refine gate_callee (f := 129) rfl ?_); refine gl 40 Tryz.func129 #[.int .i64 x4_2] ?_; (with_reducible refine (spec_l01Dec.calls _ _ _ _ A12.out).mono ?_); rintro e w13 ⟨rfl, hb⟩; refine ⟨_, rfl, ?_⟩; replace HB := bS0 HB hb; (try clear hb)))
       go_ret2
       exact er (bbw0 HB)
      all_goals
       have p7 : 0 ≤ (x5_2 : Int) := od
       have q7 : x5_2 < (a0.size : Int) := od
       have hx7 := bt_at a0 x5_2
       replace p7 := eq_true p7
       replace q7 := eq_true q7
      ·go_wp2
       go_ret2
       exact er (bbw0 HB)
      rotate_left 2
      all_goals
       have p9 : 0 ≤ (x5_2 : Int) := od
       have q9 : x5_2 < (a0.size : Int) := od
       have hx9 := bt_at a0 x5_2
       replace p9 := eq_true p9
       replace q9 := eq_true q9
      ·go_wp2
       go_ret2
       exact er (bbw0 HB)
      ·have p11 : 0 ≤ (x5_2 : Int) := od
       have q11 : x5_2 < (a0.size : Int) := od
       have hx11 := bt_at a0 x5_2
       replace p11 := eq_true p11
       replace q11 := eq_true q11
       go_wp2
       go_roundg k2
       case measure => have := HJ1.out; have := HK2.out; omega
       case rel => exact ⟨(wrap64 ((wrap64 (10 * x4_2)) + (((bt a0 x5_2) - 48) % 256))), (wrap64 (x5_2 + 1)), (by first | rfl | (simp; done) | (simp [*]; done)), (by first | rfl | (simp; done) | (simp [*]; done)), H', ⟨by have := HJ1.out; have := HK2.out; omega⟩, ⟨bbw0 HB⟩⟩
/-! ### spec_l01Signed: function 106 -/
def spec_l01Signed.j0 : Nat → ByteArray → Bool → Option (Int × Bool)
 | 0, _, _ => none
 | k + 1, x0, x13 => if x13 = true then (if 1 ≤ (x0.size : Int) then ((spec_l01Digits.f k (x0.extract 1 x0.size)).bind fun bt438 => (if bt438.2 = true then (some (wrap64 (-bt438.1), decide (bt438.1 > 0))) else (some (wrap64 (-bt438.1), false)))) else (none)) else ((spec_l01Digits.f k x0).bind fun bt440 => (some (bt440.1, bt440.2)))
def spec_l01Signed.f (k : Nat) (a0 : ByteArray) : Option (Int × Bool) := if (a0.size : Int) > 0 then (if 0 < (a0.size : Int) then (spec_l01Signed.j0 k a0 ((bt a0 0) == 45)) else (none)) else (spec_l01Signed.j0 k a0 false)
set_option maxHeartbeats 8000000 in
set_option maxRecDepth 100000 in
theorem spec_l01Signed.calls (k : Nat) (a0 : ByteArray) (r1 : Int) (r2 : Bool) (w : World) (h : spec_l01Signed.f k a0 = some (r1, r2)) :
  Calls Tryz.prog 106 #[.string a0] w fun e w' => e = .returned (.tuple #[.int .i64 r1, .bool r2]) ∧ Below w.heap.size w w' := by
 have HB := asd (Below.refl w.heap.size w)
 have H : (if (a0.size : Int) > 0 then (if 0 < (a0.size : Int) then (spec_l01Signed.j0 k a0 ((bt a0 0) == 45)) else (none)) else (spec_l01Signed.j0 k a0 false)) = some (r1, r2) := h
 clear h
 have HC2 := Aside0.mk H
 clear H
 go_enter Tryz.func106, Tryz.ntmps106
 go_upto_region 1 with (fail)
 go_cut [13] (fun v13 wc => ∃ (kq : Nat) (x13_1 : Bool), v13 = .bool x13_1 ∧ Aside0 (spec_l01Signed.j0 kq a0 x13_1 = some (r1, r2)) ∧ Aside0 (kq ≤ k) ∧ Aside0 (Below w.heap.size w wc))
 case first =>
  have H := HC2.out
  clear HC2
  by_cases c3 : (a0.size : Int) > 0
  ·rw [if_pos c3] at H
   have c3b0 : decide (0 < (a0.size : Int)) = true := decide_eq_true c3
   have c3b1 : decide (0 < a0.size) = true := decide_eq_true (by omega)
   clear c3
   (first | rw [c3b0] | (simp only [i64_w, i32_w]; rw [c3b0]) | skip)
   by_cases c4 : 0 < (a0.size : Int)
   ·rw [if_pos c4] at H
    have c4b0 := decide_eq_true c4
    have c4b1 : decide (0 < a0.size) = true := decide_eq_true (by omega)
    clear c4
    have H' := Aside0.mk H
    clear H
    have p5 : 0 ≤ (0 : Int) := (by omega)
    have q5 : 0 < a0.size := (by have : (0 : Int) < (a0.size : Int) := od; omega)
    have hx5 : ∀ h : 0 < a0.size, ((a0[0]'h).toNat : Int) = bt a0 0 := bt_at a0 0
    clear p5
    have qi5 : (0 < (a0.size : Int)) = True := eq_true (od)
    replace q5 := eq_true q5
    go_wp2
    go_meet
    case rel => exact ⟨_, (((bt a0 0) == 45)), (by first | rfl | (simp; done) | (simp [*]; done)), H', ⟨by first | omega | exact Nat.le_refl _⟩, ⟨bbw0 HB⟩⟩
   ·rw [if_neg c4] at H
    exact absurd H (by simp)
  ·rw [if_neg c3] at H
   have c3b0 : decide (0 < (a0.size : Int)) = false := decide_eq_false c3
   have c3b1 : decide (0 < a0.size) = false := decide_eq_false (by omega)
   clear c3
   (first | rw [c3b0] | (simp only [i64_w, i32_w]; rw [c3b0]) | skip)
   have H' := Aside0.mk H
   clear H
   go_wp2
   go_meet
   case rel => exact ⟨_, (false), (by first | rfl | (simp; done) | (simp [*]; done)), H', ⟨by first | omega | exact Nat.le_refl _⟩, ⟨bbw0 HB⟩⟩
 case rest =>
  clear HC2
  try clear c1
  try clear p2
  try clear c3
  try clear c3b0
  try clear c3b1
  try clear c4
  try clear c4b0
  try clear c4b1
  try clear p5
  try clear q5
  try clear hx5
  try clear qi5
  try clear p5
  try clear q5
  obtain ⟨kq, x13_1, rfl, HA, HJ1, HB⟩ := hcut
  cases kq with
  | zero => exact absurd HA.out (by simp [spec_l01Signed.j0])
  | succ kj1 =>
   have H := HA.out
   clear HA
   simp only [spec_l01Signed.j0] at H
   by_cases c6 : x13_1 = true
   subst c6
   replace H := ifT H
   by_cases c7 : 1 ≤ (a0.size : Int)
   rw [if_pos c7] at H
   have c7b0 := eq_true c7
   have c7b1 := decide_eq_true c7
   clear c7
   obtain ⟨⟨t438, t439⟩, A8, H⟩ := ob H
   try dsimp only at H
   by_cases c9 : t439 = true
   subst c9
   replace H := ifT H
   rotate_left
   replace c9 := Bool.eq_false_iff.mpr c9
   subst c9
   replace H := ifF H
   rotate_left
   ·rw [if_neg c7] at H
    exact absurd H (by simp)
   replace c6 := Bool.eq_false_iff.mpr c6
   subst c6
   replace H := ifF H
   obtain ⟨⟨t440, t441⟩, A12, H⟩ := ob H
   try dsimp only at H
   rotate_left
   all_goals
    simp only [Option.some.injEq, Prod.mk.injEq] at H
    obtain ⟨rfl, rfl⟩ := H
   rotate_left 2
   ·go_wp2_with (first | ((with_reducible refine gate_callee (f := 135) rfl ?_); refine gl 28 Tryz.func135 #[.string a0] ?_; (with_reducible refine (spec_l01Digits.calls _ _ _ _ _ A12.out).mono ?_); rintro e w13 ⟨rfl, hb⟩; refine ⟨_, rfl, ?_⟩; replace HB := bS0 HB hb; (try clear hb)))
    go_ret2
    exact er (bbw0 HB)
   all_goals
    go_wp2_with (first | ((with_reducible refine gate_callee (f := 135) rfl ?_); refine gl 17 Tryz.func135 #[.string (a0.extract 1 a0.size)] ?_; (with_reducible refine (spec_l01Digits.calls _ _ _ _ _ A8.out).mono ?_); rintro e w10 ⟨rfl, hb⟩; refine ⟨_, rfl, ?_⟩; replace HB := bS0 HB hb; (try clear hb)))
    go_ret2
    exact er (bbw0 HB)
/-! ### spec_l01Numbers: function 64 -/
def spec_l01Numbers.l0 : Nat → List ByteArray → List Int → Int → Option (List Int × Bool)
 | 0, _, _, _ => none
 | k + 1, x0, x4, x5 => if x5 < (x0.length : Int) then (if 0 ≤ x5 then ((spec_l01Signed.f k (rdOf ByteArray.empty x0 x5)).bind fun bt446 => (if bt446.2 = true then (if x4.length < 17592186044416 then (spec_l01Numbers.l0 k x0 (x4 ++ [bt446.1]) (wrap64 (x5 + 1))) else (none)) else (some (([] : List Int), false)))) else (none)) else (some (x4, true))
def spec_l01Numbers.f (k : Nat) (l0 : List ByteArray) : Option (List Int × Bool) := spec_l01Numbers.l0 k l0 (([] : List Int)) 0
set_option maxHeartbeats 8000000 in
set_option maxRecDepth 100000 in
theorem spec_l01Numbers.calls (k : Nat) (A0 : Option Addr) (c0 : Nat) (l0 : List ByteArray) (r1 : List Int) (r2 : Bool) (w : World) (hr0 : Kd.C Kd.string w A0 l0.length l0) (hc0 : l0.length ≤ c0) (h : spec_l01Numbers.f k l0 = some (r1, r2)) :
  Calls Tryz.prog 64 #[.slice A0 l0.length c0] w fun e w' => ∃ v0_ : Value, e = .returned (.tuple #[v0_, .bool r2]) ∧ Kd.R (Kd.int .i64) 2 w' w.heap.size (fun _ => True) v0_ r1 ∧ Below w.heap.size w w' := by
 have HR0 := Aside0.mk hr0
 have HC0 := Aside0.mk hc0
 clear hr0 hc0
 have HB := asd (Below.refl w.heap.size w)
 have H : (spec_l01Numbers.l0 k l0 (([] : List Int)) 0) = some (r1, r2) := h
 clear h
 obtain ⟨y442, hy442⟩ : ∃ y_ : List Int, y_ = (([] : List Int)) := ⟨_, rfl⟩
 replace H : (spec_l01Numbers.l0 k l0 y442 0) = some (r1, r2) := by first | (rw [hy442]; with_reducible exact H) | (have H2_ := (Option.bind_some _ _).symm.trans H; rw [hy442]; with_reducible exact H2_) | (have H2_ := (Option.bind_some _ _).symm.trans H; with_reducible exact H2_) | with_reducible exact H | (rw [hy442]; exact H) | exact H
 have Ny442 := Aside0.mk hy442
 clear hy442
 have H' := Aside0.mk H
 clear H
 go_enter Tryz.func64, Tryz.ntmps64
 go_wp2_with (first | ((with_reducible refine gd 8 rfl ?_); refine Kd.R_lit (Kd.int .i64) _ 2 ?hg (N := 8) ?hd (xs := ([] : List Int)) (inner := []) (ok := fun _ => True) (okp := fun _ => True) ?hr ?hp (fun _ hk => hk) trivial (Below.refl _ _) (Nat.le_refl _) (by simp) ?_; (case hd => rfl); (case hg => rfl); (case hr => first | (go_simp; done) | (go_simp; rfl)); (case hp => exact (Reps.none _ _)); intro v443 w2 ho3 hb hg_ hnew_; clear hg_ hnew_; (first | rw [← Ny442.out] at ho3 | (simp only [Int.reduceToNat] at ho3; rw [← Ny442.out] at ho3)); have HO444 := asd (Kd.R_lower ho3 (bsz0 HB)); replace HB := bS0 HB hb; clear hb ho3))
 go_loopg [4, 5] k (fun kq v4 v5 w' => ∃ (x4_1 : List Int) (x5_1 : Int), v5 = .int .i64 x5_1 ∧ Aside0 (spec_l01Numbers.l0 kq l0 x4_1 x5_1 = some (r1, r2)) ∧ Aside0 (kq ≤ k) ∧ Aside0 (Kd.R (Kd.int .i64) 2 w' w.heap.size (fun _ => True) v4 x4_1) ∧ Aside0 (Below w.heap.size w w'))
 case atStart => exact ⟨(y442), (0), (by first | rfl | (simp; done) | (simp [*]; done)), H', ⟨Nat.le_refl _⟩, ⟨by (with_reducible repeat (first | apply Kd.R_alloc | apply Kd.R_drewN | apply Kd.R_drew)); exact HO444.out⟩, ⟨bbw0 HB⟩⟩
 case round =>
  clear H'
  try clear p2
  obtain ⟨x4_1, x5_1, rfl, HA, HK1, HO_4, HB⟩ := hrel
  cases gk with
  | zero => exact absurd HA.out (by simp [spec_l01Numbers.l0])
  | succ k1 =>
   have H := HA.out
   clear HA
   simp only [spec_l01Numbers.l0] at H
   by_cases c4 : x5_1 < (l0.length : Int)
   rw [if_pos c4] at H
   have c4b0 := decide_eq_true c4
   clear c4
   by_cases c5 : 0 ≤ x5_1
   rw [if_pos c5] at H
   have c5b0 := decide_eq_true c5
   clear c5
   obtain ⟨⟨t446, t447⟩, A6, H⟩ := ob H
   try dsimp only at H
   by_cases c7 : t447 = true
   subst c7
   replace H := ifT H
   by_cases c8 : x4_1.length < 17592186044416
   rw [if_pos c8] at H
   have LMc8 := Aside0.mk c8
   clear c8
   obtain ⟨y448, hy448⟩ : ∃ y_ : List Int, y_ = (x4_1 ++ [t446]) := ⟨_, rfl⟩
   replace H : (spec_l01Numbers.l0 k1 l0 y448 (wrap64 (x5_1 + 1))) = some (r1, r2) := by first | (rw [hy448]; with_reducible exact H) | (have H2_ := (Option.bind_some _ _).symm.trans H; rw [hy448]; with_reducible exact H2_) | (have H2_ := (Option.bind_some _ _).symm.trans H; with_reducible exact H2_) | with_reducible exact H | (rw [hy448]; exact H) | exact H
   have Ny448 := Aside0.mk hy448
   clear hy448
   have H' := Aside0.mk H
   clear H
   rotate_left
   ·rw [if_neg c8] at H
    exact absurd H (by simp)
   replace c7 := Bool.eq_false_iff.mpr c7
   subst c7
   replace H := ifF H
   rotate_left
   ·rw [if_neg c5] at H
    exact absurd H (by simp)
   rw [if_neg c4] at H
   have c4b0 := decide_eq_false c4
   clear c4
   rotate_left
   rotate_left
   simp only [Option.some.injEq, Prod.mk.injEq] at H
   obtain ⟨rfl, rfl⟩ := H
   rotate_left
   ·simp only [Option.some.injEq, Prod.mk.injEq] at H
    obtain ⟨rfl, rfl⟩ := H
    go_wp2
    go_ret2
    exact ⟨_, by first | rfl | (simp [errW_none, errW_some] <;> rfl) | (simp [*, errW_none, errW_some] <;> rfl), by (with_reducible repeat (first | apply Kd.R_alloc | apply Kd.R_drewN | apply Kd.R_drew)); exact HO_4.out, bbw0 HB⟩
   all_goals
    have p445 : 0 ≤ (x5_1 : Int) := od
    have q445 : x5_1 < (l0.length : Int) := od
    obtain ⟨ad445, e445, hx445_0⟩ := Kd.at_string HR0.out x5_1 p445 q445
    cases e445
    replace hx445_0 := xb HB hx445_0
    replace p445 := eq_true p445
    replace q445 := eq_true q445
    go_wp2_with (first | ((with_reducible refine gate_callee (f := 106) rfl ?_); refine gl 20 Tryz.func106 #[.string (rdOf ByteArray.empty l0 x5_1)] ?_; (with_reducible refine (spec_l01Signed.calls _ _ _ _ _ A6.out).mono ?_); rintro e w9 ⟨rfl, hb⟩; refine ⟨_, rfl, ?_⟩; replace HO_4 := asd (Kd.R_below (kr HO_4) hb); replace HB := bS0 HB hb; (try clear hb)) | ((with_reducible refine gate_builtin (b := .append) (xs := #[.tmp 25, .tmp 27]) rfl ?_); at_builtin; refine Kd.R_append (Kd.int .i64) (w0 := w) w.heap.size rfl (.tmp 25) (.tmp 27) 48 2 (.int .i64 0) 8 rfl Tryz.underlying48 info2 rfl (by decide) (by omega) u4 x4_1 t446 [.int .i64 t446] (fun _ => True) (fun _ => False) rfl rfl ?aP (fun _ hk => hk.elim) ?aF ?aO ?aB ?aS ?aL ?_; (case aP => exact rfl); (case aB => exact (bbw0 HB)); (case aF => exact (fun _ _ => trivial)); (case aO => exact (kr HO_4)); (case aS => exact (bsz0 HB)); (case aL => have := LMc8.out; omega); intro v449 w10 ho hb hg hat; rw [← Ny448.out] at ho; have n0_ := asd (hb); have n1_ := asd (ho); clear HB; clear HO_4; have HB := n0_; have HO450 := n1_; clear n0_ n1_; clear ho hb hg hat))
   ·go_roundg k1
    case measure => have := HK1.out; omega
    case rel => exact ⟨(y448), (wrap64 (x5_1 + 1)), (by first | rfl | (simp; done) | (simp [*]; done)), H', ⟨by have := HK1.out; omega⟩, ⟨by (with_reducible repeat (first | apply Kd.R_alloc | apply Kd.R_drewN | apply Kd.R_drew)); exact HO450.out⟩, ⟨bbw0 HB⟩⟩
   ·go_ret2
    exact ⟨_, by first | rfl | (simp [errW_none, errW_some] <;> rfl) | (simp [*, errW_none, errW_some] <;> rfl), by first | exact Kd.R_nil _ _ _ _ _ | exact Kd.N_nil _ _ _ _ _ | exact Kd.V_nil _ _ _ _ _ | exact Kd.Q_nil _ _ _ _ _ | exact Kd.S_nil _ _ _ _ _, bbw0 HB⟩
/-! ### spec_ReadMat: function 21 -/
def spec_ReadMat.j0 : Nat → List Int → Bool → Option (Int × Int × Int × Int × Bool)
 | 0, _, _ => none
 | k + 1, x4, x19 => if x19 = true then (some (0, 0, 0, 0, false)) else (if 0 < (x4.length : Int) then (if 1 < (x4.length : Int) then (if 2 < (x4.length : Int) then (if 3 < (x4.length : Int) then ((spec_IsMat.f (rd x4 0) (rd x4 1) (rd x4 2) (rd x4 3)).bind fun t464 => (if t464 = true then (some (rd x4 0, rd x4 1, rd x4 2, rd x4 3, true)) else (some (0, 0, 0, 0, false)))) else (none)) else (none)) else (none)) else (none))
def spec_ReadMat.f (k : Nat) (a0 : ByteArray) : Option (Int × Int × Int × Int × Bool) := (spec_l01Split.f k a0 44).bind fun t452 => ((spec_l01Numbers.f k t452).bind fun bt455 => (if bt455.2 = true then (spec_ReadMat.j0 k bt455.1 ((bt455.1.length : Int) != 4)) else (spec_ReadMat.j0 k bt455.1 true)))
def spec_ReadMat.T4 : Bool × List (List Nat × List Nat) := (true, [([], []), ([0], [0]), ([1], [1]), ([], []), ([3], [3]), ([4], [4]), ([], []), ([6], [6]), ([7], [7]), ([], []), ([9], [9]), ([10], [10]), ([2, 5, 8, 11], [2, 5, 8, 11]), ([], []), ([13, 12, 0, 1, 2, 3, 4, 5, 6, 7, 8, 9, 10, 11, 12, 13], [12, 13])])
def spec_ReadMat.B4 : List Nat := [0, 1, 3, 0, 8, 24, 0, 64, 192, 0, 512, 1536, 4095, 0, 16383]
theorem spec_ReadMat.tab4 : rtab .any (opsOf Tryz.f21 4) = spec_ReadMat.T4 := by kernel_rfl
theorem spec_ReadMat.bits4 : waitsOk spec_ReadMat.T4.2 spec_ReadMat.B4 = true := by kernel_rfl
set_option maxHeartbeats 8000000 in
set_option maxRecDepth 100000 in
theorem spec_ReadMat.calls (k : Nat) (a0 : ByteArray) (r1 : Int) (r2 : Int) (r3 : Int) (r4 : Int) (r5 : Bool) (w : World) (h : spec_ReadMat.f k a0 = some (r1, r2, r3, r4, r5)) :
  Calls Tryz.prog 21 #[.string a0] w fun e w' => e = .returned (.tuple #[.agg #[.int .i64 r1, .int .i64 r2, .int .i64 r3, .int .i64 r4], .bool r5]) ∧ Below w.heap.size w w' := by
 have hu25 := Tryz.underlying25
 have HB := asd (Below.refl w.heap.size w)
 have H : ((spec_l01Split.f k a0 44).bind fun t452 => ((spec_l01Numbers.f k t452).bind fun bt455 => (if bt455.2 = true then (spec_ReadMat.j0 k bt455.1 ((bt455.1.length : Int) != 4)) else (spec_ReadMat.j0 k bt455.1 true)))) = some (r1, r2, r3, r4, r5) := h
 clear h
 obtain ⟨t452, A2, H⟩ := ob H
 try dsimp only at H
 obtain ⟨⟨t455, t456⟩, A3, H⟩ := ob H
 try dsimp only at H
 have HC4 := Aside0.mk H
 clear H
 go_enter Tryz.func21, Tryz.ntmps21
 go_upto_region 2 with (first | ((with_reducible refine gd 2 rfl ?_); (try (refine gate_guard (by rfl) ?_; dsimp only)); refine bx #[.int .i64 0, .int .i64 0, .int .i64 0, .int .i64 0] 25 ?_; intro gb451 hg w5 BK451 hb; have GE451 := ngw0 hg HB; replace HB := bS0 HB hb; clear hb hg) | ((with_reducible refine gate_callee (f := 47) rfl ?_); refine gl 9 Tryz.func47 #[.string a0, .int .u8 44] ?_; (with_reducible refine (spec_l01Split.calls _ _ _ _ _ A2.out).mono ?_); rintro e w6 ⟨v453, rfl, ho0, hb⟩; refine ⟨_, rfl, ?_⟩; have HO454 := asd (Kd.R_lower ho0 (bsz1 HB GE451)); replace BK451 := bB BK451 hb; replace HB := bS1 HB GE451 hb; (try clear hb); (try clear hb2); (try clear hk); (try clear hi); (try clear ho0); obtain ⟨Ao7, co7, eo7⟩ := Kd.R_slice HO454.out; subst eo7) | ((with_reducible refine gate_callee (f := 64) rfl ?_); refine gl 10 Tryz.func64 #[.slice Ao7 t452.length co7] ?_; (with_reducible refine (spec_l01Numbers.calls _ _ _ _ _ _ _ ?side1 ?side2 A3.out).mono ?_); (case side1 => exact ks (Kd.R_reads' HO454.out).2.2); (case side2 => exact (Kd.R_reads' HO454.out).2.1); rintro e w8 ⟨v457, rfl, ho0, hb⟩; refine ⟨_, rfl, ?_⟩; replace HO454 := asd (Kd.R_below (kr HO454) hb); have HO458 := asd (Kd.R_lower ho0 (bsz1 HB GE451)); replace BK451 := bB BK451 hb; replace HB := bS1 HB GE451 hb; (try clear hb); (try clear hb2); (try clear hk); (try clear hi); (try clear ho0)))
 (try simp only [Act.put, sA, sB, sC])
 go_cut [19] (fun v19 wc => ∃ (kq : Nat) (x19_3 : Bool), v19 = .bool x19_3 ∧ Aside0 (spec_ReadMat.j0 kq t455 x19_3 = some (r1, r2, r3, r4, r5)) ∧ Aside0 (kq ≤ k) ∧ Aside0 (Kd.R (Kd.int .i64) 2 wc w.heap.size (fun _ => True) v457 t455) ∧ Aside0 (wc.heap[gb451]? = some (.cells #[.int .i64 0, .int .i64 0, .int .i64 0, .int .i64 0] 25 (0, 0))) ∧ Aside0 (Below w.heap.size w wc))
 case first =>
  have H := HC4.out
  clear HC4
  by_cases c9 : t456 = true
  ·subst c9
   replace H := ifT H
   have H' := Aside0.mk H
   clear H
   obtain ⟨Ao10, co10, eo10⟩ := Kd.R_slice HO458.out
   subst eo10
   go_wp2
   go_meet
   case rel => exact ⟨_, (((t455.length : Int) != 4)), (by first | rfl | (simp; done) | (simp [*]; done)), H', ⟨by first | omega | exact Nat.le_refl _⟩, ⟨by (with_reducible repeat (first | apply Kd.R_alloc | apply Kd.R_drewN | apply Kd.R_drew)); exact HO458.out⟩, ⟨bkp BK451⟩, ⟨bbw1 HB GE451⟩⟩
  ·replace c9 := Bool.eq_false_iff.mpr c9
   subst c9
   replace H := ifF H
   have H' := Aside0.mk H
   clear H
   go_wp2
   go_meet
   case rel => exact ⟨_, (true), (by first | rfl | (simp; done) | (simp [*]; done)), H', ⟨by first | omega | exact Nat.le_refl _⟩, ⟨by (with_reducible repeat (first | apply Kd.R_alloc | apply Kd.R_drewN | apply Kd.R_drew)); exact HO458.out⟩, ⟨bkp BK451⟩, ⟨bbw1 HB GE451⟩⟩
 case rest =>
  clear HC4
  try clear c2
  try clear p2
  try clear c4
  try clear c6
  try clear c9
  obtain ⟨kq, x19_3, rfl, HA, HJ3, HO_4, BK451, HB⟩ := hcut
  cases kq with
  | zero => exact absurd HA.out (by simp [spec_ReadMat.j0])
  | succ kj3 =>
   have H := HA.out
   clear HA
   simp only [spec_ReadMat.j0] at H
   by_cases c11 : x19_3 = true
   subst c11
   replace H := ifT H
   rotate_left
   replace c11 := Bool.eq_false_iff.mpr c11
   subst c11
   replace H := ifF H
   by_cases c13 : 0 < (t455.length : Int)
   rw [if_pos c13] at H
   have c13b0 := decide_eq_true c13
   have c13b1 : decide (0 < t455.length) = true := decide_eq_true (by omega)
   clear c13
   by_cases c14 : 1 < (t455.length : Int)
   rw [if_pos c14] at H
   have c14b0 := decide_eq_true c14
   have c14b1 : decide (1 < t455.length) = true := decide_eq_true (by omega)
   clear c14
   by_cases c15 : 2 < (t455.length : Int)
   rw [if_pos c15] at H
   have c15b0 := decide_eq_true c15
   have c15b1 : decide (2 < t455.length) = true := decide_eq_true (by omega)
   clear c15
   by_cases c16 : 3 < (t455.length : Int)
   rw [if_pos c16] at H
   have c16b0 := decide_eq_true c16
   have c16b1 : decide (3 < t455.length) = true := decide_eq_true (by omega)
   clear c16
   obtain ⟨t464, A17, H⟩ := ob H
   try dsimp only at H
   by_cases c18 : t464 = true
   subst c18
   replace H := ifT H
   rotate_left
   replace c18 := Bool.eq_false_iff.mpr c18
   subst c18
   replace H := ifF H
   rotate_left
   ·rw [if_neg c16] at H
    exact absurd H (by simp)
   ·rw [if_neg c15] at H
    exact absurd H (by simp)
   ·rw [if_neg c14] at H
    exact absurd H (by simp)
   ·rw [if_neg c13] at H
    exact absurd H (by simp)
   all_goals
    simp only [Option.some.injEq, Prod.mk.injEq] at H
    obtain ⟨rfl, rfl, rfl, rfl, rfl⟩ := H
   ·obtain ⟨hcz12_0, hcz12_1, hcz12_2, hcz12_3, hfz12_0, hfz12_1, hfz12_2, hfz12_3⟩ := bz4 BK451
    go_wp2
    refine bodyPost_ret (results_ct rfl _ _ gb451 25 #[.int .i64 0, .int .i64 0, .int .i64 0, .int .i64 0] (0, 0) _ rfl (bq0 BK451) Tryz.underlying25 rfl (by kernel_rfl)) rfl ?_
    exact er (bbw1 HB GE451)
   rotate_left 2
   all_goals
    try go_wp2
    replace HO_4 := asd (Kd.R_drew HO_4.out)
    replace BK451 := asd (blk_drew BK451.out)
    replace HB := asd (below_drew1 HB.out)
    obtain ⟨Ao20, co20, eo20⟩ := Kd.R_slice HO_4.out
    (first | subst eo20 | (injection eo20 with f1_ f2_ f3_; have f4_ := f1_.symm; have f5_ := f3_.symm; clear f1_ f2_ f3_; subst f4_; subst f5_))
    have p459 : 0 ≤ (0 : Int) := (by omega)
    have q459 : 0 < (t455.length : Int) := od
    obtain ⟨ad459, e459, hx459_0⟩ := Kd.at_int (Kd.R_reads' HO_4.out).2.2 0 p459 q459
    cases e459
    have qi459 : (0 < t455.length) = True := eq_true (by omega)
    (try rw [show ((0 : Int)).toNat = 0 from rfl] at hx459_0)
    (try rw [Addr.add_zero'] at hx459_0)
    replace p459 := eq_true p459
    replace q459 := eq_true q459
    have p460 : 0 ≤ (1 : Int) := (by omega)
    have q460 : 1 < (t455.length : Int) := od
    obtain ⟨ad460, e460, hx460_0⟩ := Kd.at_int (Kd.R_reads' HO_4.out).2.2 1 p460 q460
    obtain rfl : ad459 = ad460 := (by injection e460)
    (try simp only [show (1 : Int).toNat = 1 from rfl, Nat.reduceMul, Nat.reduceEqDiff, Go.Addr.add, ↓reduceIte] at hx460_0)
    have qi460 : (1 < t455.length) = True := eq_true (by omega)
    (try rw [show ((1 : Int)).toNat = 1 from rfl] at hx460_0)
    replace p460 := eq_true p460
    replace q460 := eq_true q460
    have p461 : 0 ≤ (2 : Int) := (by omega)
    have q461 : 2 < (t455.length : Int) := od
    obtain ⟨ad461, e461, hx461_0⟩ := Kd.at_int (Kd.R_reads' HO_4.out).2.2 2 p461 q461
    obtain rfl : ad459 = ad461 := (by injection e461)
    (try simp only [show (2 : Int).toNat = 2 from rfl, Nat.reduceMul, Nat.reduceEqDiff, Go.Addr.add, ↓reduceIte] at hx461_0)
    have qi461 : (2 < t455.length) = True := eq_true (by omega)
    (try rw [show ((2 : Int)).toNat = 2 from rfl] at hx461_0)
    replace p461 := eq_true p461
    replace q461 := eq_true q461
    have p462 : 0 ≤ (3 : Int) := (by omega)
    have q462 : 3 < (t455.length : Int) := od
    obtain ⟨ad462, e462, hx462_0⟩ := Kd.at_int (Kd.R_reads' HO_4.out).2.2 3 p462 q462
    obtain rfl : ad459 = ad462 := (by injection e462)
    (try simp only [show (3 : Int).toNat = 3 from rfl, Nat.reduceMul, Nat.reduceEqDiff, Go.Addr.add, ↓reduceIte] at hx462_0)
    have qi462 : (3 < t455.length) = True := eq_true (by omega)
    (try rw [show ((3 : Int)).toNat = 3 from rfl] at hx462_0)
    replace p462 := eq_true p462
    replace q462 := eq_true q462
    refine sh 15 (c1 hx459_0 (c1 hx460_0 (c1 hx461_0 (e1 hx462_0)))) (fun hHeld => ?_); refine with_tabW spec_ReadMat.tab4 spec_ReadMat.bits4 (fun HT_ HW_ => ?_)
    generalize wc.drew = w19 at HO_4 BK451 HB hx459_0 hx460_0 hx461_0 hx462_0 hHeld ⊢
    refine pu 0 (some 21) (bT 15 1) HT_ ?_
    refine pu 1 (some 22) (bT 15 2) HT_ ?_
    refine pu 3 (some 24) (bs 15 11) HT_ ?_
    refine pu 4 (some 25) (bs 15 27) HT_ ?_
    refine pu 6 (some 27) (bs 15 91) HT_ ?_
    refine pu 7 (some 28) (bs 15 219) HT_ ?_
    refine pu 9 (some 30) (bs 15 731) HT_ ?_
    refine pu 10 (some 31) (bs 15 1755) HT_ ?_
    refine ta 2 (some 23) (bs 15 1759) HT_ HW_ hHeld ?_
    refine ta 5 (some 26) (bs 15 1791) HT_ HW_ hHeld ?_
    refine ta 8 (some 29) (bT 15 11) HT_ HW_ hHeld ?_
    refine ta 11 (some 32) (bT 15 12) HT_ HW_ hHeld ?_
    refine pu 12 (some 33) (bT 15 13) HT_ ?_
    refine ro 13 (some 6) (bT 15 14) HT_ (fun K hK => ?_)
    refine box_step ?hg (N := 6) ?hd (cs := #[.int .i64 0, .int .i64 0, .int .i64 0, .int .i64 0]) (t := 25) ?hr ?_; (case hd => rfl); (case hg => rfl); (case hr => first | (go_simp; done) | (go_simp; rfl))
    intro gb463 hg w21 hbox hb
    have HS0_ := hbc hb (hHeld.1)
    have HS1_ := hbc hb (hHeld.2.1)
    have HS2_ := hbc hb (hHeld.2.2.1)
    have HS3_ := hbc hb (hHeld.2.2.2)
    replace HO_4 := asd (Kd.R_below (kr HO_4) hb)
    have BK463 := asd (hbox)
    have GE463 := ngw1 hg HB GE451
    replace HB := bS1 HB GE451 hb
    have NB451_463 := nlt hg BK451
    have NB463_451 := nsy (nlt hg BK451)
    replace BK451 := bB BK451 hb
    clear hb hbox hg
    refine hK.out _ _ ⟨HS0_, HS1_, HS2_, HS3_⟩ (fun hHeld => ?_)
    clear hK K
    refine norm_ (a' := ?_) ?_ ?_
    rotate_left
    ·show Act.put _ (some 6) _ = _
     simp only [Act.put, sA, sB, sC, i64_w, i32_w]
     rfl
    refine ro 14 (none) (bT 15 15) HT_ (fun K hK => ?_)
    have hs22 : w21.cell? ⟨gb463, 0, none⟩ = some (.int .i64 0) := bcl BK463 0
    have hfs22 := blk_frozen BK463.out 0
    have hns22_0 := NB451_463.out
    have hms22_0 := NB463_451.out
    have hs23 : w21.cell? ⟨gb463, 1, none⟩ = some (.int .i64 0) := bcl BK463 1
    have hfs23 := blk_frozen BK463.out 1
    have hns23_0 := NB451_463.out
    have hms23_0 := NB463_451.out
    have hs24 : w21.cell? ⟨gb463, 2, none⟩ = some (.int .i64 0) := bcl BK463 2
    have hfs24 := blk_frozen BK463.out 2
    have hns24_0 := NB451_463.out
    have hms24_0 := NB463_451.out
    have hs25 : w21.cell? ⟨gb463, 3, none⟩ = some (.int .i64 0) := bcl BK463 3
    have hfs25 := blk_frozen BK463.out 3
    have hns25_0 := NB451_463.out
    have hms25_0 := NB463_451.out
    refine skip_ (w1 := ?_) (by rfl) rfl ?_ ?_
    rotate_left
    ·go_simp
     rfl
    refine hK.out _ _ ⟨(fx4 (Kd.own_blk (Kd.R_ne HO_4.out BK463.out (by decide))) (hHeld.1)), (fx4 (Kd.own_blk (Kd.R_ne HO_4.out BK463.out (by decide))) (hHeld.2.1)), (fx4 (Kd.own_blk (Kd.R_ne HO_4.out BK463.out (by decide))) (hHeld.2.2.1)), (fx4 (Kd.own_blk (Kd.R_ne HO_4.out BK463.out (by decide))) (hHeld.2.2.2))⟩ (fun hHeld => ?_)
    clear hK K
    refine done_ (done_of HT_.out (by kernel_rfl)) ?_
    have hnb26 := NB463_451.out
    have hnc26 := NB451_463.out
    obtain ⟨hcz27_0, hcz27_1, hcz27_2, hcz27_3, hfz27_0, hfz27_1, hfz27_2, hfz27_3⟩ := bz4 BK463
   ·try go_wp2_with (first | ((with_reducible refine gate_callee (f := 58) rfl ?_); refine gl 35 Tryz.func58 #[.agg #[.int .i64 (rd t455 0), .int .i64 (rd t455 1), .int .i64 (rd t455 2), .int .i64 (rd t455 3)]] ?_; (with_reducible refine (spec_IsMat.calls _ _ _ _ _ _ A17.out).mono ?_); rintro e w28 ⟨rfl, hb⟩; refine ⟨_, rfl, ?_⟩; replace HO_4 := asd (Kd.R_below (by (with_reducible repeat (first | apply Kd.R_alloc | apply Kd.R_drewN | apply Kd.R_drew)); exact (Kd.R_mono (rw4 (Kd.R_types HO_4.out BK463.out (by decide))) (fun _ h_ => h_.1))) hb); replace BK451 := asd (blk_below (g := gb451) (o := .cells #[.int .i64 0, .int .i64 0, .int .i64 0, .int .i64 0] 25 (0, 0)) (bq1 BK451 NB451_463) hb); replace BK463 := asd (blk_below (g := gb463) (o := .cells #[.int .i64 (rd t455 0), .int .i64 (rd t455 1), .int .i64 (rd t455 2), .int .i64 (rd t455 3)] 25 (0, 0)) (bq0 BK463) hb); replace HB := bS2 HB GE451 GE463 hb; (try clear hb); obtain ⟨hcz29_0, hcz29_1, hcz29_2, hcz29_3, hfz29_0, hfz29_1, hfz29_2, hfz29_3⟩ := bz4 BK463; obtain ⟨hcz30_0, hcz30_1, hcz30_2, hcz30_3, hfz30_0, hfz30_1, hfz30_2, hfz30_3⟩ := bz4 BK451))
    refine bodyPost_ret (results_ct rfl _ _ gb451 25 #[.int .i64 (rd t455 0), .int .i64 (rd t455 1), .int .i64 (rd t455 2), .int .i64 (rd t455 3)] (0, 0) _ rfl (bq0 BK451) Tryz.underlying25 rfl (by kernel_rfl)) rfl ?_
    exact er (bbw2 HB GE451 GE463)
   ·try go_wp2_with (first | ((with_reducible refine gate_callee (f := 58) rfl ?_); refine gl 35 Tryz.func58 #[.agg #[.int .i64 (rd t455 0), .int .i64 (rd t455 1), .int .i64 (rd t455 2), .int .i64 (rd t455 3)]] ?_; (with_reducible refine (spec_IsMat.calls _ _ _ _ _ _ A17.out).mono ?_); rintro e w40 ⟨rfl, hb⟩; refine ⟨_, rfl, ?_⟩; replace HO_4 := asd (Kd.R_below (by (with_reducible repeat (first | apply Kd.R_alloc | apply Kd.R_drewN | apply Kd.R_drew)); exact (Kd.R_mono (rw4 (Kd.R_types HO_4.out BK463.out (by decide))) (fun _ h_ => h_.1))) hb); replace BK451 := asd (blk_below (g := gb451) (o := .cells #[.int .i64 0, .int .i64 0, .int .i64 0, .int .i64 0] 25 (0, 0)) (bq1 BK451 NB451_463) hb); replace BK463 := asd (blk_below (g := gb463) (o := .cells #[.int .i64 (rd t455 0), .int .i64 (rd t455 1), .int .i64 (rd t455 2), .int .i64 (rd t455 3)] 25 (0, 0)) (bq0 BK463) hb); replace HB := bS2 HB GE451 GE463 hb; (try clear hb); obtain ⟨hcz41_0, hcz41_1, hcz41_2, hcz41_3, hfz41_0, hfz41_1, hfz41_2, hfz41_3⟩ := bz4 BK451))
    refine bodyPost_ret (results_ct rfl _ _ gb451 25 #[.int .i64 0, .int .i64 0, .int .i64 0, .int .i64 0] (0, 0) _ rfl (bq0 BK451) Tryz.underlying25 rfl (by kernel_rfl)) rfl ?_
    exact er (bbw2 HB GE451 GE463)
/-! ### impl_Mat_apply: function 67 -/
def impl_Mat_apply.f (a0_0 : Int) (a0_1 : Int) (a0_2 : Int) (a0_3 : Int) (a1_0 : Int) (a1_1 : Int) : Option (Int × Int) := some (wrap64 ((wrap64 (a0_0 * a1_0)) + (wrap64 (a0_1 * a1_1))), wrap64 ((wrap64 (a0_2 * a1_0)) + (wrap64 (a0_3 * a1_1))))
set_option maxHeartbeats 8000000 in
set_option maxRecDepth 100000 in
theorem impl_Mat_apply.calls (a0_0 : Int) (a0_1 : Int) (a0_2 : Int) (a0_3 : Int) (a1_0 : Int) (a1_1 : Int) (r1 : Int) (r2 : Int) (w : World) (h : impl_Mat_apply.f a0_0 a0_1 a0_2 a0_3 a1_0 a1_1 = some (r1, r2)) :
  Calls Tryz.prog 67 #[.agg #[.int .i64 a0_0, .int .i64 a0_1, .int .i64 a0_2, .int .i64 a0_3], .agg #[.int .i64 a1_0, .int .i64 a1_1]] w fun e w' => e = .returned (.agg #[.int .i64 r1, .int .i64 r2]) ∧ Below w.heap.size w w' := by
 have hu25 := Tryz.underlying25
 have hu27 := Tryz.underlying27
 have HB := asd (Below.refl w.heap.size w)
 have H : (some (wrap64 ((wrap64 (a0_0 * a1_0)) + (wrap64 (a0_1 * a1_1))), wrap64 ((wrap64 (a0_2 * a1_0)) + (wrap64 (a0_3 * a1_1))))) = some (r1, r2) := h
 clear h
 simp only [Option.some.injEq, Prod.mk.injEq] at H
 obtain ⟨rfl, rfl⟩ := H
 go_enter Tryz.func67, Tryz.ntmps67
 go_wp2_with (first | ((with_reducible refine gd 2 rfl ?_); refine bx #[.int .i64 a0_0, .int .i64 a0_1, .int .i64 a0_2, .int .i64 a0_3] 25 ?_; intro gb465 hg w3 BK465 hb; have GE465 := ngw0 hg HB; replace HB := bS0 HB hb; clear hb hg) | ((with_reducible refine gd 3 rfl ?_); refine bx #[.int .i64 a1_0, .int .i64 a1_1] 27 ?_; intro gb466 hg w4 BK466 hb; have GE466 := ngw1 hg HB GE465; replace HB := bS1 HB GE465 hb; have NB465_466 := nlt hg BK465; have NB466_465 := nsy (nlt hg BK465); replace BK465 := bB BK465 hb; clear hb hg) | ((with_reducible refine gd 4 rfl ?_); refine bx #[.int .i64 0, .int .i64 0] 27 ?_; intro gb467 hg w5 BK467 hb; have GE467 := ngw2 hg HB GE465 GE466; replace HB := bS2 HB GE465 GE466 hb; have NB465_467 := nlt hg BK465; have NB467_465 := nsy (nlt hg BK465); replace BK465 := bB BK465 hb; have NB466_467 := nlt hg BK466; have NB467_466 := nsy (nlt hg BK466); replace BK466 := bB BK466 hb; clear hb hg; have hnb6 := NB465_466.out; have hnc6 := NB466_465.out; have hnb7 := NB465_467.out; have hnc7 := NB467_465.out; obtain ⟨hcz8_0, hcz8_1, hcz8_2, hcz8_3, hfz8_0, hfz8_1, hfz8_2, hfz8_3⟩ := bz4 BK465; have hnb9 := NB466_467.out; have hnc9 := NB467_466.out; obtain ⟨hcz10_0, hcz10_1, hfz10_0, hfz10_1⟩ := bz2 BK466; obtain ⟨hcz11_0, hcz11_1, hfz11_0, hfz11_1⟩ := bz2 BK467))
 refine bodyPost_ret (results_cell_row rfl _ _ gb467 27 #[.int .i64 (wrap64 ((wrap64 (a0_0 * a1_0)) + (wrap64 (a0_1 * a1_1)))), .int .i64 (wrap64 ((wrap64 (a0_2 * a1_0)) + (wrap64 (a0_3 * a1_1))))] (0, 0) _ rfl (bq0 BK467) Tryz.underlying27 rfl (by kernel_rfl)) rfl ?_
 exact er (bbw3 HB GE465 GE466 GE467)

end Go.Proofs.YtnblfcibgokccaaGreatDoor.PA
