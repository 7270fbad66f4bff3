/- Walks written by program: each Go function that the law reaches comes to the plain function beside it. -/
import Derived.Test.YtnblfcibgokccaaDoorPGx0
import Derived.Test.YtnblfcibgokccaaDoorPGx1
import Derived.Test.YtnblfcibgokccaaDoorPGx2
import Derived.Test.YtnblfcibgokccaaDoorPGx3
namespace Go.Proofs.YtnblfcibgokccaaDoor.PG
open Go.RowKit Go.Proofs.YtnblfcibgokccaaDoorW.PrintWords Go.Proofs.YtnblfcibgokccaaDoorW.PrintLast Go.Proofs.YtnblfcibgokccaaDoorW.PrintMore
attribute [local go_sem] max2_int min2_int max_two min_two max_three min_three max_four min_four   -- for this text's walks alone
set_option linter.unusedVariables false
set_option linter.unusedSimpArgs false

/-! ### spec_FillFrieze: function 38 -/
mutual
def spec_FillFrieze.j0 : Nat → List (S84) → Int → Int → List Int → Option (Int × Int × List Int × Int)
 | 0, _, _, _, _ => none
 | k + 1, x6, x165000, x165001, x165002 => spec_FillFrieze.l0 k x6 (([] : List Int)) 0 x165000 x165001 x165002
def spec_FillFrieze.l0 : Nat → List (S84) → List Int → Int → Int → Int → List Int → Option (Int × Int × List Int × Int)
 | 0, _, _, _, _, _, _ => none
 | k + 1, x6, x8, x9, x165000, x165001, x165002 => if x9 < (x165002.length : Int) then (if x8.length < 17592186044416 then (spec_FillFrieze.l0 k x6 (x8 ++ [x9]) (wrap64 (x9 + 1)) x165000 x165001 x165002) else (none)) else (spec_FillFrieze.l1 k x6 x8 true x165000 x165001 x165002)
def spec_FillFrieze.l1 : Nat → List (S84) → List Int → Bool → Int → Int → List Int → Option (Int × Int × List Int × Int)
 | 0, _, _, _, _, _, _ => none
 | k + 1, x6, x8, x10, x165000, x165001, x165002 => if x10 = true then (spec_FillFrieze.l2 k x6 x8 false 0 x165000 x165001 x165002) else (spec_FillFrieze.l4 k x8 0 x165000 x165001 x165002 x165000 x165001 (([] : List Int)))
def spec_FillFrieze.l2 : Nat → List (S84) → List Int → Bool → Int → Int → Int → List Int → Option (Int × Int × List Int × Int)
 | 0, _, _, _, _, _, _, _ => none
 | k + 1, x6, x8, x10, x11, x165000, x165001, x165002 => if x11 < (x8.length : Int) then (spec_FillFrieze.l3 k x6 x8 x10 x11 0 x165000 x165001 x165002) else (spec_FillFrieze.l1 k x6 x8 x10 x165000 x165001 x165002)
def spec_FillFrieze.l3 : Nat → List (S84) → List Int → Bool → Int → Int → Int → Int → List Int → Option (Int × Int × List Int × Int)
 | 0, _, _, _, _, _, _, _, _ => none
 | k + 1, x6, x8, x10, x11, x12, x165000, x165001, x165002 => if x12 < (x6.length : Int) then (if 0 ≤ x12 then (if x165001 = 0 then (none) else ((spec_l08Image.f x165000 x165001 x165002 ((rd_T84 x6 x12).f0) ((rd_T84 x6 x12).f1) ((rd_T84 x6 x12).f2) (Int.tmod x11 x165001) (wrap64 (Int.tdiv x11 x165001))).bind fun bt178 => ((spec_l01Mod.f bt178.1 x165001).bind fun t180 => (if 0 ≤ (wrap64 ((wrap64 (bt178.2 * x165001)) + t180)) then (if (wrap64 ((wrap64 (bt178.2 * x165001)) + t180)) < (x8.length : Int) then (if 0 ≤ x11 then (if x11 < (x8.length : Int) then (if x10 = true then (spec_FillFrieze.l3 k x6 ((x8.set ((wrap64 ((wrap64 (bt178.2 * x165001)) + t180)) : Int).toNat (mn (rd x8 (wrap64 ((wrap64 (bt178.2 * x165001)) + t180))) (rd x8 x11))).set (x11 : Int).toNat (mn (rd x8 (wrap64 ((wrap64 (bt178.2 * x165001)) + t180))) (rd x8 x11))) true x11 (wrap64 (x12 + 1)) x165000 x165001 x165002) else (spec_FillFrieze.l3 k x6 ((x8.set ((wrap64 ((wrap64 (bt178.2 * x165001)) + t180)) : Int).toNat (mn (rd x8 (wrap64 ((wrap64 (bt178.2 * x165001)) + t180))) (rd x8 x11))).set (x11 : Int).toNat (mn (rd x8 (wrap64 ((wrap64 (bt178.2 * x165001)) + t180))) (rd x8 x11))) ((rd x8 (wrap64 ((wrap64 (bt178.2 * x165001)) + t180))) != (rd x8 x11)) x11 (wrap64 (x12 + 1)) x165000 x165001 x165002)) else (none)) else (none)) else (none)) else (none))))) else (none)) else (spec_FillFrieze.l2 k x6 x8 x10 (wrap64 (x11 + 1)) x165000 x165001 x165002)
def spec_FillFrieze.l4 : Nat → List Int → Int → Int → Int → List Int → Int → Int → List Int → Option (Int × Int × List Int × Int)
 | 0, _, _, _, _, _, _, _, _ => none
 | k + 1, x8, x18, x165000, x165001, x165002, x193000, x193001, x193002 => if x18 < (x8.length : Int) then (if 0 ≤ x18 then (if 0 ≤ (rd x8 x18) then (if (rd x8 x18) < (x165002.length : Int) then (if x193002.length < 17592186044416 then (spec_FillFrieze.l4 k x8 (wrap64 (x18 + 1)) x165000 x165001 x165002 x193000 x193001 (x193002 ++ [rd x165002 (rd x8 x18)])) else (none)) else (none)) else (none)) else (none)) else (some (x193000, x193001, x193002, 0))
end
def spec_FillFrieze.f (k : Nat) (a0_0 : Int) (a0_1 : Int) (l0_2 : List Int) (a1 : ByteArray) : Option (Int × Int × List Int × Int) := (spec_l08Motions.f a1 a0_1).bind fun bt166 => ((spec_IsFrieze.f k a0_0 a0_1 l0_2).bind fun t170 => (if t170 = true then (if bt166.2 = true then (if a1.toList = ([112, 49, 49, 103] : List UInt8) then (if (Int.tmod a0_1 2) = 1 then (some (0, 0, ([] : List Int), 5)) else (spec_FillFrieze.j0 k bt166.1 a0_0 a0_1 l0_2)) else (if a1.toList = ([112, 50, 109, 103] : List UInt8) then (if (Int.tmod a0_1 2) = 1 then (some (0, 0, ([] : List Int), 5)) else (spec_FillFrieze.j0 k bt166.1 a0_0 a0_1 l0_2)) else (spec_FillFrieze.j0 k bt166.1 a0_0 a0_1 l0_2))) else (some (0, 0, ([] : List Int), 2))) else (some (0, 0, ([] : List Int), 1))))
def spec_FillFrieze.T22 : Bool × List (List Nat × List Nat) := (true, [([], []), ([], []), ([], []), ([1, 2], [1, 2]), ([3], [3]), ([], []), ([], []), ([6], [6]), ([5, 7], [5, 7]), ([], []), ([], []), ([10], [10]), ([9, 11], [9, 11]), ([0, 4, 8, 12], [0, 4, 8, 12]), ([13], [13]), ([14], [14]), ([14], [14]), ([15, 13, 0, 1, 2, 3, 4, 5, 6, 7, 8, 9, 10, 11, 12, 13, 14, 15], [15]), ([16, 17, 0, 1, 2, 3, 4, 5, 6, 7, 8, 9, 10, 11, 12, 13, 14, 15, 16, 17], [16])])
def spec_FillFrieze.B22 : List Nat := [0, 0, 0, 6, 14, 0, 0, 64, 224, 0, 0, 1024, 3584, 8191, 16383, 32767, 32767, 65535, 262143]
theorem spec_FillFrieze.tab22 : rtab .any (opsOf Tryd.f38 22) = spec_FillFrieze.T22 := by kernel_rfl
theorem spec_FillFrieze.bits22 : waitsOk spec_FillFrieze.T22.2 spec_FillFrieze.B22 = true := by kernel_rfl
def spec_FillFrieze.T23 : Bool × List (List Nat × List Nat) := (true, [([], []), ([], []), ([1], [1]), ([0, 2], [0, 2]), ([], []), ([], []), ([5], [5]), ([4, 6], [4, 6]), ([3, 7], [3, 7]), ([8, 7, 0, 1, 2, 3, 4, 5, 6, 7, 8], [8])])
def spec_FillFrieze.B23 : List Nat := [0, 0, 2, 7, 0, 0, 32, 112, 255, 511]
theorem spec_FillFrieze.tab23 : rtab .any (opsOf Tryd.f38 23) = spec_FillFrieze.T23 := by kernel_rfl
theorem spec_FillFrieze.bits23 : waitsOk spec_FillFrieze.T23.2 spec_FillFrieze.B23 = true := by kernel_rfl
def spec_FillFrieze.T24 : Bool × List (List Nat × List Nat) := (true, [([], []), ([], []), ([0, 1], [0, 1]), ([2], [2]), ([], []), ([], []), ([4, 5], [4, 5]), ([6], [6]), ([3, 7], [3, 7]), ([8, 0, 1, 2, 3, 4, 5, 6, 7, 8], [8])])
def spec_FillFrieze.B24 : List Nat := [0, 0, 3, 7, 0, 0, 48, 112, 255, 511]
theorem spec_FillFrieze.tab24 : rtab .any (opsOf Tryd.f38 24) = spec_FillFrieze.T24 := by kernel_rfl
theorem spec_FillFrieze.bits24 : waitsOk spec_FillFrieze.T24.2 spec_FillFrieze.B24 = true := by kernel_rfl
def spec_FillFrieze.T25 : Bool × List (List Nat × List Nat) := (true, [([], []), ([0], [0]), ([1], [1]), ([1], [1]), ([2, 3, 1], [1, 2, 3]), ([4, 1], [1, 4]), ([1], [1]), ([1], [1]), ([6, 7, 1], [1, 6, 7]), ([8, 1], [1, 8]), ([5, 9, 1], [1, 5, 9]), ([1, 10], [1, 10]), ([11, 1, 0, 1, 2, 3, 4, 5, 6, 7, 8, 9, 10, 11], [0, 11])])
def spec_FillFrieze.B25 : List Nat := [0, 1, 3, 3, 15, 31, 3, 3, 195, 451, 1023, 2047, 4095]
theorem spec_FillFrieze.tab25 : rtab .any (opsOf Tryd.f38 25) = spec_FillFrieze.T25 := by kernel_rfl
theorem spec_FillFrieze.bits25 : waitsOk spec_FillFrieze.T25.2 spec_FillFrieze.B25 = true := by kernel_rfl
def spec_FillFrieze.T32 : Bool × List (List Nat × List Nat) := (true, [([], []), ([0], [0]), ([], []), ([2], [2]), ([], []), ([], []), ([4, 5], [4, 5]), ([6], [6]), ([3, 7], [3, 7]), ([8], [8]), ([9], [9]), ([1, 10], [1, 10]), ([0, 1, 2, 3, 4, 5, 6, 7, 8, 9, 10, 11], []), ([12, 11, 11, 0, 1, 2, 3, 4, 5, 6, 7, 8, 9, 10, 11], [11, 12])])
def spec_FillFrieze.B32 : List Nat := [0, 1, 0, 4, 0, 0, 48, 112, 252, 508, 1020, 2047, 4095, 8191]
theorem spec_FillFrieze.tab32 : rtab .any (opsOf Tryd.f38 32) = spec_FillFrieze.T32 := by kernel_rfl
theorem spec_FillFrieze.bits32 : waitsOk spec_FillFrieze.T32.2 spec_FillFrieze.B32 = true := by kernel_rfl
set_option maxHeartbeats 8000000 in
set_option maxRecDepth 100000 in
theorem spec_FillFrieze.calls (k : Nat) (a0_0 : Int) (a0_1 : Int) (A0_2 : Option Addr) (c0_2 : Nat) (l0_2 : List Int) (a1 : ByteArray) (r1 : Int) (r2 : Int) (r3 : List Int) (r4 : Int) (w : World) (hr0_2 : Kd.C (Kd.int .i64) w A0_2 l0_2.length l0_2) (hc0_2 : l0_2.length ≤ c0_2) (h : spec_FillFrieze.f k a0_0 a0_1 l0_2 a1 = some (r1, r2, r3, r4)) :
  Calls Tryd.prog 38 #[.agg #[.int .i64 a0_0, .int .i64 a0_1, .slice A0_2 l0_2.length c0_2], .string a1] w fun e w' => ∃ v2_ : Value, e = .returned (.tuple #[.agg #[.int .i64 r1, .int .i64 r2, v2_], .int .i64 r4]) ∧ Kd.R (Kd.int .i64) 2 w' w.heap.size (fun _ => True) v2_ r3 ∧ Below w.heap.size w w' := by
 have hu28 := Tryd.underlying28
 have hu84 := Tryd.underlying84
 have HR0_2 := Aside0.mk hr0_2
 have HC0_2 := Aside0.mk hc0_2
 clear hr0_2 hc0_2
 have HB := asd (Below.refl w.heap.size w)
 have H : ((spec_l08Motions.f a1 a0_1).bind fun bt166 => ((spec_IsFrieze.f k a0_0 a0_1 l0_2).bind fun t170 => (if t170 = true then (if bt166.2 = true then (if a1.toList = ([112, 49, 49, 103] : List UInt8) then (if (Int.tmod a0_1 2) = 1 then (some (0, 0, ([] : List Int), 5)) else (spec_FillFrieze.j0 k bt166.1 a0_0 a0_1 l0_2)) else (if a1.toList = ([112, 50, 109, 103] : List UInt8) then (if (Int.tmod a0_1 2) = 1 then (some (0, 0, ([] : List Int), 5)) else (spec_FillFrieze.j0 k bt166.1 a0_0 a0_1 l0_2)) else (spec_FillFrieze.j0 k bt166.1 a0_0 a0_1 l0_2))) else (some (0, 0, ([] : List Int), 2))) else (some (0, 0, ([] : List Int), 1))))) = some (r1, r2, r3, r4) := h
 clear h
 obtain ⟨⟨t166, t167⟩, A3, H⟩ := ob H
 try dsimp only at H
 have HC4 := Aside0.mk H
 clear H
 go_enter Tryd.func38, Tryd.ntmps38
 go_upto_block 0 with (first | ((with_reducible refine gd 2 rfl ?_); refine bx #[.int .i64 a0_0, .int .i64 a0_1, .slice A0_2 l0_2.length c0_2] 28 ?_; intro gb164 hg w5 BK164 hb; have GE164 := ngw0 hg HB; replace HB := bS0 HB hb; clear hb hg) | ((with_reducible refine gd 4 rfl ?_); refine bx #[.int .i64 0, .int .i64 0, .slice none 0 0] 28 ?_; intro gb165 hg w6 BK165 hb; have GE165 := ngw1 hg HB GE164; replace HB := bS1 HB GE164 hb; have NB164_165 := nlt hg BK164; have NB165_164 := nsy (nlt hg BK164); replace BK164 := bB BK164 hb; clear hb hg; have hnb7 := NB164_165.out; have hnc7 := NB165_164.out; obtain ⟨hcz8_0, hcz8_1, hcz8_2, hfz8_0, hfz8_1, hfz8_2⟩ := bz3 BK164) | ((with_reducible refine gate_callee (f := 49) rfl ?_); refine gl 23 Tryd.func49 #[.string a1, .int .i64 a0_1] ?_; (with_reducible refine (spec_l08Motions.calls _ _ _ _ _ A3.out).mono ?_); rintro e w9 ⟨v168, rfl, ho0, hb⟩; refine ⟨_, rfl, ?_⟩; have HO169 := asd (Kd.R_lower ho0 (bsz2 HB GE164 GE165)); replace BK164 := bB BK164 hb; replace BK165 := bB BK165 hb; replace HB := bS2 HB GE164 GE165 hb; (try clear hb); (try clear hb2); (try clear hk); (try clear hi); (try clear ho0)))
 (try simp only [Act.put, sA, sB, sC])
 go_cut [] (fun wc => ∃ (kq : Nat) (x166000_3 : Int) (x166001_3 : Int), Aside0 (spec_FillFrieze.j0 kq t166 a0_0 a0_1 l0_2 = some (r1, r2, r3, r4)) ∧ Aside0 (kq ≤ k) ∧ Aside0 (Kd.R k84 84 wc w.heap.size (fun _ => True) v168 t166) ∧ Aside0 (wc.heap[gb164]? = some (.cells #[.int .i64 a0_0, .int .i64 a0_1, (.slice A0_2 l0_2.length c0_2)] 28 (0, 0))) ∧ Aside0 (wc.heap[gb165]? = some (.cells #[.int .i64 x166000_3, .int .i64 x166001_3, (.slice none 0 0)] 28 (0, 0))) ∧ Aside0 (Below w.heap.size w wc))
 case first =>
  have H := HC4.out
  clear HC4
  obtain ⟨t170, A10, H⟩ := ob H
  try dsimp only at H
  by_cases c11 : t170 = true
  ·subst c11
   replace H := ifT H
   by_cases c12 : t167 = true
   ·subst c12
    replace H := ifT H
    by_cases c13 : a1.toList = ([112, 49, 49, 103] : List UInt8)
    ·rw [if_pos c13] at H
     have c13b0 : (a1.toList == ([112, 49, 49, 103] : List UInt8)) = true := beq_iff_eq.mpr c13
     have c13b1 : (a1.toList != ([112, 49, 49, 103] : List UInt8)) = false := bne_eq_false_iff_eq.mpr c13
     clear c13
     (first | rw [c13b0] | (simp only [i64_w, i32_w]; rw [c13b0]) | skip)
     by_cases c14 : (Int.tmod a0_1 2) = 1
     ·rw [if_pos c14] at H
      have c14b0 : ((Int.tmod a0_1 2) == 1) = true := beq_iff_eq.mpr c14
      have c14b1 : ((Int.tmod a0_1 2) != 1) = false := bne_eq_false_iff_eq.mpr c14
      clear c14
      simp only [Option.some.injEq, Prod.mk.injEq] at H
      obtain ⟨rfl, rfl, rfl, rfl⟩ := H
      have hnb15 := NB164_165.out
      have hnc15 := NB165_164.out
      obtain ⟨hcz16_0, hcz16_1, hcz16_2, hfz16_0, hfz16_1, hfz16_2⟩ := bz3 BK164
      go_wp2_with (first | ((with_reducible refine gate_callee (f := 17) rfl ?_); refine gl 28 Tryd.func17 #[.agg #[.int .i64 a0_0, .int .i64 a0_1, .slice A0_2 l0_2.length c0_2]] ?_; (with_reducible refine (spec_IsFrieze.calls _ _ _ _ _ _ _ _ ?side1 ?side2 A10.out).mono ?_); (case side1 => exact ks (Kd.C_below HR0_2.out HB.out)); (case side2 => exact HC0_2.out); rintro e w17 ⟨rfl, hb⟩; refine ⟨_, rfl, ?_⟩; replace HO169 := asd (Kd.R_below (kr HO169) hb); replace BK164 := bB BK164 hb; replace BK165 := bB BK165 hb; replace HB := bS2 HB GE164 GE165 hb; (try clear hb); obtain ⟨hcz18_0, hcz18_1, hcz18_2, hfz18_0, hfz18_1, hfz18_2⟩ := bz3 BK164; obtain ⟨hcz19_0, hcz19_1, hcz19_2, hfz19_0, hfz19_1, hfz19_2⟩ := bz3 BK165))
      refine bodyPost_ret (results_ct rfl _ _ gb165 28 #[.int .i64 0, .int .i64 0, .slice none 0 0] (0, 0) _ rfl (bq0 BK165) Tryd.underlying28 rfl (by kernel_rfl)) rfl ?_
      exact ⟨_, by first | rfl | (simp [errW_none, errW_some] <;> rfl) | (simp [*, errW_none, errW_some] <;> rfl), by first | exact Kd.R_nil _ _ _ _ _ | exact Kd.N_nil _ _ _ _ _ | exact Kd.V_nil _ _ _ _ _ | exact Kd.Q_nil _ _ _ _ _ | exact Kd.S_nil _ _ _ _ _, bbw2 HB GE164 GE165⟩
     ·rw [if_neg c14] at H
      have c14b0 : ((Int.tmod a0_1 2) == 1) = false := beq_eq_false_iff_ne.mpr c14
      have c14b1 : ((Int.tmod a0_1 2) != 1) = true := bne_iff_ne.mpr c14
      have H' := Aside0.mk H
      clear H
      have hnb20 := NB164_165.out
      have hnc20 := NB165_164.out
      obtain ⟨hcz21_0, hcz21_1, hcz21_2, hfz21_0, hfz21_1, hfz21_2⟩ := bz3 BK164
      go_wp2_with (first | ((with_reducible refine gate_callee (f := 17) rfl ?_); refine gl 28 Tryd.func17 #[.agg #[.int .i64 a0_0, .int .i64 a0_1, .slice A0_2 l0_2.length c0_2]] ?_; (with_reducible refine (spec_IsFrieze.calls _ _ _ _ _ _ _ _ ?side1 ?side2 A10.out).mono ?_); (case side1 => exact ks (Kd.C_below HR0_2.out HB.out)); (case side2 => exact HC0_2.out); rintro e w22 ⟨rfl, hb⟩; refine ⟨_, rfl, ?_⟩; replace HO169 := asd (Kd.R_below (kr HO169) hb); replace BK164 := bB BK164 hb; replace BK165 := bB BK165 hb; replace HB := bS2 HB GE164 GE165 hb; (try clear hb); obtain ⟨hcz23_0, hcz23_1, hcz23_2, hfz23_0, hfz23_1, hfz23_2⟩ := bz3 BK164))
      go_meet
      case rel => exact ⟨_, (0), (0), H', ⟨by first | omega | exact Nat.le_refl _⟩, ⟨by (with_reducible repeat (first | apply Kd.R_alloc | apply Kd.R_drewN | apply Kd.R_drew)); exact HO169.out⟩, ⟨bkp BK164⟩, ⟨bkp BK165⟩, ⟨bbw2 HB GE164 GE165⟩⟩
    ·rw [if_neg c13] at H
     have c13b0 : (a1.toList == ([112, 49, 49, 103] : List UInt8)) = false := beq_eq_false_iff_ne.mpr c13
     have c13b1 : (a1.toList != ([112, 49, 49, 103] : List UInt8)) = true := bne_iff_ne.mpr c13
     (first | rw [c13b0] | (simp only [i64_w, i32_w]; rw [c13b0]) | skip)
     by_cases c24 : a1.toList = ([112, 50, 109, 103] : List UInt8)
     ·rw [if_pos c24] at H
      have c24b0 : (a1.toList == ([112, 50, 109, 103] : List UInt8)) = true := beq_iff_eq.mpr c24
      have c24b1 : (a1.toList != ([112, 50, 109, 103] : List UInt8)) = false := bne_eq_false_iff_eq.mpr c24
      clear c24
      by_cases c25 : (Int.tmod a0_1 2) = 1
      ·rw [if_pos c25] at H
       have c25b0 : ((Int.tmod a0_1 2) == 1) = true := beq_iff_eq.mpr c25
       have c25b1 : ((Int.tmod a0_1 2) != 1) = false := bne_eq_false_iff_eq.mpr c25
       clear c25
       simp only [Option.some.injEq, Prod.mk.injEq] at H
       obtain ⟨rfl, rfl, rfl, rfl⟩ := H
       have hnb26 := NB164_165.out
       have hnc26 := NB165_164.out
       obtain ⟨hcz27_0, hcz27_1, hcz27_2, hfz27_0, hfz27_1, hfz27_2⟩ := bz3 BK164
       go_wp2_with (first | ((with_reducible refine gate_callee (f := 17) rfl ?_); refine gl 28 Tryd.func17 #[.agg #[.int .i64 a0_0, .int .i64 a0_1, .slice A0_2 l0_2.length c0_2]] ?_; (with_reducible refine (spec_IsFrieze.calls _ _ _ _ _ _ _ _ ?side1 ?side2 A10.out).mono ?_); (case side1 => exact ks (Kd.C_below HR0_2.out HB.out)); (case side2 => exact HC0_2.out); rintro e w28 ⟨rfl, hb⟩; refine ⟨_, rfl, ?_⟩; replace HO169 := asd (Kd.R_below (kr HO169) hb); replace BK164 := bB BK164 hb; replace BK165 := bB BK165 hb; replace HB := bS2 HB GE164 GE165 hb; (try clear hb); obtain ⟨hcz29_0, hcz29_1, hcz29_2, hfz29_0, hfz29_1, hfz29_2⟩ := bz3 BK164; obtain ⟨hcz30_0, hcz30_1, hcz30_2, hfz30_0, hfz30_1, hfz30_2⟩ := bz3 BK165))
       refine bodyPost_ret (results_ct rfl _ _ gb165 28 #[.int .i64 0, .int .i64 0, .slice none 0 0] (0, 0) _ rfl (bq0 BK165) Tryd.underlying28 rfl (by kernel_rfl)) rfl ?_
       exact ⟨_, by first | rfl | (simp [errW_none, errW_some] <;> rfl) | (simp [*, errW_none, errW_some] <;> rfl), by first | exact Kd.R_nil _ _ _ _ _ | exact Kd.N_nil _ _ _ _ _ | exact Kd.V_nil _ _ _ _ _ | exact Kd.Q_nil _ _ _ _ _ | exact Kd.S_nil _ _ _ _ _, bbw2 HB GE164 GE165⟩
      ·rw [if_neg c25] at H
       have c25b0 : ((Int.tmod a0_1 2) == 1) = false := beq_eq_false_iff_ne.mpr c25
       have c25b1 : ((Int.tmod a0_1 2) != 1) = true := bne_iff_ne.mpr c25
       have H' := Aside0.mk H
       clear H
       have hnb31 := NB164_165.out
       have hnc31 := NB165_164.out
       obtain ⟨hcz32_0, hcz32_1, hcz32_2, hfz32_0, hfz32_1, hfz32_2⟩ := bz3 BK164
       go_wp2_with (first | ((with_reducible refine gate_callee (f := 17) rfl ?_); refine gl 28 Tryd.func17 #[.agg #[.int .i64 a0_0, .int .i64 a0_1, .slice A0_2 l0_2.length c0_2]] ?_; (with_reducible refine (spec_IsFrieze.calls _ _ _ _ _ _ _ _ ?side1 ?side2 A10.out).mono ?_); (case side1 => exact ks (Kd.C_below HR0_2.out HB.out)); (case side2 => exact HC0_2.out); rintro e w33 ⟨rfl, hb⟩; refine ⟨_, rfl, ?_⟩; replace HO169 := asd (Kd.R_below (kr HO169) hb); replace BK164 := bB BK164 hb; replace BK165 := bB BK165 hb; replace HB := bS2 HB GE164 GE165 hb; (try clear hb); obtain ⟨hcz34_0, hcz34_1, hcz34_2, hfz34_0, hfz34_1, hfz34_2⟩ := bz3 BK164))
       go_meet
       case rel => exact ⟨_, (0), (0), H', ⟨by first | omega | exact Nat.le_refl _⟩, ⟨by (with_reducible repeat (first | apply Kd.R_alloc | apply Kd.R_drewN | apply Kd.R_drew)); exact HO169.out⟩, ⟨bkp BK164⟩, ⟨bkp BK165⟩, ⟨bbw2 HB GE164 GE165⟩⟩
     ·rw [if_neg c24] at H
      have c24b0 : (a1.toList == ([112, 50, 109, 103] : List UInt8)) = false := beq_eq_false_iff_ne.mpr c24
      have c24b1 : (a1.toList != ([112, 50, 109, 103] : List UInt8)) = true := bne_iff_ne.mpr c24
      have H' := Aside0.mk H
      clear H
      have hnb35 := NB164_165.out
      have hnc35 := NB165_164.out
      obtain ⟨hcz36_0, hcz36_1, hcz36_2, hfz36_0, hfz36_1, hfz36_2⟩ := bz3 BK164
      go_wp2_with (first | ((with_reducible refine gate_callee (f := 17) rfl ?_); refine gl 28 Tryd.func17 #[.agg #[.int .i64 a0_0, .int .i64 a0_1, .slice A0_2 l0_2.length c0_2]] ?_; (with_reducible refine (spec_IsFrieze.calls _ _ _ _ _ _ _ _ ?side1 ?side2 A10.out).mono ?_); (case side1 => exact ks (Kd.C_below HR0_2.out HB.out)); (case side2 => exact HC0_2.out); rintro e w37 ⟨rfl, hb⟩; refine ⟨_, rfl, ?_⟩; replace HO169 := asd (Kd.R_below (kr HO169) hb); replace BK164 := bB BK164 hb; replace BK165 := bB BK165 hb; replace HB := bS2 HB GE164 GE165 hb; (try clear hb)))
      go_meet
      case rel => exact ⟨_, (0), (0), H', ⟨by first | omega | exact Nat.le_refl _⟩, ⟨by (with_reducible repeat (first | apply Kd.R_alloc | apply Kd.R_drewN | apply Kd.R_drew)); exact HO169.out⟩, ⟨bkp BK164⟩, ⟨bkp BK165⟩, ⟨bbw2 HB GE164 GE165⟩⟩
   ·replace c12 := Bool.eq_false_iff.mpr c12
    subst c12
    replace H := ifF H
    simp only [Option.some.injEq, Prod.mk.injEq] at H
    obtain ⟨rfl, rfl, rfl, rfl⟩ := H
    have hnb38 := NB164_165.out
    have hnc38 := NB165_164.out
    obtain ⟨hcz39_0, hcz39_1, hcz39_2, hfz39_0, hfz39_1, hfz39_2⟩ := bz3 BK164
    go_wp2_with (first | ((with_reducible refine gate_callee (f := 17) rfl ?_); refine gl 28 Tryd.func17 #[.agg #[.int .i64 a0_0, .int .i64 a0_1, .slice A0_2 l0_2.length c0_2]] ?_; (with_reducible refine (spec_IsFrieze.calls _ _ _ _ _ _ _ _ ?side1 ?side2 A10.out).mono ?_); (case side1 => exact ks (Kd.C_below HR0_2.out HB.out)); (case side2 => exact HC0_2.out); rintro e w40 ⟨rfl, hb⟩; refine ⟨_, rfl, ?_⟩; replace HO169 := asd (Kd.R_below (kr HO169) hb); replace BK164 := bB BK164 hb; replace BK165 := bB BK165 hb; replace HB := bS2 HB GE164 GE165 hb; (try clear hb); obtain ⟨hcz41_0, hcz41_1, hcz41_2, hfz41_0, hfz41_1, hfz41_2⟩ := bz3 BK165))
    refine bodyPost_ret (results_ct rfl _ _ gb165 28 #[.int .i64 0, .int .i64 0, .slice none 0 0] (0, 0) _ rfl (bq0 BK165) Tryd.underlying28 rfl (by kernel_rfl)) rfl ?_
    exact ⟨_, by first | rfl | (simp [errW_none, errW_some] <;> rfl) | (simp [*, errW_none, errW_some] <;> rfl), by first | exact Kd.R_nil _ _ _ _ _ | exact Kd.N_nil _ _ _ _ _ | exact Kd.V_nil _ _ _ _ _ | exact Kd.Q_nil _ _ _ _ _ | exact Kd.S_nil _ _ _ _ _, bbw2 HB GE164 GE165⟩
  ·replace c11 := Bool.eq_false_iff.mpr c11
   subst c11
   replace H := ifF H
   simp only [Option.some.injEq, Prod.mk.injEq] at H
   obtain ⟨rfl, rfl, rfl, rfl⟩ := H
   have hnb42 := NB164_165.out
   have hnc42 := NB165_164.out
   obtain ⟨hcz43_0, hcz43_1, hcz43_2, hfz43_0, hfz43_1, hfz43_2⟩ := bz3 BK164
   go_wp2_with (first | ((with_reducible refine gate_callee (f := 17) rfl ?_); refine gl 28 Tryd.func17 #[.agg #[.int .i64 a0_0, .int .i64 a0_1, .slice A0_2 l0_2.length c0_2]] ?_; (with_reducible refine (spec_IsFrieze.calls _ _ _ _ _ _ _ _ ?side1 ?side2 A10.out).mono ?_); (case side1 => exact ks (Kd.C_below HR0_2.out HB.out)); (case side2 => exact HC0_2.out); rintro e w44 ⟨rfl, hb⟩; refine ⟨_, rfl, ?_⟩; replace HO169 := asd (Kd.R_below (kr HO169) hb); replace BK164 := bB BK164 hb; replace BK165 := bB BK165 hb; replace HB := bS2 HB GE164 GE165 hb; (try clear hb); obtain ⟨hcz45_0, hcz45_1, hcz45_2, hfz45_0, hfz45_1, hfz45_2⟩ := bz3 BK165))
   refine bodyPost_ret (results_ct rfl _ _ gb165 28 #[.int .i64 0, .int .i64 0, .slice none 0 0] (0, 0) _ rfl (bq0 BK165) Tryd.underlying28 rfl (by kernel_rfl)) rfl ?_
   exact ⟨_, by first | rfl | (simp [errW_none, errW_some] <;> rfl) | (simp [*, errW_none, errW_some] <;> rfl), by first | exact Kd.R_nil _ _ _ _ _ | exact Kd.N_nil _ _ _ _ _ | exact Kd.V_nil _ _ _ _ _ | exact Kd.Q_nil _ _ _ _ _ | exact Kd.S_nil _ _ _ _ _, bbw2 HB GE164 GE165⟩
 case rest =>
  clear HC4
  try clear c1
  try clear c2
  try clear p2
  try clear c3
  try clear c4
  try clear c7
  try clear c11
  try clear c12
  try clear c13
  try clear c13b0
  try clear c13b1
  try clear c14
  try clear c14b0
  try clear c14b1
  try clear c15
  try clear c17
  try clear c20
  try clear c24
  try clear c24b0
  try clear c24b1
  try clear c25
  try clear c25b0
  try clear c25b1
  try clear c26
  try clear c31
  try clear c35
  try clear c38
  try clear c42
  try clear hcz16_0
  try clear hcz16_1
  try clear hcz16_2
  try clear hcz18_0
  try clear hcz18_1
  try clear hcz18_2
  try clear hcz19_0
  try clear hcz19_1
  try clear hcz19_2
  try clear hcz21_0
  try clear hcz21_1
  try clear hcz21_2
  try clear hcz23_0
  try clear hcz23_1
  try clear hcz23_2
  try clear hcz27_0
  try clear hcz27_1
  try clear hcz27_2
  try clear hcz29_0
  try clear hcz29_1
  try clear hcz29_2
  try clear hcz30_0
  try clear hcz30_1
  try clear hcz30_2
  try clear hcz32_0
  try clear hcz32_1
  try clear hcz32_2
  try clear hcz34_0
  try clear hcz34_1
  try clear hcz34_2
  try clear hcz36_0
  try clear hcz36_1
  try clear hcz36_2
  try clear hcz39_0
  try clear hcz39_1
  try clear hcz39_2
  try clear hcz41_0
  try clear hcz41_1
  try clear hcz41_2
  try clear hcz43_0
  try clear hcz43_1
  try clear hcz43_2
  try clear hcz45_0
  try clear hcz45_1
  try clear hcz45_2
  try clear hcz8_0
  try clear hcz8_1
  try clear hcz8_2
  try clear hfz16_0
  try clear hfz16_1
  try clear hfz16_2
  try clear hfz18_0
  try clear hfz18_1
  try clear hfz18_2
  try clear hfz19_0
  try clear hfz19_1
  try clear hfz19_2
  try clear hfz21_0
  try clear hfz21_1
  try clear hfz21_2
  try clear hfz23_0
  try clear hfz23_1
  try clear hfz23_2
  try clear hfz27_0
  try clear hfz27_1
  try clear hfz27_2
  try clear hfz29_0
  try clear hfz29_1
  try clear hfz29_2
  try clear hfz30_0
  try clear hfz30_1
  try clear hfz30_2
  try clear hfz32_0
  try clear hfz32_1
  try clear hfz32_2
  try clear hfz34_0
  try clear hfz34_1
  try clear hfz34_2
  try clear hfz36_0
  try clear hfz36_1
  try clear hfz36_2
  try clear hfz39_0
  try clear hfz39_1
  try clear hfz39_2
  try clear hfz41_0
  try clear hfz41_1
  try clear hfz41_2
  try clear hfz43_0
  try clear hfz43_1
  try clear hfz43_2
  try clear hfz45_0
  try clear hfz45_1
  try clear hfz45_2
  try clear hfz8_0
  try clear hfz8_1
  try clear hfz8_2
  obtain ⟨kq, x166000_3, x166001_3, HA, HJ3, HO_6, BK164, BK165, HB⟩ := hcut
  cases kq with
  | zero => exact absurd HA.out (by simp [spec_FillFrieze.j0])
  | succ kj3 =>
   have H := HA.out
   clear HA
   simp only [spec_FillFrieze.j0] at H
   obtain ⟨y171, hy171⟩ : ∃ y_ : List Int, y_ = (([] : List Int)) := ⟨_, rfl⟩
   replace H : (spec_FillFrieze.l0 kj3 t166 y171 0 a0_0 a0_1 l0_2) = some (r1, r2, r3, r4) := by first | (rw [hy171]; with_reducible exact H) | (have H2_ := (Option.bind_some _ _).symm.trans H; rw [hy171]; with_reducible exact H2_) | (have H2_ := (Option.bind_some _ _).symm.trans H; with_reducible exact H2_) | with_reducible exact H | (rw [hy171]; exact H) | exact H
   have Ny171 := Aside0.mk hy171
   clear hy171
   have H' := Aside0.mk H
   clear H
   go_wp2_with (first | ((with_reducible refine gd 49 rfl ?_); refine Kd.R_lit (Kd.int .i64) _ 2 ?hg (N := 49) ?hd (xs := ([] : List Int)) (inner := []) (ok := fun _ => True) (okp := fun _ => True) ?hr ?hp (fun _ hk => hk) trivial (Below.refl _ _) (Nat.le_refl _) (by simp) ?_; (case hd => rfl); (case hg => rfl); (case hr => first | (go_simp; done) | (go_simp; rfl)); (case hp => exact (Reps.none _ _)); intro v172 w46 ho47 hb hg_ hnew_; clear hg_ hnew_; (first | rw [← Ny171.out] at ho47 | (simp only [Int.reduceToNat] at ho47; rw [← Ny171.out] at ho47)); replace HO_6 := asd (Kd.R_below (kr HO_6) hb); have HO173 := asd (Kd.R_lower ho47 (bsz2 HB GE164 GE165)); replace BK164 := bB BK164 hb; replace BK165 := bB BK165 hb; replace HB := bS2 HB GE164 GE165 hb; clear hb ho47))
   go_loopg [8, 9] kj3 (fun kq v8 v9 w' => ∃ (x8_2 : List Int) (x9_2 : Int), v9 = .int .i64 x9_2 ∧ Aside0 (spec_FillFrieze.l0 kq t166 x8_2 x9_2 a0_0 a0_1 l0_2 = some (r1, r2, r3, r4)) ∧ Aside0 (kq ≤ kj3) ∧ Aside0 (Kd.R k84 84 w' w.heap.size (fun _ => True) v168 t166) ∧ Aside0 (Kd.R (Kd.int .i64) 2 w' w.heap.size (fun _ => True) v8 x8_2) ∧ Aside0 (w'.heap[gb164]? = some (.cells #[.int .i64 a0_0, .int .i64 a0_1, (.slice A0_2 l0_2.length c0_2)] 28 (0, 0))) ∧ Aside0 (w'.heap[gb165]? = some (.cells #[.int .i64 x166000_3, .int .i64 x166001_3, (.slice none 0 0)] 28 (0, 0))) ∧ Aside0 (Below w.heap.size w w'))
   case atStart => exact ⟨(y171), (0), (by first | rfl | (simp; done) | (simp [*]; done)), H', ⟨Nat.le_refl _⟩, ⟨by (with_reducible repeat (first | apply Kd.R_alloc | apply Kd.R_drewN | apply Kd.R_drew)); exact HO_6.out⟩, ⟨by (with_reducible repeat (first | apply Kd.R_alloc | apply Kd.R_drewN | apply Kd.R_drew)); exact HO173.out⟩, ⟨bkp BK164⟩, ⟨bkp BK165⟩, ⟨bbw2 HB GE164 GE165⟩⟩
   case round =>
    clear H'
    try clear c1
    try clear c2
    try clear p2
    try clear c3
    try clear c4
    try clear c7
    try clear c11
    try clear c12
    try clear c13
    try clear c13b0
    try clear c13b1
    try clear c14
    try clear c14b0
    try clear c14b1
    try clear c15
    try clear c17
    try clear c20
    try clear c24
    try clear c24b0
    try clear c24b1
    try clear c25
    try clear c25b0
    try clear c25b1
    try clear c26
    try clear c31
    try clear c35
    try clear c38
    try clear c42
    try clear hcz16_0
    try clear hcz16_1
    try clear hcz16_2
    try clear hcz18_0
    try clear hcz18_1
    try clear hcz18_2
    try clear hcz19_0
    try clear hcz19_1
    try clear hcz19_2
    try clear hcz21_0
    try clear hcz21_1
    try clear hcz21_2
    try clear hcz23_0
    try clear hcz23_1
    try clear hcz23_2
    try clear hcz27_0
    try clear hcz27_1
    try clear hcz27_2
    try clear hcz29_0
    try clear hcz29_1
    try clear hcz29_2
    try clear hcz30_0
    try clear hcz30_1
    try clear hcz30_2
    try clear hcz32_0
    try clear hcz32_1
    try clear hcz32_2
    try clear hcz34_0
    try clear hcz34_1
    try clear hcz34_2
    try clear hcz36_0
    try clear hcz36_1
    try clear hcz36_2
    try clear hcz39_0
    try clear hcz39_1
    try clear hcz39_2
    try clear hcz41_0
    try clear hcz41_1
    try clear hcz41_2
    try clear hcz43_0
    try clear hcz43_1
    try clear hcz43_2
    try clear hcz45_0
    try clear hcz45_1
    try clear hcz45_2
    try clear hcz8_0
    try clear hcz8_1
    try clear hcz8_2
    try clear hfz16_0
    try clear hfz16_1
    try clear hfz16_2
    try clear hfz18_0
    try clear hfz18_1
    try clear hfz18_2
    try clear hfz19_0
    try clear hfz19_1
    try clear hfz19_2
    try clear hfz21_0
    try clear hfz21_1
    try clear hfz21_2
    try clear hfz23_0
    try clear hfz23_1
    try clear hfz23_2
    try clear hfz27_0
    try clear hfz27_1
    try clear hfz27_2
    try clear hfz29_0
    try clear hfz29_1
    try clear hfz29_2
    try clear hfz30_0
    try clear hfz30_1
    try clear hfz30_2
    try clear hfz32_0
    try clear hfz32_1
    try clear hfz32_2
    try clear hfz34_0
    try clear hfz34_1
    try clear hfz34_2
    try clear hfz36_0
    try clear hfz36_1
    try clear hfz36_2
    try clear hfz39_0
    try clear hfz39_1
    try clear hfz39_2
    try clear hfz41_0
    try clear hfz41_1
    try clear hfz41_2
    try clear hfz43_0
    try clear hfz43_1
    try clear hfz43_2
    try clear hfz45_0
    try clear hfz45_1
    try clear hfz45_2
    try clear hfz8_0
    try clear hfz8_1
    try clear hfz8_2
    try clear p2
    obtain ⟨x8_2, x9_2, rfl, HA, HK2, HO_6, HO_8, BK164, BK165, HB⟩ := hrel
    cases gk with
    | zero => exact absurd HA.out (by simp [spec_FillFrieze.l0])
    | succ k2 =>
     have H := HA.out
     clear HA
     simp only [spec_FillFrieze.l0] at H
     by_cases c48 : x9_2 < (l0_2.length : Int)
     ·rw [if_pos c48] at H
      have c48b0 := decide_eq_true c48
      clear c48
      by_cases c49 : x8_2.length < 17592186044416
      ·rw [if_pos c49] at H
       have LMc49 := Aside0.mk c49
       clear c49
       obtain ⟨y174, hy174⟩ : ∃ y_ : List Int, y_ = (x8_2 ++ [x9_2]) := ⟨_, rfl⟩
       replace H : (spec_FillFrieze.l0 k2 t166 y174 (wrap64 (x9_2 + 1)) a0_0 a0_1 l0_2) = some (r1, r2, r3, r4) := by first | (rw [hy174]; with_reducible exact H) | (have H2_ := (Option.bind_some _ _).symm.trans H; rw [hy174]; with_reducible exact H2_) | (have H2_ := (Option.bind_some _ _).symm.trans H; with_reducible exact H2_) | with_reducible exact H | (rw [hy174]; exact H) | exact H
       have Ny174 := Aside0.mk hy174
       clear hy174
       have H' := Aside0.mk H
       clear H
       have hnb50 := NB164_165.out
       have hnc50 := NB165_164.out
       obtain ⟨hcz51_0, hcz51_1, hcz51_2, hfz51_0, hfz51_1, hfz51_2⟩ := bz3 BK164
       go_wp2_with (first | ((with_reducible refine gate_builtin (b := .append) (xs := #[.tmp 57, .tmp 59]) rfl ?_); at_builtin; refine Kd.R_append (Kd.int .i64) (w0 := w) w.heap.size rfl (.tmp 57) (.tmp 59) 22 2 (.int .i64 0) 8 rfl Tryd.underlying22 info2 rfl (by decide) (by omega) u8 x8_2 x9_2 [.int .i64 x9_2] (fun _ => True) (fun _ => False) rfl rfl ?aP (fun _ hk => hk.elim) ?aF ?aO ?aB ?aS ?aL ?_; (case aP => exact rfl); (case aB => exact (bbw2 HB GE164 GE165)); (case aF => exact (fun _ _ => trivial)); (case aO => exact (kr HO_8)); (case aS => exact (bsz2 HB GE164 GE165)); (case aL => have := LMc49.out; omega); intro v175 w52 ho hb hg hat; rw [← Ny174.out] at ho; have n0_ := asd (Kd.R_over' (kr HO_6) (Kd.R_typed (kr HO_8)) (by decide) hg); have n1_ := asd (blk_grown (g := gb164) (o := .cells #[.int .i64 a0_0, .int .i64 a0_1, .slice A0_2 l0_2.length c0_2] 28 (0, 0)) (bkp BK164) hg (Kd.R_ne HO_8.out BK164.out (by decide))); have n2_ := asd (blk_grown (g := gb165) (o := .cells #[.int .i64 x166000_3, .int .i64 x166001_3, .slice none 0 0] 28 (0, 0)) (bkp BK165) hg (Kd.R_ne HO_8.out BK165.out (by decide))); have n3_ := asd (hb); have n4_ := asd (ho); clear HO_6; clear BK164; clear BK165; clear HB; clear HO_8; have HO_6 := n0_; have BK164 := n1_; have BK165 := n2_; have HB := n3_; have HO176 := n4_; clear n0_ n1_ n2_ n3_ n4_; clear ho hb hg hat))
       go_roundg k2
       case measure => have := HJ3.out; have := HK2.out; omega
       case rel => exact ⟨(y174), (wrap64 (x9_2 + 1)), (by first | rfl | (simp; done) | (simp [*]; done)), H', ⟨by have := HJ3.out; have := HK2.out; omega⟩, ⟨by (with_reducible repeat (first | apply Kd.R_alloc | apply Kd.R_drewN | apply Kd.R_drew)); exact HO_6.out⟩, ⟨by (with_reducible repeat (first | apply Kd.R_alloc | apply Kd.R_drewN | apply Kd.R_drew)); exact HO176.out⟩, ⟨bkp BK164⟩, ⟨bkp BK165⟩, ⟨bbw2 HB GE164 GE165⟩⟩
      ·rw [if_neg c49] at H
       exact absurd H (by simp)
     ·rw [if_neg c48] at H
      have c48b0 := decide_eq_false c48
      clear c48
      have H' := Aside0.mk H
      clear H
      have hnb53 := NB164_165.out
      have hnc53 := NB165_164.out
      obtain ⟨hcz54_0, hcz54_1, hcz54_2, hfz54_0, hfz54_1, hfz54_2⟩ := bz3 BK164
      go_wp2
      go_loopg [10] k2 (fun kq v10 w' => ∃ (x8_3 : List Int) (x10_3 : Bool), v10 = .bool x10_3 ∧ Aside0 (spec_FillFrieze.l1 kq t166 x8_3 x10_3 a0_0 a0_1 l0_2 = some (r1, r2, r3, r4)) ∧ Aside0 (kq ≤ k2) ∧ Aside0 (Kd.R k84 84 w' w.heap.size (fun _ => True) v168 t166) ∧ Aside0 (Kd.R (Kd.int .i64) 2 w' w.heap.size (fun _ => True) u8 x8_3) ∧ Aside0 (w'.heap[gb164]? = some (.cells #[.int .i64 a0_0, .int .i64 a0_1, (.slice A0_2 l0_2.length c0_2)] 28 (0, 0))) ∧ Aside0 (w'.heap[gb165]? = some (.cells #[.int .i64 x166000_3, .int .i64 x166001_3, (.slice none 0 0)] 28 (0, 0))) ∧ Aside0 (Below w.heap.size w w'))
      case atStart => exact ⟨(x8_2), (true), (by first | rfl | (simp; done) | (simp [*]; done)), H', ⟨Nat.le_refl _⟩, ⟨by (with_reducible repeat (first | apply Kd.R_alloc | apply Kd.R_drewN | apply Kd.R_drew)); exact HO_6.out⟩, ⟨by (with_reducible repeat (first | apply Kd.R_alloc | apply Kd.R_drewN | apply Kd.R_drew)); exact HO_8.out⟩, ⟨bkp BK164⟩, ⟨bkp BK165⟩, ⟨bbw2 HB GE164 GE165⟩⟩
      case round =>
       clear H'
       try clear c1
       try clear c2
       try clear p2
       try clear c3
       try clear c4
       try clear c5
       try clear p6
       try clear c7
       try clear c11
       try clear c12
       try clear c13
       try clear c13b0
       try clear c13b1
       try clear c14
       try clear c14b0
       try clear c14b1
       try clear c15
       try clear c17
       try clear c20
       try clear c24
       try clear c24b0
       try clear c24b1
       try clear c25
       try clear c25b0
       try clear c25b1
       try clear c26
       try clear c31
       try clear c35
       try clear c38
       try clear c42
       try clear c48
       try clear c48b0
       try clear c49
       try clear c50
       try clear c53
       try clear hcz16_0
       try clear hcz16_1
       try clear hcz16_2
       try clear hcz18_0
       try clear hcz18_1
       try clear hcz18_2
       try clear hcz19_0
       try clear hcz19_1
       try clear hcz19_2
       try clear hcz21_0
       try clear hcz21_1
       try clear hcz21_2
       try clear hcz23_0
       try clear hcz23_1
       try clear hcz23_2
       try clear hcz27_0
       try clear hcz27_1
       try clear hcz27_2
       try clear hcz29_0
       try clear hcz29_1
       try clear hcz29_2
       try clear hcz30_0
       try clear hcz30_1
       try clear hcz30_2
       try clear hcz32_0
       try clear hcz32_1
       try clear hcz32_2
       try clear hcz34_0
       try clear hcz34_1
       try clear hcz34_2
       try clear hcz36_0
       try clear hcz36_1
       try clear hcz36_2
       try clear hcz39_0
       try clear hcz39_1
       try clear hcz39_2
       try clear hcz41_0
       try clear hcz41_1
       try clear hcz41_2
       try clear hcz43_0
       try clear hcz43_1
       try clear hcz43_2
       try clear hcz45_0
       try clear hcz45_1
       try clear hcz45_2
       try clear hcz51_0
       try clear hcz51_1
       try clear hcz51_2
       try clear hcz54_0
       try clear hcz54_1
       try clear hcz54_2
       try clear hcz8_0
       try clear hcz8_1
       try clear hcz8_2
       try clear hfz16_0
       try clear hfz16_1
       try clear hfz16_2
       try clear hfz18_0
       try clear hfz18_1
       try clear hfz18_2
       try clear hfz19_0
       try clear hfz19_1
       try clear hfz19_2
       try clear hfz21_0
       try clear hfz21_1
       try clear hfz21_2
       try clear hfz23_0
       try clear hfz23_1
       try clear hfz23_2
       try clear hfz27_0
       try clear hfz27_1
       try clear hfz27_2
       try clear hfz29_0
       try clear hfz29_1
       try clear hfz29_2
       try clear hfz30_0
       try clear hfz30_1
       try clear hfz30_2
       try clear hfz32_0
       try clear hfz32_1
       try clear hfz32_2
       try clear hfz34_0
       try clear hfz34_1
       try clear hfz34_2
       try clear hfz36_0
       try clear hfz36_1
       try clear hfz36_2
       try clear hfz39_0
       try clear hfz39_1
       try clear hfz39_2
       try clear hfz41_0
       try clear hfz41_1
       try clear hfz41_2
       try clear hfz43_0
       try clear hfz43_1
       try clear hfz43_2
       try clear hfz45_0
       try clear hfz45_1
       try clear hfz45_2
       try clear hfz51_0
       try clear hfz51_1
       try clear hfz51_2
       try clear hfz54_0
       try clear hfz54_1
       try clear hfz54_2
       try clear hfz8_0
       try clear hfz8_1
       try clear hfz8_2
       try clear p2
       obtain ⟨x8_3, x10_3, rfl, HA, HK3, HO_6, HO_8, BK164, BK165, HB⟩ := hrel
       cases gk with
       | zero => exact absurd HA.out (by simp [spec_FillFrieze.l1])
       | succ k3 =>
        have H := HA.out
        clear HA
        simp only [spec_FillFrieze.l1] at H
        by_cases c55 : x10_3 = true
        ·subst c55
         replace H := ifT H
         have H' := Aside0.mk H
         clear H
         go_wp2
         go_loopg [10, 11] k3 (fun kq v10 v11 w' => ∃ (x8_4 : List Int) (x10_4 : Bool) (x11_4 : Int), v10 = .bool x10_4 ∧ v11 = .int .i64 x11_4 ∧ Aside0 (spec_FillFrieze.l2 kq t166 x8_4 x10_4 x11_4 a0_0 a0_1 l0_2 = some (r1, r2, r3, r4)) ∧ Aside0 (kq ≤ k3) ∧ Aside0 (Kd.R k84 84 w' w.heap.size (fun _ => True) v168 t166) ∧ Aside0 (Kd.R (Kd.int .i64) 2 w' w.heap.size (fun _ => True) u8 x8_4) ∧ Aside0 (w'.heap[gb164]? = some (.cells #[.int .i64 a0_0, .int .i64 a0_1, (.slice A0_2 l0_2.length c0_2)] 28 (0, 0))) ∧ Aside0 (w'.heap[gb165]? = some (.cells #[.int .i64 x166000_3, .int .i64 x166001_3, (.slice none 0 0)] 28 (0, 0))) ∧ Aside0 (Below w.heap.size w w'))
         case atStart => exact ⟨(x8_3), (false), (0), (by first | rfl | (simp; done) | (simp [*]; done)), (by first | rfl | (simp; done) | (simp [*]; done)), H', ⟨Nat.le_refl _⟩, ⟨by (with_reducible repeat (first | apply Kd.R_alloc | apply Kd.R_drewN | apply Kd.R_drew)); exact HO_6.out⟩, ⟨by (with_reducible repeat (first | apply Kd.R_alloc | apply Kd.R_drewN | apply Kd.R_drew)); exact HO_8.out⟩, ⟨bkp BK164⟩, ⟨bkp BK165⟩, ⟨bbw2 HB GE164 GE165⟩⟩
         case round =>
          clear H'
          try clear c1
          try clear c2
          try clear p2
          try clear c3
          try clear c4
          try clear c5
          try clear p6
          try clear c7
          try clear c11
          try clear c12
          try clear c13
          try clear c13b0
          try clear c13b1
          try clear c14
          try clear c14b0
          try clear c14b1
          try clear c15
          try clear c17
          try clear c20
          try clear c24
          try clear c24b0
          try clear c24b1
          try clear c25
          try clear c25b0
          try clear c25b1
          try clear c26
          try clear c31
          try clear c35
          try clear c38
          try clear c42
          try clear c48
          try clear c48b0
          try clear c49
          try clear c50
          try clear c53
          try clear c55
          try clear hcz16_0
          try clear hcz16_1
          try clear hcz16_2
          try clear hcz18_0
          try clear hcz18_1
          try clear hcz18_2
          try clear hcz19_0
          try clear hcz19_1
          try clear hcz19_2
          try clear hcz21_0
          try clear hcz21_1
          try clear hcz21_2
          try clear hcz23_0
          try clear hcz23_1
          try clear hcz23_2
          try clear hcz27_0
          try clear hcz27_1
          try clear hcz27_2
          try clear hcz29_0
          try clear hcz29_1
          try clear hcz29_2
          try clear hcz30_0
          try clear hcz30_1
          try clear hcz30_2
          try clear hcz32_0
          try clear hcz32_1
          try clear hcz32_2
          try clear hcz34_0
          try clear hcz34_1
          try clear hcz34_2
          try clear hcz36_0
          try clear hcz36_1
          try clear hcz36_2
          try clear hcz39_0
          try clear hcz39_1
          try clear hcz39_2
          try clear hcz41_0
          try clear hcz41_1
          try clear hcz41_2
          try clear hcz43_0
          try clear hcz43_1
          try clear hcz43_2
          try clear hcz45_0
          try clear hcz45_1
          try clear hcz45_2
          try clear hcz51_0
          try clear hcz51_1
          try clear hcz51_2
          try clear hcz54_0
          try clear hcz54_1
          try clear hcz54_2
          try clear hcz8_0
          try clear hcz8_1
          try clear hcz8_2
          try clear hfz16_0
          try clear hfz16_1
          try clear hfz16_2
          try clear hfz18_0
          try clear hfz18_1
          try clear hfz18_2
          try clear hfz19_0
          try clear hfz19_1
          try clear hfz19_2
          try clear hfz21_0
          try clear hfz21_1
          try clear hfz21_2
          try clear hfz23_0
          try clear hfz23_1
          try clear hfz23_2
          try clear hfz27_0
          try clear hfz27_1
          try clear hfz27_2
          try clear hfz29_0
          try clear hfz29_1
          try clear hfz29_2
          try clear hfz30_0
          try clear hfz30_1
          try clear hfz30_2
          try clear hfz32_0
          try clear hfz32_1
          try clear hfz32_2
          try clear hfz34_0
          try clear hfz34_1
          try clear hfz34_2
          try clear hfz36_0
          try clear hfz36_1
          try clear hfz36_2
          try clear hfz39_0
          try clear hfz39_1
          try clear hfz39_2
          try clear hfz41_0
          try clear hfz41_1
          try clear hfz41_2
          try clear hfz43_0
          try clear hfz43_1
          try clear hfz43_2
          try clear hfz45_0
          try clear hfz45_1
          try clear hfz45_2
          try clear hfz51_0
          try clear hfz51_1
          try clear hfz51_2
          try clear hfz54_0
          try clear hfz54_1
          try clear hfz54_2
          try clear hfz8_0
          try clear hfz8_1
          try clear hfz8_2
          try clear p2
          try clear p6
          obtain ⟨x8_4, x10_4, x11_4, rfl, rfl, HA, HK4, HO_6, HO_8, BK164, BK165, HB⟩ := hrel
          cases gk with
          | zero => exact absurd HA.out (by simp [spec_FillFrieze.l2])
          | succ k4 =>
           have H := HA.out
           clear HA
           simp only [spec_FillFrieze.l2] at H
           by_cases c56 : x11_4 < (x8_4.length : Int)
           ·rw [if_pos c56] at H
            have c56b0 := decide_eq_true c56
            clear c56
            have H' := Aside0.mk H
            clear H
            obtain ⟨Ao57, co57, eo57⟩ := Kd.R_slice HO_8.out
            subst eo57
            go_wp2
            go_loopg [10, 12] k4 (fun kq v10 v12 w' => ∃ (x8_5 : List Int) (x10_5 : Bool) (x12_5 : Int), v10 = .bool x10_5 ∧ v12 = .int .i64 x12_5 ∧ Aside0 (spec_FillFrieze.l3 kq t166 x8_5 x10_5 x11_4 x12_5 a0_0 a0_1 l0_2 = some (r1, r2, r3, r4)) ∧ Aside0 (kq ≤ k4) ∧ Aside0 (Kd.R k84 84 w' w.heap.size (fun _ => True) v168 t166) ∧ Aside0 (Kd.R (Kd.int .i64) 2 w' w.heap.size (fun _ => True) (.slice Ao57 x8_4.length co57) x8_5) ∧ Aside0 (w'.heap[gb164]? = some (.cells #[.int .i64 a0_0, .int .i64 a0_1, (.slice A0_2 l0_2.length c0_2)] 28 (0, 0))) ∧ Aside0 (w'.heap[gb165]? = some (.cells #[.int .i64 x166000_3, .int .i64 x166001_3, (.slice none 0 0)] 28 (0, 0))) ∧ Aside0 (Below w.heap.size w w'))
            case atStart => exact ⟨(x8_4), (x10_4), (0), (by first | rfl | (simp; done) | (simp [*]; done)), (by first | rfl | (simp; done) | (simp [*]; done)), H', ⟨Nat.le_refl _⟩, ⟨by (with_reducible repeat (first | apply Kd.R_alloc | apply Kd.R_drewN | apply Kd.R_drew)); exact HO_6.out⟩, ⟨by (with_reducible repeat (first | apply Kd.R_alloc | apply Kd.R_drewN | apply Kd.R_drew)); exact HO_8.out⟩, ⟨bkp BK164⟩, ⟨bkp BK165⟩, ⟨bbw2 HB GE164 GE165⟩⟩
            case round =>
             clear H'
             try clear c1
             try clear c2
             try clear p2
             try clear c3
             try clear c4
             try clear c5
             try clear p6
             try clear c7
             try clear c11
             try clear c12
             try clear c13
             try clear c13b0
             try clear c13b1
             try clear c14
             try clear c14b0
             try clear c14b1
             try clear c15
             try clear c17
             try clear c20
             try clear c24
             try clear c24b0
             try clear c24b1
             try clear c25
             try clear c25b0
             try clear c25b1
             try clear c26
             try clear c31
             try clear c35
             try clear c38
             try clear c42
             try clear c48
             try clear c48b0
             try clear c49
             try clear c50
             try clear c53
             try clear c55
             try clear c56
             try clear c56b0
             try clear hcz16_0
             try clear hcz16_1
             try clear hcz16_2
             try clear hcz18_0
             try clear hcz18_1
             try clear hcz18_2
             try clear hcz19_0
             try clear hcz19_1
             try clear hcz19_2
             try clear hcz21_0
             try clear hcz21_1
             try clear hcz21_2
             try clear hcz23_0
             try clear hcz23_1
             try clear hcz23_2
             try clear hcz27_0
             try clear hcz27_1
             try clear hcz27_2
             try clear hcz29_0
             try clear hcz29_1
             try clear hcz29_2
             try clear hcz30_0
             try clear hcz30_1
             try clear hcz30_2
             try clear hcz32_0
             try clear hcz32_1
             try clear hcz32_2
             try clear hcz34_0
             try clear hcz34_1
             try clear hcz34_2
             try clear hcz36_0
             try clear hcz36_1
             try clear hcz36_2
             try clear hcz39_0
             try clear hcz39_1
             try clear hcz39_2
             try clear hcz41_0
             try clear hcz41_1
             try clear hcz41_2
             try clear hcz43_0
             try clear hcz43_1
             try clear hcz43_2
             try clear hcz45_0
             try clear hcz45_1
             try clear hcz45_2
             try clear hcz51_0
             try clear hcz51_1
             try clear hcz51_2
             try clear hcz54_0
             try clear hcz54_1
             try clear hcz54_2
             try clear hcz8_0
             try clear hcz8_1
             try clear hcz8_2
             try clear hfz16_0
             try clear hfz16_1
             try clear hfz16_2
             try clear hfz18_0
             try clear hfz18_1
             try clear hfz18_2
             try clear hfz19_0
             try clear hfz19_1
             try clear hfz19_2
             try clear hfz21_0
             try clear hfz21_1
             try clear hfz21_2
             try clear hfz23_0
             try clear hfz23_1
             try clear hfz23_2
             try clear hfz27_0
             try clear hfz27_1
             try clear hfz27_2
             try clear hfz29_0
             try clear hfz29_1
             try clear hfz29_2
             try clear hfz30_0
             try clear hfz30_1
             try clear hfz30_2
             try clear hfz32_0
             try clear hfz32_1
             try clear hfz32_2
             try clear hfz34_0
             try clear hfz34_1
             try clear hfz34_2
             try clear hfz36_0
             try clear hfz36_1
             try clear hfz36_2
             try clear hfz39_0
             try clear hfz39_1
             try clear hfz39_2
             try clear hfz41_0
             try clear hfz41_1
             try clear hfz41_2
             try clear hfz43_0
             try clear hfz43_1
             try clear hfz43_2
             try clear hfz45_0
             try clear hfz45_1
             try clear hfz45_2
             try clear hfz51_0
             try clear hfz51_1
             try clear hfz51_2
             try clear hfz54_0
             try clear hfz54_1
             try clear hfz54_2
             try clear hfz8_0
             try clear hfz8_1
             try clear hfz8_2
             try clear p2
             try clear p6
             obtain ⟨x8_5, x10_5, x12_5, rfl, rfl, HA, HK5, HO_6, HO_8, BK164, BK165, HB⟩ := hrel
             have hl8_5 := (Kd.R_reads' HO_8.out).1
             rw [hl8_5] at HO_8
             (try simp only [hl8_5])
             (try simp only [hl8_5] at BK164)
             (try simp only [hl8_5] at BK165)
             (try simp only [hl8_5] at HO_6)
             cases gk with
             | zero => exact absurd HA.out (by simp [spec_FillFrieze.l3])
             | succ k5 =>
              have H := HA.out
              clear HA
              simp only [spec_FillFrieze.l3] at H
              by_cases c58 : x12_5 < (t166.length : Int)
              ·rw [if_pos c58] at H
               have c58b0 := decide_eq_true c58
               clear c58
               by_cases c59 : 0 ≤ x12_5
               ·rw [if_pos c59] at H
                have c59b0 := decide_eq_true c59
                clear c59
                by_cases c60 : a0_1 = 0
                ·rw [if_pos c60] at H
                 exact absurd H (by simp)
                ·rw [if_neg c60] at H
                 have c60b0 : (a0_1 == 0) = false := beq_eq_false_iff_ne.mpr c60
                 have c60b1 : (a0_1 != 0) = true := bne_iff_ne.mpr c60
                 obtain ⟨⟨t178, t179⟩, A61, H⟩ := ob H
                 try dsimp only at H
                 obtain ⟨t180, A62, H⟩ := ob H
                 try dsimp only at H
                 obtain ⟨ji63, hji63⟩ : ∃ j_ : Int, (wrap64 ((wrap64 (t179 * a0_1)) + t180)) = j_ := ⟨_, rfl⟩
                 replace H : (if 0 ≤ (ji63) then (if (ji63) < (x8_5.length : Int) then (if 0 ≤ x11_4 then (if x11_4 < (x8_5.length : Int) then (if x10_5 = true then (spec_FillFrieze.l3 k5 t166 ((x8_5.set ((ji63) : Int).toNat (mn (rd x8_5 (ji63)) (rd x8_5 x11_4))).set (x11_4 : Int).toNat (mn (rd x8_5 (ji63)) (rd x8_5 x11_4))) true x11_4 (wrap64 (x12_5 + 1)) a0_0 a0_1 l0_2) else (spec_FillFrieze.l3 k5 t166 ((x8_5.set ((ji63) : Int).toNat (mn (rd x8_5 (ji63)) (rd x8_5 x11_4))).set (x11_4 : Int).toNat (mn (rd x8_5 (ji63)) (rd x8_5 x11_4))) ((rd x8_5 (ji63)) != (rd x8_5 x11_4)) x11_4 (wrap64 (x12_5 + 1)) a0_0 a0_1 l0_2)) else (none)) else (none)) else (none)) else (none)) = some (r1, r2, r3, r4) := by first | (rw [hji63] at H; first | done | exact H) | (simp only [hji63] at H ⊢; exact H)
                 (try rw [hji63] at A61)
                 (try rw [hji63] at A62)
                 have hji63w : (IntKind.i64.wrap ((wrap64 (t179 * a0_1)) + t180)) = ji63 := (i64_w _).trans hji63
                 have hji63x : (IntKind.i64.wrap ((IntKind.i64.wrap (t179 * a0_1)) + t180)) = ji63 := by simp only [i64_w]; exact hji63
                 by_cases c64 : 0 ≤ (ji63)
                 ·rw [if_pos c64] at H
                  have c64b0 := decide_eq_true c64
                  clear c64
                  by_cases c65 : (ji63) < (x8_5.length : Int)
                  ·rw [if_pos c65] at H
                   have c65b0 := decide_eq_true c65
                   clear c65
                   by_cases c66 : 0 ≤ x11_4
                   ·rw [if_pos c66] at H
                    have c66b0 := decide_eq_true c66
                    clear c66
                    by_cases c67 : x11_4 < (x8_5.length : Int)
                    ·rw [if_pos c67] at H
                     have c67b0 := decide_eq_true c67
                     clear c67
                     obtain ⟨ji68, hji68⟩ : ∃ j_ : Int, (mn (rd x8_5 (ji63)) (rd x8_5 x11_4)) = j_ := ⟨_, rfl⟩
                     replace H : (if x10_5 = true then (spec_FillFrieze.l3 k5 t166 ((x8_5.set ((ji63) : Int).toNat (ji68)).set (x11_4 : Int).toNat (ji68)) true x11_4 (wrap64 (x12_5 + 1)) a0_0 a0_1 l0_2) else (spec_FillFrieze.l3 k5 t166 ((x8_5.set ((ji63) : Int).toNat (ji68)).set (x11_4 : Int).toNat (ji68)) ((rd x8_5 (ji63)) != (rd x8_5 x11_4)) x11_4 (wrap64 (x12_5 + 1)) a0_0 a0_1 l0_2)) = some (r1, r2, r3, r4) := by first | (rw [hji68] at H; first | done | exact H) | (simp only [hji68] at H ⊢; exact H)
                     (try rw [hji68] at A61)
                     (try rw [hji68] at A62)
                     have hji68_ : (if (rd x8_5 x11_4) < (rd x8_5 (ji63)) then (rd x8_5 x11_4) else (rd x8_5 (ji63))) = ji68 := hji68
                     by_cases c69 : x10_5 = true
                     ·subst c69
                      replace H := ifT H
                      obtain ⟨y183, hy183⟩ : ∃ y_ : List Int, y_ = (x8_5.set ((ji63) : Int).toNat (ji68)) := ⟨_, rfl⟩
                      replace H : (spec_FillFrieze.l3 k5 t166 (y183.set (x11_4 : Int).toNat (ji68)) true x11_4 (wrap64 (x12_5 + 1)) a0_0 a0_1 l0_2) = some (r1, r2, r3, r4) := by first | (rw [hy183]; with_reducible exact H) | (have H2_ := (Option.bind_some _ _).symm.trans H; rw [hy183]; with_reducible exact H2_) | (have H2_ := (Option.bind_some _ _).symm.trans H; with_reducible exact H2_) | with_reducible exact H | (rw [hy183]; exact H) | exact H
                      have Ny183 := Aside0.mk hy183
                      clear hy183
                      obtain ⟨y184, hy184⟩ : ∃ y_ : List Int, y_ = (y183.set (x11_4 : Int).toNat (ji68)) := ⟨_, rfl⟩
                      replace H : (spec_FillFrieze.l3 k5 t166 y184 true x11_4 (wrap64 (x12_5 + 1)) a0_0 a0_1 l0_2) = some (r1, r2, r3, r4) := by first | (rw [hy184]; with_reducible exact H) | (have H2_ := (Option.bind_some _ _).symm.trans H; rw [hy184]; with_reducible exact H2_) | (have H2_ := (Option.bind_some _ _).symm.trans H; with_reducible exact H2_) | with_reducible exact H | (rw [hy184]; exact H) | exact H
                      have Ny184 := Aside0.mk hy184
                      clear hy184
                      have H' := Aside0.mk H
                      clear H
                      obtain ⟨Ao72, co72, eo72⟩ := Kd.R_slice HO_6.out
                      subst eo72
                      try go_wp2
                      replace HO_6 := asd (Kd.R_drew HO_6.out)
                      replace HO_8 := asd (Kd.R_drew HO_8.out)
                      replace BK164 := asd (blk_drew BK164.out)
                      replace BK165 := asd (blk_drew BK165.out)
                      replace HB := asd (below_drew1 HB.out)
                      have p177 : 0 ≤ (x12_5 : Int) := od
                      have q177 : x12_5 < (t166.length : Int) := od
                      obtain ⟨ad177, e177, hx177_0, hx177_1, hx177_2⟩ := at_T84 (Kd.R_reads' HO_6.out).2.2 x12_5 p177 q177
                      cases e177
                      replace p177 := eq_true p177
                      replace q177 := eq_true q177
                      refine sh 19 (cb3 BK164 (c1 hx177_0 (c1 hx177_1 (e1 hx177_2)))) (fun hHeld => ?_); refine with_tabW spec_FillFrieze.tab22 spec_FillFrieze.bits22 (fun HT_ HW_ => ?_)
                      generalize wr.drew = w73 at HO_6 HO_8 BK164 BK165 HB hx177_0 hx177_1 hx177_2 hHeld ⊢
                      refine pu 1 (some 76) (bs 19 2) HT_ ?_
                      refine pu 2 (some 77) (bs 19 6) HT_ ?_
                      refine pu 3 (some 78) (bs 19 14) HT_ ?_
                      refine pu 5 (some 80) (bs 19 46) HT_ ?_
                      refine pu 6 (some 81) (bs 19 110) HT_ ?_
                      refine pu 9 (some 84) (bs 19 622) HT_ ?_
                      refine pu 10 (some 85) (bs 19 1646) HT_ ?_
                      refine ta 0 (some 75) (bs 19 1647) HT_ HW_ hHeld ?_
                      refine ta 4 (some 79) (bs 19 1663) HT_ HW_ hHeld ?_
                      refine ta 7 (some 82) (bs 19 1791) HT_ HW_ hHeld ?_
                      refine pu 8 (some 83) (bT 19 11) HT_ ?_
                      refine ta 11 (some 86) (bT 19 12) HT_ HW_ hHeld ?_
                      refine pu 12 (some 87) (bT 19 13) HT_ ?_
                      refine ro 13 (some 88) (bT 19 14) HT_ (fun K hK => ?_)
                      refine gs Tryd.func50 #[.agg #[.int .i64 a0_0, .int .i64 a0_1, .slice A0_2 l0_2.length c0_2], .agg #[.bool ((rd_T84 t166 x12_5).f0), .bool ((rd_T84 t166 x12_5).f1), .int .i64 ((rd_T84 t166 x12_5).f2)], .int .i64 (Int.tmod x11_4 a0_1), .int .i64 (wrap64 (Int.tdiv x11_4 a0_1))] ?_
                      with_reducible refine (spec_l08Image.calls _ _ _ _ _ _ _ _ _ _ _ _ _ ?side1 ?side2 A61.out).mono ?_
                      (case side1 => exact ks (Kd.C_below HR0_2.out HB.out))
                      (case side2 => exact HC0_2.out)
                      rintro e w74 ⟨rfl, hb⟩
                      have HS3_ := (hb.cell (World.block_lt_of_cell? _ _ (hHeld.2.2.2.1))).trans (hHeld.2.2.2.1)
                      have HS4_ := (hb.cell (World.block_lt_of_cell? _ _ (hHeld.2.2.2.2.1))).trans (hHeld.2.2.2.2.1)
                      have HS5_ := (hb.cell (World.block_lt_of_cell? _ _ (hHeld.2.2.2.2.2))).trans (hHeld.2.2.2.2.2)
                      refine ⟨_, rfl, ?_⟩
                      replace HO_6 := asd (Kd.R_below (kr HO_6) hb)
                      replace HO_8 := asd (Kd.R_below (kr HO_8) hb)
                      replace BK164 := bB BK164 hb
                      replace BK165 := bB BK165 hb
                      replace HB := bS2 HB GE164 GE165 hb
                      (try clear hb)
                      (try clear hb2)
                      (try clear hk)
                      (try clear hi)
                      refine hK.out _ _ ⟨bcl BK164 0, bcl BK164 1, bcl BK164 2, HS3_, HS4_, HS5_⟩ (fun hHeld => ?_)
                      clear hK K
                      refine norm_ (a' := ?_) ?_ ?_
                      rotate_left
                      ·show Act.put _ (some 88) _ = _
                       simp only [Act.put, sA, sB, sC, i64_w, i32_w]
                       rfl
                      refine pu 14 (some 74) (bT 19 15) HT_ ?_
                      refine pu 15 (some 89) (bT 19 16) HT_ ?_
                      refine pu 16 (some 90) (bT 19 17) HT_ ?_
                      refine pu 17 (some 13) (bT 19 18) HT_ ?_
                      refine pu 18 (some 14) (bT 19 19) HT_ ?_
                      refine done_ (done_of HT_.out (by kernel_rfl)) ?_
                      try go_wp2
                      replace HO_6 := asd (Kd.R_drew HO_6.out)
                      replace HO_8 := asd (Kd.R_drew HO_8.out)
                      replace BK164 := asd (blk_drew BK164.out)
                      replace BK165 := asd (blk_drew BK165.out)
                      replace HB := asd (below_drew1 HB.out)
                      refine sh 10 (eb3 BK164) (fun hHeld => ?_); refine with_tabW spec_FillFrieze.tab23 spec_FillFrieze.bits23 (fun HT_ HW_ => ?_)
                      generalize w74.drew = w75 at HO_6 HO_8 BK164 BK165 HB hHeld ⊢
                      refine pu 0 (some 91) (bT 10 1) HT_ ?_
                      refine pu 1 (some 92) (bT 10 2) HT_ ?_
                      refine pu 4 (some 95) (bs 10 19) HT_ ?_
                      refine pu 5 (some 96) (bs 10 51) HT_ ?_
                      refine ta 2 (some 93) (bs 10 55) HT_ HW_ hHeld ?_
                      refine pu 3 (some 94) (bT 10 6) HT_ ?_
                      refine ta 6 (some 97) (bT 10 7) HT_ HW_ hHeld ?_
                      refine ro 7 (some 98) (bT 10 8) HT_ (fun K hK => ?_)
                      refine gs Tryd.func51 #[.int .i64 t178, .int .i64 a0_1] ?_
                      with_reducible refine (spec_l01Mod.calls _ _ _ _ A62.out).mono ?_
                      rintro e w' ⟨rfl, ⟨nd, rfl⟩⟩
                      refine ⟨_, rfl, ?_⟩
                      refine hK.out _ _ (eb3 BK164).out (fun hHeld => ?_)
                      clear hK K
                      refine norm_ (a' := ?_) ?_ ?_
                      rotate_left
                      ·show Act.put _ (some 98) _ = _
                       simp only [Act.put, sA, sB, sC, i64_w, i32_w]
                       rfl
                      refine pu 8 (some 99) (bT 10 9) HT_ ?_
                      refine pu 9 (some 15) (bT 10 10) HT_ ?_
                      refine done_ (done_of HT_.out (by kernel_rfl)) ?_
                      try go_wp2
                      (try (rw [drewN_self w75]; generalize hq_ : World.drewN w75 _ = w75; have n0_ : Aside0 (Kd.R k84 84 w75 w.heap.size (fun _ => True) (.slice (some ad177) t166.length co72) t166) := ⟨by rw [← hq_]; exact (kr HO_6)⟩; have n1_ : Aside0 (Kd.R (Kd.int .i64) 2 w75 w.heap.size (fun _ => True) (.slice Ao57 x8_5.length co57) x8_5) := ⟨by rw [← hq_]; exact (kr HO_8)⟩; have n2_ : Aside0 (w75.heap[gb164]? = some (.cells #[.int .i64 a0_0, .int .i64 a0_1, .slice A0_2 l0_2.length c0_2] 28 (0, 0))) := ⟨by rw [← hq_]; exact (bkp BK164)⟩; have n3_ : Aside0 (w75.heap[gb165]? = some (.cells #[.int .i64 x166000_3, .int .i64 x166001_3, .slice none 0 0] 28 (0, 0))) := ⟨by rw [← hq_]; exact (bkp BK165)⟩; have n4_ : Aside0 (Below w.heap.size w w75) := ⟨by rw [← hq_]; exact (bbw2 HB GE164 GE165)⟩; clear HO_6 HO_8 BK164 BK165 HB hq_; have HO_6 := n0_; have HO_8 := n1_; have BK164 := n2_; have BK165 := n3_; have HB := n4_; clear n0_ n1_ n2_ n3_ n4_))
                      replace HO_6 := asd (Kd.R_drew HO_6.out)
                      replace HO_8 := asd (Kd.R_drew HO_8.out)
                      replace BK164 := asd (blk_drew BK164.out)
                      replace BK165 := asd (blk_drew BK165.out)
                      replace HB := asd (below_drew1 HB.out)
                      have p181 : 0 ≤ ((ji63) : Int) := od
                      have q181 : (ji63) < (x8_5.length : Int) := od
                      obtain ⟨ad181, e181, hx181_0⟩ := Kd.at_int (Kd.R_reads' HO_8.out).2.2 (ji63) p181 q181
                      cases e181
                      replace p181 := eq_true p181
                      replace q181 := eq_true q181
                      have p182 : 0 ≤ (x11_4 : Int) := od
                      have q182 : x11_4 < (x8_5.length : Int) := od
                      obtain ⟨ad182, e182, hx182_0⟩ := Kd.at_int (Kd.R_reads' HO_8.out).2.2 x11_4 p182 q182
                      obtain rfl : ad181 = ad182 := (by injection e182)
                      replace p182 := eq_true p182
                      replace q182 := eq_true q182
                      refine sh 10 (c1 hx181_0 (e1 hx182_0)) (fun hHeld => ?_); refine with_tabW spec_FillFrieze.tab24 spec_FillFrieze.bits24 (fun HT_ HW_ => ?_)
                      generalize w75.drew = w76 at HO_6 HO_8 BK164 BK165 HB hx181_0 hx182_0 hHeld ⊢
                      refine pu 0 (some 100) (bT 10 1) HT_ ?_
                      refine pu 1 (some 101) (bT 10 2) HT_ ?_
                      refine pu 2 (some 102) (bT 10 3) HT_ ?_
                      refine pu 4 (some 104) (bs 10 23) HT_ ?_
                      refine pu 5 (some 105) (bs 10 55) HT_ ?_
                      refine pu 6 (some 106) (bs 10 119) HT_ ?_
                      refine ta 3 (some 103) (bT 10 7) HT_ HW_ hHeld ?_
                      refine ta 7 (some 107) (bT 10 8) HT_ HW_ hHeld ?_
                      refine pu 8 (some 108) (bT 10 9) HT_ ?_
                      refine pu 9 (some 16) (bT 10 10) HT_ ?_
                      refine done_ (done_of HT_.out (by kernel_rfl)) ?_
                      try go_wp2
                      replace HO_6 := asd (Kd.R_drew HO_6.out)
                      replace HO_8 := asd (Kd.R_drew HO_8.out)
                      replace BK164 := asd (blk_drew BK164.out)
                      replace BK165 := asd (blk_drew BK165.out)
                      replace HB := asd (below_drew1 HB.out)
                      refine start_ (n := 13) (S := fun w' => True) (ds := []) (bT 13 0) (by kernel_rfl) rfl rfl trivial (fun hHeld => ?_); refine with_tabW spec_FillFrieze.tab25 spec_FillFrieze.bits25 (fun HT_ HW_ => ?_)
                      generalize w76.drew = w77 at HO_6 HO_8 BK164 BK165 HB hHeld ⊢
                      refine pu 0 (some 109) (bT 13 1) HT_ ?_
                      refine pu 1 (some 110) (bT 13 2) HT_ ?_
                      refine pf 2 (some 111) (bT 13 3) HT_ ?_
                      refine pf 3 (some 112) (bT 13 4) HT_ ?_
                      refine pf 4 (some 113) (bT 13 5) HT_ ?_
                      refine pf 5 (some 114) (bT 13 6) HT_ ?_
                      refine pf 6 (some 115) (bT 13 7) HT_ ?_
                      refine pf 7 (some 116) (bT 13 8) HT_ ?_
                      refine pf 8 (some 117) (bT 13 9) HT_ ?_
                      refine pf 9 (some 118) (bT 13 10) HT_ ?_
                      refine pf 10 (some 119) (bT 13 11) HT_ ?_
                      refine pu 11 (some 120) (bT 13 12) HT_ ?_
                      refine pu 12 (some 10) (bT 13 13) HT_ ?_
                      refine done_ (done_of HT_.out (by kernel_rfl)) ?_
                      have p70 : 0 ≤ ((ji63) : Int) := od
                      have q70 : ((ji63) : Int) < ((x8_5.length : Int) : Int) := od
                      obtain ⟨go70, co70, eo70, gb70, gl70, cl70, HG70⟩ := Kd.R_form HO_8.out (by omega)
                      (first | cases eo70 | (injection eo70 with ea_ en_ ec_; (first | subst ea_ | (injection ea_ with ea_; subst ea_)); subst ec_; clear en_))
                      have GB70 := Aside0.mk gb70
                      have GG70 := Aside0.mk HG70
                      clear gb70 gl70 HG70
                      (first | simp only [add_plain] at hx181_0 | skip)
                      (first | simp only [add_plain] at hx182_0 | skip)
                      obtain ⟨hx70_0, hf70_0⟩ := Kd.R_celln 0 HO_8.out ((ji63) : Int) p70 q70
                      replace p70 := eq_true p70
                      replace q70 := eq_true q70
                      obtain ⟨hy78_, hz78_⟩ := Kd.R_celln 0 HO_8.out ((ji63) : Int) (od) (od)
                      have HP78 := Kd.R_putg HO_8.out ((ji63) : Int) ji68
                      try go_wp2_with (first | ((with_reducible refine gate_store (t := 2) (p := 124) rfl ?_); refine store_event (t := 2) (p := 124) (v := ?vo_w79) (w1 := (w77.setCell ⟨go70, ((ji63) : Int).toNat, none⟩ (.int .i64 ji68))) ?hg ?ho ?hn ?hr ?_; (case ho => rfl); (case hg => rfl); (case hn => rfl); (case hr => first | (go_simp; done) | (go_simp; rfl)); intro w79 hw; have hg : w77.grownBy w79 (some go70) := (by rw [hw]; exact HP78.2); have hp_ : Kd.R (Kd.int .i64) 2 w79 w.heap.size (fun _ => True) (.slice (some ⟨go70, 0, none⟩) x8_5.length co57) y183 := (by rw [hw, Ny183.out]; exact HP78.1); clear HP78; replace HO_6 := asd (Kd.R_over' (v := (.slice (some ⟨go70, 0, none⟩) x8_5.length co57)) (kr HO_6) (Kd.R_typed HO_8.out) (by decide) hg); replace BK164 := asd (blk_grown (g := gb164) (o := .cells #[.int .i64 a0_0, .int .i64 a0_1, .slice A0_2 l0_2.length c0_2] 28 (0, 0)) (bkp BK164) hg (Kd.R_ne HO_8.out BK164.out (by decide))); replace BK165 := asd (blk_grown (g := gb165) (o := .cells #[.int .i64 x166000_3, .int .i64 x166001_3, .slice none 0 0] 28 (0, 0)) (bkp BK165) hg (Kd.R_ne HO_8.out BK165.out (by decide))); replace HO_8 := asd (hp_); replace HB := asd ((by rw [hw]; exact below_set (HB.out) GB70.out : Below w.heap.size w w79)); clear hg hw hp_; have p71 : 0 ≤ (x11_4 : Int) := od; have q71 : (x11_4 : Int) < ((x8_5.length : Int) : Int) := od; obtain ⟨hx71_0, hf71_0⟩ := Kd.R_celln 0 HO_8.out (x11_4 : Int) p71 q71; replace p71 := eq_true p71; replace q71 := eq_true q71; obtain ⟨hy80_, hz80_⟩ := Kd.R_celln 0 HO_8.out (x11_4 : Int) (od) (od); have HP80 := Kd.R_putg HO_8.out (x11_4 : Int) ji68) | ((with_reducible refine gate_store (t := 2) (p := 128) rfl ?_); refine store_event (t := 2) (p := 128) (v := ?vo_w81) (w1 := (w79.setCell ⟨go70, (x11_4 : Int).toNat, none⟩ (.int .i64 ji68))) ?hg ?ho ?hn ?hr ?_; (case ho => rfl); (case hg => rfl); (case hn => rfl); (case hr => first | (go_simp; done) | (go_simp; rfl)); intro w81 hw; have hg : w79.grownBy w81 (some go70) := (by rw [hw]; exact HP80.2); have hp_ : Kd.R (Kd.int .i64) 2 w81 w.heap.size (fun _ => True) (.slice (some ⟨go70, 0, none⟩) x8_5.length co57) y184 := (by rw [hw, Ny184.out]; exact HP80.1); clear HP80; replace HO_6 := asd (Kd.R_over' (v := (.slice (some ⟨go70, 0, none⟩) x8_5.length co57)) (kr HO_6) (Kd.R_typed HO_8.out) (by decide) hg); replace BK164 := asd (blk_grown (g := gb164) (o := .cells #[.int .i64 a0_0, .int .i64 a0_1, .slice A0_2 l0_2.length c0_2] 28 (0, 0)) (bkp BK164) hg (Kd.R_ne HO_8.out BK164.out (by decide))); replace BK165 := asd (blk_grown (g := gb165) (o := .cells #[.int .i64 x166000_3, .int .i64 x166001_3, .slice none 0 0] 28 (0, 0)) (bkp BK165) hg (Kd.R_ne HO_8.out BK165.out (by decide))); replace HO_8 := asd (hp_); replace HB := asd ((by rw [hw]; exact below_set (HB.out) GB70.out : Below w.heap.size w w81)); clear hg hw hp_))
                      (try simp only [← hl8_5])
                      go_roundg k5
                      case measure => have := HJ3.out; have := HK2.out; have := HK3.out; have := HK4.out; have := HK5.out; omega
                      case rel => exact ⟨(y184), (true), (wrap64 (x12_5 + 1)), (by first | rfl | (simp; done) | (simp [*]; done)), (by first | rfl | (simp; done) | (simp [*]; done)), H', ⟨by have := HJ3.out; have := HK2.out; have := HK3.out; have := HK4.out; have := HK5.out; omega⟩, ⟨by (try simp only [hl8_5]); (with_reducible repeat (first | apply Kd.R_alloc | apply Kd.R_drewN | apply Kd.R_drew)); exact HO_6.out⟩, ⟨by (try simp only [hl8_5]); (with_reducible repeat (first | apply Kd.R_alloc | apply Kd.R_drewN | apply Kd.R_drew)); exact HO_8.out⟩, ⟨by (try simp only [hl8_5]); (with_reducible repeat (first | refine blk_drewN ?_ _ | refine blk_drew ?_ | refine blk_alloc ?_ _)); exact BK164.out⟩, ⟨by (try simp only [hl8_5]); (with_reducible repeat (first | refine blk_drewN ?_ _ | refine blk_drew ?_ | refine blk_alloc ?_ _)); exact BK165.out⟩, ⟨bbw2 HB GE164 GE165⟩⟩
                     ·replace c69 := Bool.eq_false_iff.mpr c69
                      subst c69
                      replace H := ifF H
                      obtain ⟨y187, hy187⟩ : ∃ y_ : List Int, y_ = (x8_5.set ((ji63) : Int).toNat (ji68)) := ⟨_, rfl⟩
                      replace H : (spec_FillFrieze.l3 k5 t166 (y187.set (x11_4 : Int).toNat (ji68)) ((rd x8_5 (ji63)) != (rd x8_5 x11_4)) x11_4 (wrap64 (x12_5 + 1)) a0_0 a0_1 l0_2) = some (r1, r2, r3, r4) := by first | (rw [hy187]; with_reducible exact H) | (have H2_ := (Option.bind_some _ _).symm.trans H; rw [hy187]; with_reducible exact H2_) | (have H2_ := (Option.bind_some _ _).symm.trans H; with_reducible exact H2_) | with_reducible exact H | (rw [hy187]; exact H) | exact H
                      have Ny187 := Aside0.mk hy187
                      clear hy187
                      obtain ⟨y188, hy188⟩ : ∃ y_ : List Int, y_ = (y187.set (x11_4 : Int).toNat (ji68)) := ⟨_, rfl⟩
                      replace H : (spec_FillFrieze.l3 k5 t166 y188 ((rd x8_5 (ji63)) != (rd x8_5 x11_4)) x11_4 (wrap64 (x12_5 + 1)) a0_0 a0_1 l0_2) = some (r1, r2, r3, r4) := by first | (rw [hy188]; with_reducible exact H) | (have H2_ := (Option.bind_some _ _).symm.trans H; rw [hy188]; with_reducible exact H2_) | (have H2_ := (Option.bind_some _ _).symm.trans H; with_reducible exact H2_) | with_reducible exact H | (rw [hy188]; exact H) | exact H
                      have Ny188 := Aside0.mk hy188
                      clear hy188
                      have H' := Aside0.mk H
                      clear H
                      obtain ⟨Ao84, co84, eo84⟩ := Kd.R_slice HO_6.out
                      subst eo84
                      try go_wp2
                      replace HO_6 := asd (Kd.R_drew HO_6.out)
                      replace HO_8 := asd (Kd.R_drew HO_8.out)
                      replace BK164 := asd (blk_drew BK164.out)
                      replace BK165 := asd (blk_drew BK165.out)
                      replace HB := asd (below_drew1 HB.out)
                      have p177 : 0 ≤ (x12_5 : Int) := od
                      have q177 : x12_5 < (t166.length : Int) := od
                      obtain ⟨ad177, e177, hx177_0, hx177_1, hx177_2⟩ := at_T84 (Kd.R_reads' HO_6.out).2.2 x12_5 p177 q177
                      cases e177
                      replace p177 := eq_true p177
                      replace q177 := eq_true q177
                      refine sh 19 (cb3 BK164 (c1 hx177_0 (c1 hx177_1 (e1 hx177_2)))) (fun hHeld => ?_); refine with_tabW spec_FillFrieze.tab22 spec_FillFrieze.bits22 (fun HT_ HW_ => ?_)
                      generalize wr.drew = w85 at HO_6 HO_8 BK164 BK165 HB hx177_0 hx177_1 hx177_2 hHeld ⊢
                      refine pu 1 (some 76) (bs 19 2) HT_ ?_
                      refine pu 2 (some 77) (bs 19 6) HT_ ?_
                      refine pu 3 (some 78) (bs 19 14) HT_ ?_
                      refine pu 5 (some 80) (bs 19 46) HT_ ?_
                      refine pu 6 (some 81) (bs 19 110) HT_ ?_
                      refine pu 9 (some 84) (bs 19 622) HT_ ?_
                      refine pu 10 (some 85) (bs 19 1646) HT_ ?_
                      refine ta 0 (some 75) (bs 19 1647) HT_ HW_ hHeld ?_
                      refine ta 4 (some 79) (bs 19 1663) HT_ HW_ hHeld ?_
                      refine ta 7 (some 82) (bs 19 1791) HT_ HW_ hHeld ?_
                      refine pu 8 (some 83) (bT 19 11) HT_ ?_
                      refine ta 11 (some 86) (bT 19 12) HT_ HW_ hHeld ?_
                      refine pu 12 (some 87) (bT 19 13) HT_ ?_
                      refine ro 13 (some 88) (bT 19 14) HT_ (fun K hK => ?_)
                      refine gs Tryd.func50 #[.agg #[.int .i64 a0_0, .int .i64 a0_1, .slice A0_2 l0_2.length c0_2], .agg #[.bool ((rd_T84 t166 x12_5).f0), .bool ((rd_T84 t166 x12_5).f1), .int .i64 ((rd_T84 t166 x12_5).f2)], .int .i64 (Int.tmod x11_4 a0_1), .int .i64 (wrap64 (Int.tdiv x11_4 a0_1))] ?_
                      with_reducible refine (spec_l08Image.calls _ _ _ _ _ _ _ _ _ _ _ _ _ ?side1 ?side2 A61.out).mono ?_
                      (case side1 => exact ks (Kd.C_below HR0_2.out HB.out))
                      (case side2 => exact HC0_2.out)
                      rintro e w86 ⟨rfl, hb⟩
                      have HS3_ := (hb.cell (World.block_lt_of_cell? _ _ (hHeld.2.2.2.1))).trans (hHeld.2.2.2.1)
                      have HS4_ := (hb.cell (World.block_lt_of_cell? _ _ (hHeld.2.2.2.2.1))).trans (hHeld.2.2.2.2.1)
                      have HS5_ := (hb.cell (World.block_lt_of_cell? _ _ (hHeld.2.2.2.2.2))).trans (hHeld.2.2.2.2.2)
                      refine ⟨_, rfl, ?_⟩
                      replace HO_6 := asd (Kd.R_below (kr HO_6) hb)
                      replace HO_8 := asd (Kd.R_below (kr HO_8) hb)
                      replace BK164 := bB BK164 hb
                      replace BK165 := bB BK165 hb
                      replace HB := bS2 HB GE164 GE165 hb
                      (try clear hb)
                      (try clear hb2)
                      (try clear hk)
                      (try clear hi)
                      refine hK.out _ _ ⟨bcl BK164 0, bcl BK164 1, bcl BK164 2, HS3_, HS4_, HS5_⟩ (fun hHeld => ?_)
                      clear hK K
                      refine norm_ (a' := ?_) ?_ ?_
                      rotate_left
                      ·show Act.put _ (some 88) _ = _
                       simp only [Act.put, sA, sB, sC, i64_w, i32_w]
                       rfl
                      refine pu 14 (some 74) (bT 19 15) HT_ ?_
                      refine pu 15 (some 89) (bT 19 16) HT_ ?_
                      refine pu 16 (some 90) (bT 19 17) HT_ ?_
                      refine pu 17 (some 13) (bT 19 18) HT_ ?_
                      refine pu 18 (some 14) (bT 19 19) HT_ ?_
                      refine done_ (done_of HT_.out (by kernel_rfl)) ?_
                      try go_wp2
                      replace HO_6 := asd (Kd.R_drew HO_6.out)
                      replace HO_8 := asd (Kd.R_drew HO_8.out)
                      replace BK164 := asd (blk_drew BK164.out)
                      replace BK165 := asd (blk_drew BK165.out)
                      replace HB := asd (below_drew1 HB.out)
                      refine sh 10 (eb3 BK164) (fun hHeld => ?_); refine with_tabW spec_FillFrieze.tab23 spec_FillFrieze.bits23 (fun HT_ HW_ => ?_)
                      generalize w86.drew = w87 at HO_6 HO_8 BK164 BK165 HB hHeld ⊢
                      refine pu 0 (some 91) (bT 10 1) HT_ ?_
                      refine pu 1 (some 92) (bT 10 2) HT_ ?_
                      refine pu 4 (some 95) (bs 10 19) HT_ ?_
                      refine pu 5 (some 96) (bs 10 51) HT_ ?_
                      refine ta 2 (some 93) (bs 10 55) HT_ HW_ hHeld ?_
                      refine pu 3 (some 94) (bT 10 6) HT_ ?_
                      refine ta 6 (some 97) (bT 10 7) HT_ HW_ hHeld ?_
                      refine ro 7 (some 98) (bT 10 8) HT_ (fun K hK => ?_)
                      refine gs Tryd.func51 #[.int .i64 t178, .int .i64 a0_1] ?_
                      with_reducible refine (spec_l01Mod.calls _ _ _ _ A62.out).mono ?_
                      rintro e w' ⟨rfl, ⟨nd, rfl⟩⟩
                      refine ⟨_, rfl, ?_⟩
                      refine hK.out _ _ (eb3 BK164).out (fun hHeld => ?_)
                      clear hK K
                      refine norm_ (a' := ?_) ?_ ?_
                      rotate_left
                      ·show Act.put _ (some 98) _ = _
                       simp only [Act.put, sA, sB, sC, i64_w, i32_w]
                       rfl
                      refine pu 8 (some 99) (bT 10 9) HT_ ?_
                      refine pu 9 (some 15) (bT 10 10) HT_ ?_
                      refine done_ (done_of HT_.out (by kernel_rfl)) ?_
                      try go_wp2
                      (try (rw [drewN_self w87]; generalize hq_ : World.drewN w87 _ = w87; have n0_ : Aside0 (Kd.R k84 84 w87 w.heap.size (fun _ => True) (.slice (some ad177) t166.length co84) t166) := ⟨by rw [← hq_]; exact (kr HO_6)⟩; have n1_ : Aside0 (Kd.R (Kd.int .i64) 2 w87 w.heap.size (fun _ => True) (.slice Ao57 x8_5.length co57) x8_5) := ⟨by rw [← hq_]; exact (kr HO_8)⟩; have n2_ : Aside0 (w87.heap[gb164]? = some (.cells #[.int .i64 a0_0, .int .i64 a0_1, .slice A0_2 l0_2.length c0_2] 28 (0, 0))) := ⟨by rw [← hq_]; exact (bkp BK164)⟩; have n3_ : Aside0 (w87.heap[gb165]? = some (.cells #[.int .i64 x166000_3, .int .i64 x166001_3, .slice none 0 0] 28 (0, 0))) := ⟨by rw [← hq_]; exact (bkp BK165)⟩; have n4_ : Aside0 (Below w.heap.size w w87) := ⟨by rw [← hq_]; exact (bbw2 HB GE164 GE165)⟩; clear HO_6 HO_8 BK164 BK165 HB hq_; have HO_6 := n0_; have HO_8 := n1_; have BK164 := n2_; have BK165 := n3_; have HB := n4_; clear n0_ n1_ n2_ n3_ n4_))
                      replace HO_6 := asd (Kd.R_drew HO_6.out)
                      replace HO_8 := asd (Kd.R_drew HO_8.out)
                      replace BK164 := asd (blk_drew BK164.out)
                      replace BK165 := asd (blk_drew BK165.out)
                      replace HB := asd (below_drew1 HB.out)
                      have p181 : 0 ≤ ((ji63) : Int) := od
                      have q181 : (ji63) < (x8_5.length : Int) := od
                      obtain ⟨ad181, e181, hx181_0⟩ := Kd.at_int (Kd.R_reads' HO_8.out).2.2 (ji63) p181 q181
                      cases e181
                      replace p181 := eq_true p181
                      replace q181 := eq_true q181
                      have p182 : 0 ≤ (x11_4 : Int) := od
                      have q182 : x11_4 < (x8_5.length : Int) := od
                      obtain ⟨ad182, e182, hx182_0⟩ := Kd.at_int (Kd.R_reads' HO_8.out).2.2 x11_4 p182 q182
                      obtain rfl : ad181 = ad182 := (by injection e182)
                      replace p182 := eq_true p182
                      replace q182 := eq_true q182
                      refine sh 10 (c1 hx181_0 (e1 hx182_0)) (fun hHeld => ?_); refine with_tabW spec_FillFrieze.tab24 spec_FillFrieze.bits24 (fun HT_ HW_ => ?_)
                      generalize w87.drew = w88 at HO_6 HO_8 BK164 BK165 HB hx181_0 hx182_0 hHeld ⊢
                      refine pu 0 (some 100) (bT 10 1) HT_ ?_
                      refine pu 1 (some 101) (bT 10 2) HT_ ?_
                      refine pu 2 (some 102) (bT 10 3) HT_ ?_
                      refine pu 4 (some 104) (bs 10 23) HT_ ?_
                      refine pu 5 (some 105) (bs 10 55) HT_ ?_
                      refine pu 6 (some 106) (bs 10 119) HT_ ?_
                      refine ta 3 (some 103) (bT 10 7) HT_ HW_ hHeld ?_
                      refine ta 7 (some 107) (bT 10 8) HT_ HW_ hHeld ?_
                      refine pu 8 (some 108) (bT 10 9) HT_ ?_
                      refine pu 9 (some 16) (bT 10 10) HT_ ?_
                      refine done_ (done_of HT_.out (by kernel_rfl)) ?_
                      try go_wp2
                      replace HO_6 := asd (Kd.R_drew HO_6.out)
                      replace HO_8 := asd (Kd.R_drew HO_8.out)
                      replace BK164 := asd (blk_drew BK164.out)
                      replace BK165 := asd (blk_drew BK165.out)
                      replace HB := asd (below_drew1 HB.out)
                      have p185 : 0 ≤ ((ji63) : Int) := od
                      have q185 : (ji63) < (x8_5.length : Int) := od
                      obtain ⟨ad185, e185, hx185_0⟩ := Kd.at_int (Kd.R_reads' HO_8.out).2.2 (ji63) p185 q185
                      obtain rfl : ad181 = ad185 := (by injection e185)
                      replace p185 := eq_true p185
                      replace q185 := eq_true q185
                      have p186 : 0 ≤ (x11_4 : Int) := od
                      have q186 : x11_4 < (x8_5.length : Int) := od
                      obtain ⟨ad186, e186, hx186_0⟩ := Kd.at_int (Kd.R_reads' HO_8.out).2.2 x11_4 p186 q186
                      obtain rfl : ad181 = ad186 := (by injection e186)
                      replace p186 := eq_true p186
                      replace q186 := eq_true q186
                      refine sh 13 (c1 hx185_0 (e1 hx186_0)) (fun hHeld => ?_); refine with_tabW spec_FillFrieze.tab25 spec_FillFrieze.bits25 (fun HT_ HW_ => ?_)
                      generalize w88.drew = w89 at HO_6 HO_8 BK164 BK165 HB hx185_0 hx186_0 hHeld ⊢
                      refine pu 0 (some 109) (bT 13 1) HT_ ?_
                      refine pu 1 (some 110) (bT 13 2) HT_ ?_
                      refine pu 2 (some 111) (bT 13 3) HT_ ?_
                      refine pu 3 (some 112) (bT 13 4) HT_ ?_
                      refine pu 4 (some 113) (bT 13 5) HT_ ?_
                      refine pu 6 (some 115) (bs 13 95) HT_ ?_
                      refine pu 7 (some 116) (bs 13 223) HT_ ?_
                      refine pu 8 (some 117) (bs 13 479) HT_ ?_
                      refine ta 5 (some 114) (bT 13 9) HT_ HW_ hHeld ?_
                      refine ta 9 (some 118) (bT 13 10) HT_ HW_ hHeld ?_
                      refine pu 10 (some 119) (bT 13 11) HT_ ?_
                      refine pu 11 (some 120) (bT 13 12) HT_ ?_
                      refine pu 12 (some 10) (bT 13 13) HT_ ?_
                      refine done_ (done_of HT_.out (by kernel_rfl)) ?_
                      have p82 : 0 ≤ ((ji63) : Int) := od
                      have q82 : ((ji63) : Int) < ((x8_5.length : Int) : Int) := od
                      obtain ⟨go82, co82, eo82, gb82, gl82, cl82, HG82⟩ := Kd.R_form HO_8.out (by omega)
                      (first | cases eo82 | (injection eo82 with ea_ en_ ec_; (first | subst ea_ | (injection ea_ with ea_; subst ea_)); subst ec_; clear en_))
                      have GB82 := Aside0.mk gb82
                      have GG82 := Aside0.mk HG82
                      clear gb82 gl82 HG82
                      (first | simp only [add_plain] at hx181_0 | skip)
                      (first | simp only [add_plain] at hx182_0 | skip)
                      (first | simp only [add_plain] at hx185_0 | skip)
                      (first | simp only [add_plain] at hx186_0 | skip)
                      obtain ⟨hx82_0, hf82_0⟩ := Kd.R_celln 0 HO_8.out ((ji63) : Int) p82 q82
                      replace p82 := eq_true p82
                      replace q82 := eq_true q82
                      obtain ⟨hy90_, hz90_⟩ := Kd.R_celln 0 HO_8.out ((ji63) : Int) (od) (od)
                      have HP90 := Kd.R_putg HO_8.out ((ji63) : Int) ji68
                      try go_wp2_with (first | ((with_reducible refine gate_store (t := 2) (p := 124) rfl ?_); refine store_event (t := 2) (p := 124) (v := ?vo_w91) (w1 := (w89.setCell ⟨go82, ((ji63) : Int).toNat, none⟩ (.int .i64 ji68))) ?hg ?ho ?hn ?hr ?_; (case ho => rfl); (case hg => rfl); (case hn => rfl); (case hr => first | (go_simp; done) | (go_simp; rfl)); intro w91 hw; have hg : w89.grownBy w91 (some go82) := (by rw [hw]; exact HP90.2); have hp_ : Kd.R (Kd.int .i64) 2 w91 w.heap.size (fun _ => True) (.slice (some ⟨go82, 0, none⟩) x8_5.length co57) y187 := (by rw [hw, Ny187.out]; exact HP90.1); clear HP90; replace HO_6 := asd (Kd.R_over' (v := (.slice (some ⟨go82, 0, none⟩) x8_5.length co57)) (kr HO_6) (Kd.R_typed HO_8.out) (by decide) hg); replace BK164 := asd (blk_grown (g := gb164) (o := .cells #[.int .i64 a0_0, .int .i64 a0_1, .slice A0_2 l0_2.length c0_2] 28 (0, 0)) (bkp BK164) hg (Kd.R_ne HO_8.out BK164.out (by decide))); replace BK165 := asd (blk_grown (g := gb165) (o := .cells #[.int .i64 x166000_3, .int .i64 x166001_3, .slice none 0 0] 28 (0, 0)) (bkp BK165) hg (Kd.R_ne HO_8.out BK165.out (by decide))); replace HO_8 := asd (hp_); replace HB := asd ((by rw [hw]; exact below_set (HB.out) GB82.out : Below w.heap.size w w91)); clear hg hw hp_; have p83 : 0 ≤ (x11_4 : Int) := od; have q83 : (x11_4 : Int) < ((x8_5.length : Int) : Int) := od; obtain ⟨hx83_0, hf83_0⟩ := Kd.R_celln 0 HO_8.out (x11_4 : Int) p83 q83; replace p83 := eq_true p83; replace q83 := eq_true q83; obtain ⟨hy92_, hz92_⟩ := Kd.R_celln 0 HO_8.out (x11_4 : Int) (od) (od); have HP92 := Kd.R_putg HO_8.out (x11_4 : Int) ji68) | ((with_reducible refine gate_store (t := 2) (p := 128) rfl ?_); refine store_event (t := 2) (p := 128) (v := ?vo_w93) (w1 := (w91.setCell ⟨go82, (x11_4 : Int).toNat, none⟩ (.int .i64 ji68))) ?hg ?ho ?hn ?hr ?_; (case ho => rfl); (case hg => rfl); (case hn => rfl); (case hr => first | (go_simp; done) | (go_simp; rfl)); intro w93 hw; have hg : w91.grownBy w93 (some go82) := (by rw [hw]; exact HP92.2); have hp_ : Kd.R (Kd.int .i64) 2 w93 w.heap.size (fun _ => True) (.slice (some ⟨go82, 0, none⟩) x8_5.length co57) y188 := (by rw [hw, Ny188.out]; exact HP92.1); clear HP92; replace HO_6 := asd (Kd.R_over' (v := (.slice (some ⟨go82, 0, none⟩) x8_5.length co57)) (kr HO_6) (Kd.R_typed HO_8.out) (by decide) hg); replace BK164 := asd (blk_grown (g := gb164) (o := .cells #[.int .i64 a0_0, .int .i64 a0_1, .slice A0_2 l0_2.length c0_2] 28 (0, 0)) (bkp BK164) hg (Kd.R_ne HO_8.out BK164.out (by decide))); replace BK165 := asd (blk_grown (g := gb165) (o := .cells #[.int .i64 x166000_3, .int .i64 x166001_3, .slice none 0 0] 28 (0, 0)) (bkp BK165) hg (Kd.R_ne HO_8.out BK165.out (by decide))); replace HO_8 := asd (hp_); replace HB := asd ((by rw [hw]; exact below_set (HB.out) GB82.out : Below w.heap.size w w93)); clear hg hw hp_))
                      (try simp only [← hl8_5])
                      go_roundg k5
                      case measure => have := HJ3.out; have := HK2.out; have := HK3.out; have := HK4.out; have := HK5.out; omega
                      case rel => exact ⟨(y188), (((rd x8_5 (ji63)) != (rd x8_5 x11_4))), (wrap64 (x12_5 + 1)), (by first | rfl | (simp; done) | (simp only [← hji63] <;> (first | rfl | simp)) | (simp [*]; done)), (by first | rfl | (simp; done) | (simp [*]; done)), H', ⟨by have := HJ3.out; have := HK2.out; have := HK3.out; have := HK4.out; have := HK5.out; omega⟩, ⟨by (try simp only [hl8_5]); (with_reducible repeat (first | apply Kd.R_alloc | apply Kd.R_drewN | apply Kd.R_drew)); exact HO_6.out⟩, ⟨by (try simp only [hl8_5]); (with_reducible repeat (first | apply Kd.R_alloc | apply Kd.R_drewN | apply Kd.R_drew)); exact HO_8.out⟩, ⟨by (try simp only [hl8_5]); (with_reducible repeat (first | refine blk_drewN ?_ _ | refine blk_drew ?_ | refine blk_alloc ?_ _)); exact BK164.out⟩, ⟨by (try simp only [hl8_5]); (with_reducible repeat (first | refine blk_drewN ?_ _ | refine blk_drew ?_ | refine blk_alloc ?_ _)); exact BK165.out⟩, ⟨bbw2 HB GE164 GE165⟩⟩
                    ·rw [if_neg c67] at H
                     exact absurd H (by simp)
                   ·rw [if_neg c66] at H
                    exact absurd H (by simp)
                  ·rw [if_neg c65] at H
                   exact absurd H (by simp)
                 ·rw [if_neg c64] at H
                  exact absurd H (by simp)
               ·rw [if_neg c59] at H
                exact absurd H (by simp)
              ·rw [if_neg c58] at H
               have c58b0 := decide_eq_false c58
               clear c58
               have H' := Aside0.mk H
               clear H
               obtain ⟨Ao94, co94, eo94⟩ := Kd.R_slice HO_6.out
               subst eo94
               go_wp2
               (try simp only [← hl8_5])
               go_roundg k5
               case measure => have := HJ3.out; have := HK2.out; have := HK3.out; have := HK4.out; have := HK5.out; omega
               case rel => exact ⟨(x8_5), (x10_5), (wrap64 (x11_4 + 1)), (by first | rfl | (simp; done) | (simp [*]; done)), (by first | rfl | (simp; done) | (simp [*]; done)), H', ⟨by have := HJ3.out; have := HK2.out; have := HK3.out; have := HK4.out; have := HK5.out; omega⟩, ⟨by (try simp only [hl8_5]); (with_reducible repeat (first | apply Kd.R_alloc | apply Kd.R_drewN | apply Kd.R_drew)); exact HO_6.out⟩, ⟨by (try simp only [hl8_5]); (with_reducible repeat (first | apply Kd.R_alloc | apply Kd.R_drewN | apply Kd.R_drew)); exact HO_8.out⟩, ⟨by (try simp only [hl8_5]); (with_reducible repeat (first | refine blk_drewN ?_ _ | refine blk_drew ?_ | refine blk_alloc ?_ _)); exact BK164.out⟩, ⟨by (try simp only [hl8_5]); (with_reducible repeat (first | refine blk_drewN ?_ _ | refine blk_drew ?_ | refine blk_alloc ?_ _)); exact BK165.out⟩, ⟨bbw2 HB GE164 GE165⟩⟩
           ·rw [if_neg c56] at H
            have c56b0 := decide_eq_false c56
            clear c56
            have H' := Aside0.mk H
            clear H
            obtain ⟨Ao95, co95, eo95⟩ := Kd.R_slice HO_8.out
            subst eo95
            go_wp2
            go_roundg k4
            case measure => have := HJ3.out; have := HK2.out; have := HK3.out; have := HK4.out; omega
            case rel => exact ⟨(x8_4), (x10_4), (by first | rfl | (simp; done) | (simp [*]; done)), H', ⟨by have := HJ3.out; have := HK2.out; have := HK3.out; have := HK4.out; omega⟩, ⟨by (with_reducible repeat (first | apply Kd.R_alloc | apply Kd.R_drewN | apply Kd.R_drew)); exact HO_6.out⟩, ⟨by (with_reducible repeat (first | apply Kd.R_alloc | apply Kd.R_drewN | apply Kd.R_drew)); exact HO_8.out⟩, ⟨bkp BK164⟩, ⟨bkp BK165⟩, ⟨bbw2 HB GE164 GE165⟩⟩
        ·replace c55 := Bool.eq_false_iff.mpr c55
         subst c55
         replace H := ifF H
         obtain ⟨y189, hy189⟩ : ∃ y_ : List Int, y_ = (([] : List Int)) := ⟨_, rfl⟩
         replace H : (spec_FillFrieze.l4 k3 x8_3 0 a0_0 a0_1 l0_2 a0_0 a0_1 y189) = some (r1, r2, r3, r4) := by first | (rw [hy189]; with_reducible exact H) | (have H2_ := (Option.bind_some _ _).symm.trans H; rw [hy189]; with_reducible exact H2_) | (have H2_ := (Option.bind_some _ _).symm.trans H; with_reducible exact H2_) | with_reducible exact H | (rw [hy189]; exact H) | exact H
         have Ny189 := Aside0.mk hy189
         clear hy189
         have H' := Aside0.mk H
         clear H
         have hnb96 := NB164_165.out
         have hnc96 := NB165_164.out
         obtain ⟨hcz97_0, hcz97_1, hcz97_2, hfz97_0, hfz97_1, hfz97_2⟩ := bz3 BK164
         go_wp2_with (first | ((with_reducible refine gd 133 rfl ?_); refine Kd.R_lit (Kd.int .i64) _ 2 ?hg (N := 133) ?hd (xs := ([] : List Int)) (inner := []) (ok := fun _ => True) (okp := fun _ => True) ?hr ?hp (fun _ hk => hk) trivial (Below.refl _ _) (Nat.le_refl _) (by simp) ?_; (case hd => rfl); (case hg => rfl); (case hr => first | (go_simp; done) | (go_simp; rfl)); (case hp => exact (Reps.none _ _)); intro v190 w98 ho99 hb hg_ hnew_; clear hg_ hnew_; (first | rw [← Ny189.out] at ho99 | (simp only [Int.reduceToNat] at ho99; rw [← Ny189.out] at ho99)); replace HO_6 := asd (Kd.R_below (kr HO_6) hb); have HO191 := asd (Kd.R_lower (Kd.R_new' ho99 (Kd.R_lt (kr HO_8))) (bsz2 HB GE164 GE165)); replace HO_8 := asd (Kd.R_elder' (kr HO_8) (Kd.R_base ho99) hb); replace BK164 := bB BK164 hb; replace BK165 := bB BK165 hb; replace HB := bS2 HB GE164 GE165 hb; clear hb ho99; obtain ⟨Ao100, co100, eo100⟩ := Kd.R_slice HO191.out; subst eo100) | ((with_reducible refine gd 17 rfl ?_); refine bx #[.int .i64 0, .int .i64 0, .slice none 0 0] 28 ?_; intro gb192 hg w101 BK192 hb; replace HO_6 := asd (Kd.R_below (kr HO_6) hb); replace HO_8 := asd (Kd.R_below (kr HO_8) hb); replace HO191 := asd (Kd.R_below (kr HO191) hb); have GE192 := ngw2 hg HB GE164 GE165; replace HB := bS2 HB GE164 GE165 hb; have NB164_192 := nlt hg BK164; have NB192_164 := nsy (nlt hg BK164); replace BK164 := bB BK164 hb; have NB165_192 := nlt hg BK165; have NB192_165 := nsy (nlt hg BK165); replace BK165 := bB BK165 hb; clear hb hg; have hnb102 := NB192_164.out; have hnc102 := NB164_192.out; have hnb103 := NB192_165.out; have hnc103 := NB165_192.out; obtain ⟨hcz104_0, hcz104_1, hcz104_2, hfz104_0, hfz104_1, hfz104_2⟩ := bz3 BK192))
         go_loopg [18] k3 (fun kq v18 w' => ∃ (x18_4 : Int) (x193002_4 : List Int) (u193002 : Value), v18 = .int .i64 x18_4 ∧ Aside0 (spec_FillFrieze.l4 kq x8_3 x18_4 a0_0 a0_1 l0_2 a0_0 a0_1 x193002_4 = some (r1, r2, r3, r4)) ∧ Aside0 (kq ≤ k3) ∧ Aside0 (Kd.R (Kd.int .i64) 2 w' w.heap.size (fun k_ => some k_ ≠ (u193002 : Value).ownBlock) u8 x8_3) ∧ Aside0 (Kd.R (Kd.int .i64) 2 w' w.heap.size (fun k_ => some k_ ≠ (u8 : Value).ownBlock) u193002 x193002_4) ∧ Aside0 (w'.heap[gb164]? = some (.cells #[.int .i64 a0_0, .int .i64 a0_1, (.slice A0_2 l0_2.length c0_2)] 28 (0, 0))) ∧ Aside0 (w'.heap[gb165]? = some (.cells #[.int .i64 x166000_3, .int .i64 x166001_3, (.slice none 0 0)] 28 (0, 0))) ∧ Aside0 (w'.heap[gb192]? = some (.cells #[.int .i64 a0_0, .int .i64 a0_1, u193002] 28 (0, 0))) ∧ Aside0 (Below w.heap.size w w'))
         case atStart => exact ⟨(0), (y189), (.slice Ao100 y189.length co100), (by first | rfl | (simp; done) | (simp [*]; done)), H', ⟨Nat.le_refl _⟩, ⟨by (with_reducible repeat (first | apply Kd.R_alloc | apply Kd.R_drewN | apply Kd.R_drew)); exact Kd.R_mono (rw3 (Kd.R_types HO_8.out BK192.out (by decide))) (fun _ hk => hk.1.2)⟩, ⟨by (with_reducible repeat (first | apply Kd.R_alloc | apply Kd.R_drewN | apply Kd.R_drew)); exact Kd.R_mono (rw3 (Kd.R_types HO191.out BK192.out (by decide))) (fun _ hk => hk.1.2)⟩, ⟨bq1 BK164 NB164_192⟩, ⟨bq1 BK165 NB165_192⟩, ⟨bq0 BK192⟩, ⟨bbw3 HB GE164 GE165 GE192⟩⟩
         case round =>
          clear H'
          try clear c1
          try clear p1
          try clear q1
          try clear hx1
          try clear p2
          try clear c5
          try clear c6
          try clear p6
          try clear p8
          try clear q8
          try clear hx8
          try clear hf8
          try clear c9
          try clear c10
          try clear p18
          try clear q18
          try clear hx18
          try clear c50
          try clear c51
          try clear c55
          try clear c56
          try clear c56b0
          try clear c58
          try clear c58b0
          try clear c59
          try clear c64
          try clear p64
          try clear c65
          try clear c66
          try clear c67
          try clear p82
          try clear q82
          try clear hx82
          try clear hf82
          try clear p83
          try clear q83
          try clear hx83
          try clear hf83
          try clear c96
          try clear c102
          try clear c103
          try clear hcz104_0
          try clear hcz104_1
          try clear hcz104_2
          try clear hcz97_0
          try clear hcz97_1
          try clear hcz97_2
          try clear hfz104_0
          try clear hfz104_1
          try clear hfz104_2
          try clear hfz97_0
          try clear hfz97_1
          try clear hfz97_2
          try clear hx181_0
          try clear hx182_0
          try clear hx185_0
          try clear hx186_0
          try clear hx82_0
          try clear hx83_0
          try clear p181
          try clear p182
          try clear p185
          try clear p186
          try clear p82
          try clear p83
          try clear q181
          try clear q182
          try clear q185
          try clear q186
          try clear q82
          try clear q83
          obtain ⟨x18_4, x193002_4, u193002, rfl, HA, HK4, HO_8, HO_193002, BK164, BK165, BK192, HB⟩ := hrel
          cases gk with
          | zero => exact absurd HA.out (by simp [spec_FillFrieze.l4])
          | succ k4 =>
           have H := HA.out
           clear HA
           simp only [spec_FillFrieze.l4] at H
           by_cases c105 : x18_4 < (x8_3.length : Int)
           ·rw [if_pos c105] at H
            have c105b0 := decide_eq_true c105
            clear c105
            by_cases c106 : 0 ≤ x18_4
            ·rw [if_pos c106] at H
             have c106b0 := decide_eq_true c106
             clear c106
             by_cases c107 : 0 ≤ (rd x8_3 x18_4)
             ·rw [if_pos c107] at H
              have c107b0 := decide_eq_true c107
              clear c107
              by_cases c108 : (rd x8_3 x18_4) < (l0_2.length : Int)
              ·rw [if_pos c108] at H
               have c108b0 := decide_eq_true c108
               clear c108
               by_cases c109 : x193002_4.length < 17592186044416
               ·rw [if_pos c109] at H
                have LMc109 := Aside0.mk c109
                clear c109
                obtain ⟨y195, hy195⟩ : ∃ y_ : List Int, y_ = (x193002_4 ++ [rd l0_2 (rd x8_3 x18_4)]) := ⟨_, rfl⟩
                replace H : (spec_FillFrieze.l4 k4 x8_3 (wrap64 (x18_4 + 1)) a0_0 a0_1 l0_2 a0_0 a0_1 y195) = some (r1, r2, r3, r4) := by first | (rw [hy195]; with_reducible exact H) | (have H2_ := (Option.bind_some _ _).symm.trans H; rw [hy195]; with_reducible exact H2_) | (have H2_ := (Option.bind_some _ _).symm.trans H; with_reducible exact H2_) | with_reducible exact H | (rw [hy195]; exact H) | exact H
                have Ny195 := Aside0.mk hy195
                clear hy195
                have H' := Aside0.mk H
                clear H
                obtain ⟨Ao110, co110, eo110⟩ := Kd.R_slice HO_8.out
                subst eo110
                try go_wp2
                replace HO_8 := asd (Kd.R_drew HO_8.out)
                replace HO_193002 := asd (Kd.R_drew HO_193002.out)
                replace BK164 := asd (blk_drew BK164.out)
                replace BK165 := asd (blk_drew BK165.out)
                replace BK192 := asd (blk_drew BK192.out)
                replace HB := asd (below_drew1 HB.out)
                have p193 : 0 ≤ (x18_4 : Int) := od
                have q193 : x18_4 < (x8_3.length : Int) := od
                obtain ⟨ad193, e193, hx193_0⟩ := Kd.at_int (Kd.R_reads' HO_8.out).2.2 x18_4 p193 q193
                cases e193
                replace p193 := eq_true p193
                replace q193 := eq_true q193
                have p194 : 0 ≤ ((rd x8_3 x18_4) : Int) := od
                have q194 : (rd x8_3 x18_4) < (l0_2.length : Int) := od
                obtain ⟨ad194, e194, hx194_0⟩ := Kd.at_int HR0_2.out (rd x8_3 x18_4) p194 q194
                have hw194_0 := hx194_0
                cases e194
                replace hx194_0 := xb HB hx194_0
                replace p194 := eq_true p194
                replace q194 := eq_true q194
                refine start_ (n := 14) (S := fun w' => w'.cell? ⟨gb192, 0, none⟩ = some (.int .i64 a0_0) ∧ w'.cell? ⟨gb192, 1, none⟩ = some (.int .i64 a0_1) ∧ w'.cell? ⟨gb192, 2, none⟩ = some (u193002) ∧ w'.cell? ⟨gb164, 0, none⟩ = some (.int .i64 a0_0) ∧ w'.cell? ⟨gb164, 1, none⟩ = some (.int .i64 a0_1) ∧ w'.cell? ⟨gb164, 2, none⟩ = some (.slice (some ad194) l0_2.length c0_2) ∧ w'.cell? (ad193.add (x18_4).toNat) = some (.int .i64 (rd x8_3 x18_4)) ∧ w'.cell? (ad194.add ((rd x8_3 x18_4)).toNat) = some (.int .i64 (rd l0_2 (rd x8_3 x18_4)))) (ds := [11, 13]) (bT 14 0) (by kernel_rfl) rfl rfl ⟨bcl BK192 0, bcl BK192 1, bcl BK192 2, bcl BK164 0, bcl BK164 1, bcl BK164 2, hx193_0, (xb HB hw194_0)⟩ (fun hHeld => ?_); refine with_tabW spec_FillFrieze.tab32 spec_FillFrieze.bits32 (fun HT_ HW_ => ?_)
                generalize wr.drew = w111 at HO_8 HO_193002 BK164 BK165 BK192 HB hx193_0 hx194_0 hHeld ⊢
                refine pu 0 (some 141) (bT 14 1) HT_ ?_
                refine pu 2 (some 143) (bs 14 5) HT_ ?_
                refine pu 4 (some 145) (bs 14 21) HT_ ?_
                refine pu 5 (some 146) (bs 14 53) HT_ ?_
                refine pu 6 (some 147) (bs 14 117) HT_ ?_
                refine ta 1 (some 142) (bs 14 119) HT_ HW_ hHeld ?_
                refine ta 3 (some 144) (bT 14 7) HT_ HW_ hHeld ?_
                refine ta 7 (some 148) (bT 14 8) HT_ HW_ hHeld ?_
                refine pu 8 (some 149) (bT 14 9) HT_ ?_
                refine ta 9 (some 150) (bT 14 10) HT_ HW_ hHeld ?_
                refine ro 10 (some 151) (bT 14 11) HT_ (fun K hK => ?_)
                refine value_ (w1 := ?_) (v := ?_) (by rfl) rfl ?_ ?_
                rotate_left 2
                ·go_simp
                 constructor
                 ·rfl
                 ·rfl
                refine hK.out _ _ ⟨(blk_cell (blk_alloc BK192.out _) 0).trans rfl, (blk_cell (blk_alloc BK192.out _) 1).trans rfl, (blk_cell (blk_alloc BK192.out _) 2).trans rfl, (blk_cell (blk_alloc BK164.out _) 0).trans rfl, (blk_cell (blk_alloc BK164.out _) 1).trans rfl, (blk_cell (blk_alloc BK164.out _) 2).trans rfl, (World.cell?_alloc_lt _ _ _ (World.block_lt_of_cell? _ _ (hHeld.2.2.2.2.2.2.1))).trans (hHeld.2.2.2.2.2.2.1), (World.cell?_alloc_lt _ _ _ (World.block_lt_of_cell? _ _ ((xb HB hw194_0)))).trans ((xb HB hw194_0))⟩ (fun hHeld => ?_)
                clear hK K
                refine norm_ (a' := ?_) ?_ ?_
                rotate_left
                ·show Act.put _ (some 151) _ = _
                 simp only [Act.put, sA, sB, sC, i64_w, i32_w]
                 rfl
                refine last_ (i := 11) (N := some 152) (bT 14 12) rfl rfl (one_of HT_.out (by kernel_rfl)) (by decide) (fun K hK => ?_)
                refine Kd.R_append_step (Kd.int .i64) (w0 := w) w.heap.size (by rfl) (.tmp 142) (.tmp 151) 22 2 (.int .i64 0) 8 rfl Tryd.underlying22 info2 rfl (by decide) (by omega) u193002 x193002_4 (rd l0_2 (rd x8_3 x18_4)) [.int .i64 (rd l0_2 (rd x8_3 x18_4))] (fun k_ => some k_ ≠ (.slice (some ad193) x8_3.length co110 : Value).ownBlock) (fun _ => False) rfl rfl ?aP (fun _ hk => hk.elim) ?aF ?aO ?aB ?aS ?aL ?_
                (case aP => exact rfl)
                (case aB => exact (bbw3 HB GE164 GE165 GE192))
                (case aF => exact (fun k_ hk => Kd.fresh' (Kd.R_lt (kr HO_8)) k_ hk))
                (case aO => exact (kr HO_193002))
                (case aS => exact (bsz3 HB GE164 GE165 GE192))
                (case aL => have := LMc109.out; omega)
                intro v196 w112 ho hb hg hat
                rw [← Ny195.out] at ho
                have n0_ := asd (Kd.R_after (ok := (fun _ => True)) (by (with_reducible repeat (first | apply Kd.R_alloc | apply Kd.R_drewN | apply Kd.R_drew)); exact Kd.R_mono HO_8.out (fun _ hk => ⟨trivial, hk⟩)) hg hat)
                have n1_ := asd (blk_grown (g := gb164) (o := .cells #[.int .i64 a0_0, .int .i64 a0_1, .slice (some ad194) l0_2.length c0_2] 28 (0, 0)) (bkp BK164) hg (Kd.R_ne HO_193002.out BK164.out (by decide)))
                have n2_ := asd (blk_grown (g := gb165) (o := .cells #[.int .i64 x166000_3, .int .i64 x166001_3, .slice none 0 0] 28 (0, 0)) (bkp BK165) hg (Kd.R_ne HO_193002.out BK165.out (by decide)))
                have n3_ := asd (blk_grown (g := gb192) (o := .cells #[.int .i64 a0_0, .int .i64 a0_1, u193002] 28 (0, 0)) (bkp BK192) hg (Kd.R_ne HO_193002.out BK192.out (by decide)))
                have n4_ := asd (hb)
                have n5_ := asd (ho)
                clear HO_8
                clear BK164
                clear BK165
                clear BK192
                clear HB
                clear HO_193002
                have HO_8 := n0_
                have BK164 := n1_
                have BK165 := n2_
                have BK192 := n3_
                have HB := n4_
                have HO197 := n5_
                clear n0_ n1_ n2_ n3_ n4_ n5_
                clear ho hb hg hat
                obtain ⟨Ao113, co113, eo113⟩ := Kd.R_slice HO197.out
                (first | subst eo113 | (injection eo113 with f1_ f2_ f3_; have f4_ := f1_.symm; have f5_ := f3_.symm; clear f1_ f2_ f3_; subst f4_; subst f5_))
                refine hK.out _ _ ?_
                clear hK K
                refine norm_ (a' := ?_) ?_ ?_
                rotate_left
                ·show Act.put _ (some 152) _ = _
                 simp only [Act.put, sA, sB, sC, i64_w, i32_w]
                 rfl
                refine pu 12 (some 153) (bT 14 13) HT_ ?_
                refine last_ (i := 13) (N := none) (bT 14 14) rfl rfl (one_of HT_.out (by kernel_rfl)) (by decide) (fun K hK => ?_)
                have hs114 : w112.cell? ⟨gb192, 2, none⟩ = some (u193002) := bcl BK192 2
                have hfs114 := blk_frozen BK192.out 2
                have hns114_0 := NB164_192.out
                have hns114_1 := NB165_192.out
                have hms114_0 := NB192_164.out
                have hms114_1 := NB192_165.out
                refine skip_ (w1 := ?_) (by rfl) rfl ?_ ?_
                rotate_left
                ·go_simp
                 rfl
                refine hK.out _ _ ?_
                clear hK K
                refine done_ (done_of HT_.out (by kernel_rfl)) ?_
                try go_wp2
                go_roundg k4
                case measure => have := HJ3.out; have := HK2.out; have := HK3.out; have := HK4.out; omega
                case rel => exact ⟨(wrap64 (x18_4 + 1)), (y195), (.slice Ao113 y195.length co113), (by first | rfl | (simp; done) | (simp [*]; done)), H', ⟨by have := HJ3.out; have := HK2.out; have := HK3.out; have := HK4.out; omega⟩, ⟨by (with_reducible repeat (first | apply Kd.R_alloc | apply Kd.R_drewN | apply Kd.R_drew)); exact Kd.R_mono (Kd.R_far (p := ⟨gb192, 2, none⟩) (Kd.R_types HO_8.out BK192.out (by decide)) (fun _ hk => hk.2) (.slice Ao113 y195.length co113)) (fun _ hk => hk.1.2)⟩, ⟨by (with_reducible repeat (first | apply Kd.R_alloc | apply Kd.R_drewN | apply Kd.R_drew)); exact Kd.R_mono (Kd.R_far (p := ⟨gb192, 2, none⟩) (Kd.R_types HO197.out BK192.out (by decide)) (fun _ hk => hk.2) (.slice Ao113 y195.length co113)) (fun _ hk => hk.1)⟩, ⟨bq1 BK164 NB164_192⟩, ⟨bq1 BK165 NB165_192⟩, ⟨bq0 BK192⟩, ⟨bbw3 HB GE164 GE165 GE192⟩⟩
               ·rw [if_neg c109] at H
                exact absurd H (by simp)
              ·rw [if_neg c108] at H
               exact absurd H (by simp)
             ·rw [if_neg c107] at H
              exact absurd H (by simp)
            ·rw [if_neg c106] at H
             exact absurd H (by simp)
           ·rw [if_neg c105] at H
            have c105b0 := decide_eq_false c105
            clear c105
            simp only [Option.some.injEq, Prod.mk.injEq] at H
            obtain ⟨rfl, rfl, rfl, rfl⟩ := H
            obtain ⟨Ao115, co115, eo115⟩ := Kd.R_slice HO_8.out
            subst eo115
            have hnb116 := NB192_164.out
            have hnc116 := NB164_192.out
            have hnb117 := NB192_165.out
            have hnc117 := NB165_192.out
            obtain ⟨hcz118_0, hcz118_1, hcz118_2, hfz118_0, hfz118_1, hfz118_2⟩ := bz3 BK192
            have hnb119 := NB165_164.out
            have hnc119 := NB164_165.out
            obtain ⟨hcz120_0, hcz120_1, hcz120_2, hfz120_0, hfz120_1, hfz120_2⟩ := bz3 BK165
            obtain ⟨Ao121, co121, eo121⟩ := Kd.R_slice HO_193002.out
            subst eo121
            go_wp2
            refine bodyPost_ret (results_ct rfl _ _ gb165 28 #[.int .i64 a0_0, .int .i64 a0_1, .slice Ao121 x193002_4.length co121] (0, 0) _ rfl (bq0 BK165) Tryd.underlying28 rfl (by kernel_rfl)) rfl ?_
            exact ⟨_, by first | rfl | (simp [errW_none, errW_some] <;> rfl) | (simp [*, errW_none, errW_some] <;> rfl), by (with_reducible repeat (first | apply Kd.R_alloc | apply Kd.R_drewN | apply Kd.R_drew)); exact Kd.R_mono (rw3 (Kd.R_types HO_193002.out BK165.out (by decide))) (fun _ hk => trivial), bbw3 HB GE164 GE165 GE192⟩
end Go.Proofs.YtnblfcibgokccaaDoor.PG
