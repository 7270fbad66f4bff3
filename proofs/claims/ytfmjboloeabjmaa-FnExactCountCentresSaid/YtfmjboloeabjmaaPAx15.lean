/- Walks written by program: each Go function that the law reaches comes to the plain function beside it. -/
import Derived.Test.YtfmjboloeabjmaaPAx0
import Derived.Test.YtfmjboloeabjmaaPAx3
import Derived.Test.YtfmjboloeabjmaaPAx12
import Derived.Test.YtfmjboloeabjmaaPAx13
import Derived.Test.YtfmjboloeabjmaaPAx14
namespace Go.Proofs.Ytfmjboloeabjmaa.PA
open Go.RowKit Go.Proofs.YtfmjboloeabjmaaW.PrintWords Go.Proofs.YtfmjboloeabjmaaW.PrintLast Go.Proofs.YtfmjboloeabjmaaW.PrintMore
attribute [local go_sem] max2_int min2_int max_two min_two max_three min_three max_four min_four   -- for this text's walks alone
set_option linter.unusedVariables false
set_option linter.unusedSimpArgs false

attribute [local go_sem high] eqA42
/-! ### impl_isGroup: function 35 -/
mutual
def impl_isGroup.l0 : Nat → List (S44) → List (S40) → List (S44) → List (S44) → Int → Int → Int → Int → Int → Option (Bool)
 | 0, _, _, _, _, _, _, _, _, _ => none
 | k + 1, x2, x7, x8, x19, x20, x21, x482000, x482001, x482002 => if x21 < x20 then (if 0 ≤ x21 then (if x21 < (x19.length : Int) then ((impl_Mat_57.f k x7 ((rd_T44 x19 x21).f0.f0) ((rd_T44 x19 x21).f0.f1) ((rd_T44 x19 x21).f0.f2) ((rd_T44 x19 x21).f0.f3)).bind fun t490 => (if t490 = true then ((impl_Lattice_reduce.f x482000 x482001 x482002 ((rd_T44 x19 x21).f1.f0) ((rd_T44 x19 x21).f1.f1)).bind fun bt491 => (if (!(bt491.1 == ((rd_T44 x19 x21).f1.f0)) || (!(bt491.2 == ((rd_T44 x19 x21).f1.f1)))) = true then (some false) else (if x21 > 0 then (if 0 ≤ (wrap64 (x21 - 1)) then (if (wrap64 (x21 - 1)) < (x2.length : Int) then ((impl_compareMotions.f k ((rd_T44 x2 (wrap64 (x21 - 1))).f0.f0) ((rd_T44 x2 (wrap64 (x21 - 1))).f0.f1) ((rd_T44 x2 (wrap64 (x21 - 1))).f0.f2) ((rd_T44 x2 (wrap64 (x21 - 1))).f0.f3) ((rd_T44 x2 (wrap64 (x21 - 1))).f1.f0) ((rd_T44 x2 (wrap64 (x21 - 1))).f1.f1) ((rd_T44 x19 x21).f0.f0) ((rd_T44 x19 x21).f0.f1) ((rd_T44 x19 x21).f0.f2) ((rd_T44 x19 x21).f0.f3) ((rd_T44 x19 x21).f1.f0) ((rd_T44 x19 x21).f1.f1)).bind fun t494 => (if t494 ≥ 0 then (some false) else (if (x8.length < 2932031007402 ∧ mapMo.wf (⟨(⟨(rd_T44 x19 x21).f0.f0, (rd_T44 x19 x21).f0.f1, (rd_T44 x19 x21).f0.f2, (rd_T44 x19 x21).f0.f3⟩ : S40), (⟨(rd_T44 x19 x21).f1.f0, (rd_T44 x19 x21).f1.f1⟩ : S42)⟩ : S44) = true) then (impl_isGroup.l0 k x2 x7 (x8 ++ [(⟨(⟨(rd_T44 x19 x21).f0.f0, (rd_T44 x19 x21).f0.f1, (rd_T44 x19 x21).f0.f2, (rd_T44 x19 x21).f0.f3⟩ : S40), (⟨(rd_T44 x19 x21).f1.f0, (rd_T44 x19 x21).f1.f1⟩ : S42)⟩ : S44)]) x19 x20 (wrap64 (x21 + 1)) x482000 x482001 x482002) else (none)))) else (none)) else (none)) else (if (x8.length < 2932031007402 ∧ mapMo.wf (⟨(⟨(rd_T44 x19 x21).f0.f0, (rd_T44 x19 x21).f0.f1, (rd_T44 x19 x21).f0.f2, (rd_T44 x19 x21).f0.f3⟩ : S40), (⟨(rd_T44 x19 x21).f1.f0, (rd_T44 x19 x21).f1.f1⟩ : S42)⟩ : S44) = true) then (impl_isGroup.l0 k x2 x7 (x8 ++ [(⟨(⟨(rd_T44 x19 x21).f0.f0, (rd_T44 x19 x21).f0.f1, (rd_T44 x19 x21).f0.f2, (rd_T44 x19 x21).f0.f3⟩ : S40), (⟨(rd_T44 x19 x21).f1.f0, (rd_T44 x19 x21).f1.f1⟩ : S42)⟩ : S44)]) x19 x20 (wrap64 (x21 + 1)) x482000 x482001 x482002) else (none))))) else (some false))) else (none)) else (none)) else ((impl_unit.f).bind fun bt501 => ((mapMo.has k x8 bt501.1 bt501.2.1 bt501.2.2.1 bt501.2.2.2 0 0).bind fun t505 => (if t505 = true then (impl_isGroup.l1 k x2 x8 x2 (x2.length : Int) 0 x482000 x482001 x482002) else (some false))))
def impl_isGroup.l1 : Nat → List (S44) → List (S44) → List (S44) → Int → Int → Int → Int → Int → Option (Bool)
 | 0, _, _, _, _, _, _, _, _ => none
 | k + 1, x2, x8, x62, x63, x64, x482000, x482001, x482002 => if x64 < x63 then (if 0 ≤ x64 then (if x64 < (x62.length : Int) then (impl_isGroup.l2 k x2 x8 x62 x63 x64 x2 (x2.length : Int) 0 x482000 x482001 x482002 ((rd_T44 x62 x64).f0.f0) ((rd_T44 x62 x64).f0.f1) ((rd_T44 x62 x64).f0.f2) ((rd_T44 x62 x64).f0.f3) ((rd_T44 x62 x64).f1.f0) ((rd_T44 x62 x64).f1.f1)) else (none)) else (none)) else (some true)
def impl_isGroup.l2 : Nat → List (S44) → List (S44) → List (S44) → Int → Int → List (S44) → Int → Int → Int → Int → Int → Int → Int → Int → Int → Int → Int → Option (Bool)
 | 0, _, _, _, _, _, _, _, _, _, _, _, _, _, _, _, _, _ => none
 | k + 1, x2, x8, x62, x63, x64, x68, x69, x70, x482000, x482001, x482002, x508000, x508001, x508002, x508003, x508004, x508005 => if x70 < x69 then (if 0 ≤ x70 then (if x70 < (x68.length : Int) then ((impl_Motion_times.f x508000 x508001 x508002 x508003 x508004 x508005 ((rd_T44 x68 x70).f0.f0) ((rd_T44 x68 x70).f0.f1) ((rd_T44 x68 x70).f0.f2) ((rd_T44 x68 x70).f0.f3) ((rd_T44 x68 x70).f1.f0) ((rd_T44 x68 x70).f1.f1)).bind fun bt510 => ((impl_Lattice_reduceMotion.f x482000 x482001 x482002 bt510.1 bt510.2.1 bt510.2.2.1 bt510.2.2.2.1 bt510.2.2.2.2.1 bt510.2.2.2.2.2).bind fun bt516 => ((mapMo.has k x8 bt516.1 bt516.2.1 bt516.2.2.1 bt516.2.2.2.1 bt516.2.2.2.2.1 bt516.2.2.2.2.2).bind fun t522 => (if t522 = true then (impl_isGroup.l2 k x2 x8 x62 x63 x64 x68 x69 (wrap64 (x70 + 1)) x482000 x482001 x482002 x508000 x508001 x508002 x508003 x508004 x508005) else (some false))))) else (none)) else (none)) else (impl_isGroup.l1 k x2 x8 x62 x63 (wrap64 (x64 + 1)) x482000 x482001 x482002)
end
def impl_isGroup.f (k : Nat) (a0 : Int) (a1_0 : Int) (a1_1 : Int) (a1_2 : Int) (l2 : List (S44)) : Option (Bool) := (impl_latticeMats.f k a0 a1_0 a1_1 a1_2).bind fun t482 => (impl_isGroup.l0 k l2 t482 (([] : List (S44))) l2 (l2.length : Int) 0 a1_0 a1_1 a1_2)
def impl_isGroup.T5 : Bool × List (List Nat × List Nat) := (true, [([], []), ([], []), ([1], [1]), ([0, 2], [0, 2]), ([3], [3]), ([4, 3], [4]), ([5], [5]), ([5], [5]), ([7, 5], [5, 7]), ([6, 8, 5, 5], [5, 6, 8]), ([5], [5]), ([10, 5], [5, 10]), ([9, 11, 5], [5, 9, 11]), ([5, 12], [5, 12]), ([13, 9], [13]), ([14], [14]), ([15, 14], [14, 15]), ([16, 14, 14], [14, 16]), ([17], [17]), ([17], [17]), ([19, 17], [17, 19]), ([18, 20, 17], [17, 18, 20]), ([21, 17], [17, 21]), ([17], [17]), ([22, 23, 17, 17], [17, 22, 23]), ([24, 17], [17, 24]), ([17, 25, 14], [14, 17, 25]), ([14, 26], [14, 26])])
def impl_isGroup.B5 : List Nat := [0, 0, 2, 7, 15, 31, 63, 63, 191, 511, 63, 1087, 4095, 8191, 16383, 32767, 65535, 131071, 262143, 262143, 786431, 2097151, 4194303, 262143, 16777215, 33554431, 67108863, 134217727]
theorem impl_isGroup.tab5 : rtab .any (opsOf Try.f35 5) = impl_isGroup.T5 := by kernel_rfl
theorem impl_isGroup.bits5 : waitsOk impl_isGroup.T5.2 impl_isGroup.B5 = true := by kernel_rfl
def impl_isGroup.T17 : Bool × List (List Nat × List Nat) := (true, [([], []), ([], []), ([], []), ([], []), ([2, 3], [2, 3]), ([1, 4, 4], [1, 4]), ([0, 5], [0, 5]), ([6], [6])])
def impl_isGroup.B17 : List Nat := [0, 0, 0, 0, 12, 30, 63, 127]
theorem impl_isGroup.tab17 : rtab .any (opsOf Try.f35 17) = impl_isGroup.T17 := by kernel_rfl
theorem impl_isGroup.bits17 : waitsOk impl_isGroup.T17.2 impl_isGroup.B17 = true := by kernel_rfl
set_option maxHeartbeats 8000000 in
set_option maxRecDepth 100000 in
theorem impl_isGroup.calls (k : Nat) (a0 : Int) (a1_0 : Int) (a1_1 : Int) (a1_2 : Int) (A2 : Option Addr) (c2 : Nat) (l2 : List (S44)) (r : Bool) (w : World) (hr2 : Kd.C k44 w A2 l2.length l2) (hc2 : l2.length ≤ c2) (h : impl_isGroup.f k a0 a1_0 a1_1 a1_2 l2 = some r) :
  Calls Try.prog 35 #[.int .i64 a0, .agg #[.int .i64 a1_0, .int .i64 a1_1, .int .i64 a1_2], .slice A2 l2.length c2] w fun e w' => e = .returned (.bool r) ∧ Below w.heap.size w w' := by
 have hu28 := Try.underlying28
 have hu44 := Try.underlying44
 have hu40 := Try.underlying40
 have hu42 := Try.underlying42
 have HR2 := Aside0.mk hr2
 have HC2 := Aside0.mk hc2
 clear hr2 hc2
 have HB := asd (Below.refl w.heap.size w)
 have H : ((impl_latticeMats.f k a0 a1_0 a1_1 a1_2).bind fun t482 => (impl_isGroup.l0 k l2 t482 (([] : List (S44))) l2 (l2.length : Int) 0 a1_0 a1_1 a1_2)) = some r := h
 clear h
 obtain ⟨t482, A4, H⟩ := ob H
 try dsimp only at H
 obtain ⟨y485, hy485⟩ : ∃ y_ : List (S44), y_ = (([] : List (S44))) := ⟨_, rfl⟩
 replace H : (impl_isGroup.l0 k l2 t482 y485 l2 (l2.length : Int) 0 a1_0 a1_1 a1_2) = some r := by first | (rw [hy485]; with_reducible exact H) | (have H2_ := (Option.bind_some _ _).symm.trans H; rw [hy485]; with_reducible exact H2_) | (have H2_ := (Option.bind_some _ _).symm.trans H; with_reducible exact H2_) | with_reducible exact H | (rw [hy485]; exact H) | exact H
 have Ny485 := Aside0.mk hy485
 clear hy485
 have H' := Aside0.mk H
 clear H
 go_enter Try.func35, Try.ntmps35
 go_wp2_with (first | ((with_reducible refine gd 4 rfl ?_); refine bx #[.int .i64 a1_0, .int .i64 a1_1, .int .i64 a1_2] 28 ?_; intro gb481 hg w5 BK481 hb; have GE481 := ngw0 hg HB; replace HB := bS0 HB hb; clear hb hg; obtain ⟨hcz6_0, hcz6_1, hcz6_2, hfz6_0, hfz6_1, hfz6_2⟩ := bz3 BK481) | ((with_reducible refine gate_callee (f := 56) rfl ?_); refine gl 17 Try.func56 #[.int .i64 a0, .agg #[.int .i64 a1_0, .int .i64 a1_1, .int .i64 a1_2]] ?_; (with_reducible refine (impl_latticeMats.calls _ _ _ _ _ _ _ A4.out).mono ?_); rintro e w7 ⟨v483, rfl, ho0, hb⟩; refine ⟨_, rfl, ?_⟩; have HO484 := asd (Kd.R_lower ho0 (bsz1 HB GE481)); replace BK481 := bB BK481 hb; replace HB := bS1 HB GE481 hb; (try clear hb); (try clear hb2); (try clear hk); (try clear hi); (try clear ho0)) | ((with_reducible refine gd 18 rfl ?_); refine mapMo.make_event ?hg (N := 18) ?hd ?hr ?_; (case hd => rfl); (case hg => rfl); (case hr => first | rfl | (go_simp; done) | (go_simp; rfl)); intro gbM hg w8 hmap_ hb; rw [← Ny485.out] at hmap_; have GEM := asd ((by rw [hg]; exact (bsz1 HB GE481) : w.heap.size ≤ gbM)); clear hg; replace HO484 := asd (Kd.R_below (kr HO484) hb); have HO487 := Aside0.mk hmap_; replace BK481 := bB BK481 hb; replace HB := bS1 HB GE481 hb; clear hb hmap_))
 go_loopg [21] k (fun kq v21 w' => ∃ (x8_1 : List (S44)) (x21_1 : Int), v21 = .int .i64 x21_1 ∧ Aside0 (impl_isGroup.l0 kq l2 t482 x8_1 l2 (l2.length : Int) x21_1 a1_0 a1_1 a1_2 = some r) ∧ Aside0 (kq ≤ k) ∧ Aside0 (Kd.R k40 40 w' w.heap.size (fun _ => True) v483 t482) ∧ Aside0 (mapMo.MS w' gbM x8_1) ∧ Aside0 (w'.heap[gb481]? = some (.cells #[.int .i64 a1_0, .int .i64 a1_1, .int .i64 a1_2] 28 (0, 0))) ∧ Aside0 (Below w.heap.size w w'))
 case atStart => exact ⟨(y485), (0), (by first | rfl | (simp; done) | (simp [*]; done)), H', ⟨Nat.le_refl _⟩, ⟨by (with_reducible repeat (first | apply Kd.R_alloc | apply Kd.R_drewN | apply Kd.R_drew)); exact HO484.out⟩, ⟨by (with_reducible repeat (first | apply mapMo.MS_alloc | apply mapMo.MS_drewN | apply mapMo.MS_drew)); exact HO487.out⟩, ⟨bkp BK481⟩, ⟨bbw1 HB GE481⟩⟩
 case round =>
  clear H'
  try clear c2
  try clear p2
  try clear c3
  try clear c5
  try clear hcz6_0
  try clear hcz6_1
  try clear hcz6_2
  try clear hfz6_0
  try clear hfz6_1
  try clear hfz6_2
  obtain ⟨x8_1, x21_1, rfl, HA, HK1, HO_7, HO_8, BK481, HB⟩ := hrel
  cases gk with
  | zero => exact absurd HA.out (by simp [impl_isGroup.l0])
  | succ k1 =>
   have H := HA.out
   clear HA
   simp only [impl_isGroup.l0] at H
   by_cases c10 : x21_1 < (l2.length : Int)
   rw [if_pos c10] at H
   have c10b0 := decide_eq_true c10
   clear c10
   by_cases c11 : 0 ≤ x21_1
   rw [if_pos c11] at H
   have c11b0 := decide_eq_true c11
   clear c11
   by_cases c12 : x21_1 < (l2.length : Int)
   rw [if_pos c12] at H
   have c12b0 := decide_eq_true c12
   clear c12
   obtain ⟨t490, A13, H⟩ := ob H
   try dsimp only at H
   by_cases c14 : t490 = true
   subst c14
   replace H := ifT H
   obtain ⟨⟨t491, t492⟩, A15, H⟩ := ob H
   try dsimp only at H
   by_cases c16 : (!(t491 == ((rd_T44 l2 x21_1).f1.f0)) || (!(t492 == ((rd_T44 l2 x21_1).f1.f1)))) = true
   rw [if_pos c16] at H
   have c16b0 := c16
   clear c16
   obtain rfl := Option.some.inj H
   rotate_left
   rw [if_neg c16] at H
   have c16b0 : (!(t491 == ((rd_T44 l2 x21_1).f1.f0)) || (!(t492 == ((rd_T44 l2 x21_1).f1.f1)))) = false := by simpa using c16
   clear c16
   by_cases c25 : x21_1 > 0
   rw [if_pos c25] at H
   have c25b0 : decide (0 < x21_1) = true := decide_eq_true c25
   clear c25
   obtain ⟨ji26, hji26⟩ : ∃ j_ : Int, (wrap64 (x21_1 - 1)) = j_ := ⟨_, rfl⟩
   replace H : (if 0 ≤ (ji26) then (if (ji26) < (l2.length : Int) then ((impl_compareMotions.f k1 ((rd_T44 l2 (ji26)).f0.f0) ((rd_T44 l2 (ji26)).f0.f1) ((rd_T44 l2 (ji26)).f0.f2) ((rd_T44 l2 (ji26)).f0.f3) ((rd_T44 l2 (ji26)).f1.f0) ((rd_T44 l2 (ji26)).f1.f1) ((rd_T44 l2 x21_1).f0.f0) ((rd_T44 l2 x21_1).f0.f1) ((rd_T44 l2 x21_1).f0.f2) ((rd_T44 l2 x21_1).f0.f3) ((rd_T44 l2 x21_1).f1.f0) ((rd_T44 l2 x21_1).f1.f1)).bind fun t494 => (if t494 ≥ 0 then (some false) else (if (x8_1.length < 2932031007402 ∧ mapMo.wf (⟨(⟨(rd_T44 l2 x21_1).f0.f0, (rd_T44 l2 x21_1).f0.f1, (rd_T44 l2 x21_1).f0.f2, (rd_T44 l2 x21_1).f0.f3⟩ : S40), (⟨(rd_T44 l2 x21_1).f1.f0, (rd_T44 l2 x21_1).f1.f1⟩ : S42)⟩ : S44) = true) then (impl_isGroup.l0 k1 l2 t482 (x8_1 ++ [(⟨(⟨(rd_T44 l2 x21_1).f0.f0, (rd_T44 l2 x21_1).f0.f1, (rd_T44 l2 x21_1).f0.f2, (rd_T44 l2 x21_1).f0.f3⟩ : S40), (⟨(rd_T44 l2 x21_1).f1.f0, (rd_T44 l2 x21_1).f1.f1⟩ : S42)⟩ : S44)]) l2 (l2.length : Int) (wrap64 (x21_1 + 1)) a1_0 a1_1 a1_2) else (none)))) else (none)) else (none)) = some r := by first | (rw [hji26] at H; first | done | exact H) | (simp only [hji26] at H ⊢; exact H)
   (try rw [hji26] at A13)
   (try rw [hji26] at A15)
   have hji26w : (IntKind.i64.wrap (x21_1 - 1)) = ji26 := (i64_w _).trans hji26
   by_cases c27 : 0 ≤ (ji26)
   rw [if_pos c27] at H
   have c27b0 := decide_eq_true c27
   clear c27
   by_cases c28 : (ji26) < (l2.length : Int)
   rw [if_pos c28] at H
   have c28b0 := decide_eq_true c28
   clear c28
   obtain ⟨t494, A29, H⟩ := ob H
   try dsimp only at H
   by_cases c30 : t494 ≥ 0
   rw [if_pos c30] at H
   have c30b0 : decide (0 ≤ t494) = true := decide_eq_true c30
   clear c30
   obtain rfl := Option.some.inj H
   rotate_left
   rw [if_neg c30] at H
   have c30b0 : decide (0 ≤ t494) = false := decide_eq_false c30
   clear c30
   by_cases c40 : (x8_1.length < 2932031007402 ∧ mapMo.wf (⟨(⟨(rd_T44 l2 x21_1).f0.f0, (rd_T44 l2 x21_1).f0.f1, (rd_T44 l2 x21_1).f0.f2, (rd_T44 l2 x21_1).f0.f3⟩ : S40), (⟨(rd_T44 l2 x21_1).f1.f0, (rd_T44 l2 x21_1).f1.f1⟩ : S42)⟩ : S44) = true)
   rw [if_pos c40] at H
   have LMc40 := Aside0.mk c40
   clear c40
   obtain ⟨y495, hy495⟩ : ∃ y_ : List (S44), y_ = (x8_1 ++ [(⟨(⟨(rd_T44 l2 x21_1).f0.f0, (rd_T44 l2 x21_1).f0.f1, (rd_T44 l2 x21_1).f0.f2, (rd_T44 l2 x21_1).f0.f3⟩ : S40), (⟨(rd_T44 l2 x21_1).f1.f0, (rd_T44 l2 x21_1).f1.f1⟩ : S42)⟩ : S44)]) := ⟨_, rfl⟩
   replace H : (impl_isGroup.l0 k1 l2 t482 y495 l2 (l2.length : Int) (wrap64 (x21_1 + 1)) a1_0 a1_1 a1_2) = some r := by first | (rw [hy495]; with_reducible exact H) | (have H2_ := (Option.bind_some _ _).symm.trans H; rw [hy495]; with_reducible exact H2_) | (have H2_ := (Option.bind_some _ _).symm.trans H; with_reducible exact H2_) | with_reducible exact H | (rw [hy495]; exact H) | exact H
   have Ny495 := Aside0.mk hy495
   clear hy495
   have H' := Aside0.mk H
   clear H
   rotate_left
   ·rw [if_neg c40] at H
    exact absurd H (by simp)
   ·rw [if_neg c28] at H
    exact absurd H (by simp)
   ·rw [if_neg c27] at H
    exact absurd H (by simp)
   rw [if_neg c25] at H
   have c25b0 : decide (0 < x21_1) = false := decide_eq_false c25
   clear c25
   by_cases c52 : (x8_1.length < 2932031007402 ∧ mapMo.wf (⟨(⟨(rd_T44 l2 x21_1).f0.f0, (rd_T44 l2 x21_1).f0.f1, (rd_T44 l2 x21_1).f0.f2, (rd_T44 l2 x21_1).f0.f3⟩ : S40), (⟨(rd_T44 l2 x21_1).f1.f0, (rd_T44 l2 x21_1).f1.f1⟩ : S42)⟩ : S44) = true)
   rw [if_pos c52] at H
   have LMc52 := Aside0.mk c52
   clear c52
   obtain ⟨y498, hy498⟩ : ∃ y_ : List (S44), y_ = (x8_1 ++ [(⟨(⟨(rd_T44 l2 x21_1).f0.f0, (rd_T44 l2 x21_1).f0.f1, (rd_T44 l2 x21_1).f0.f2, (rd_T44 l2 x21_1).f0.f3⟩ : S40), (⟨(rd_T44 l2 x21_1).f1.f0, (rd_T44 l2 x21_1).f1.f1⟩ : S42)⟩ : S44)]) := ⟨_, rfl⟩
   replace H : (impl_isGroup.l0 k1 l2 t482 y498 l2 (l2.length : Int) (wrap64 (x21_1 + 1)) a1_0 a1_1 a1_2) = some r := by first | (rw [hy498]; with_reducible exact H) | (have H2_ := (Option.bind_some _ _).symm.trans H; rw [hy498]; with_reducible exact H2_) | (have H2_ := (Option.bind_some _ _).symm.trans H; with_reducible exact H2_) | with_reducible exact H | (rw [hy498]; exact H) | exact H
   have Ny498 := Aside0.mk hy498
   clear hy498
   have H' := Aside0.mk H
   clear H
   rotate_left
   ·rw [if_neg c52] at H
    exact absurd H (by simp)
   replace c14 := Bool.eq_false_iff.mpr c14
   subst c14
   replace H := ifF H
   obtain rfl := Option.some.inj H
   rotate_left
   ·rw [if_neg c12] at H
    exact absurd H (by simp)
   ·rw [if_neg c11] at H
    exact absurd H (by simp)
   rw [if_neg c10] at H
   have c10b0 := decide_eq_false c10
   clear c10
   obtain ⟨⟨t501, t502, t503, t504⟩, A70, H⟩ := ob H
   try dsimp only at H
   obtain ⟨t505, A71, H⟩ := ob H
   try dsimp only at H
   by_cases c72 : t505 = true
   subst c72
   replace H := ifT H
   have H' := Aside0.mk H
   clear H
   rotate_left
   replace c72 := Bool.eq_false_iff.mpr c72
   subst c72
   replace H := ifF H
   obtain rfl := Option.some.inj H
   rotate_left
   rotate_left 3
   ·obtain ⟨p488, q488, ad488, e488, hx488_0, hx488_1, hx488_2, hx488_3, hx488_4, hx488_5⟩ := at_T44x HR2.out HB x21_1
    cases e488
    try go_wp2_with (first | ((with_reducible refine gd 10 rfl ?_); refine bx #[.int .i64 0, .int .i64 0, .int .i64 0, .int .i64 0, .int .i64 0, .int .i64 0] 44 ?_; intro gb489 hg w53 BK489 hb; replace HO_7 := asd (Kd.R_below (kr HO_7) hb); replace HO_8 := asd (mapMo.MS_below (by (with_reducible repeat (first | apply mapMo.MS_alloc | apply mapMo.MS_drewN | apply mapMo.MS_drew)); exact HO_8.out) hb); have GE489 := ngw1 hg HB GE481; replace HB := bS1 HB GE481 hb; have NB481_489 := nlt hg BK481; have NB489_481 := nsy (nlt hg BK481); replace BK481 := bB BK481 hb; clear hb hg; have hnb54 := NB489_481.out; have hnc54 := NB481_489.out; obtain ⟨hcz55_0, hcz55_1, hcz55_2, hcz55_3, hcz55_4, hcz55_5, hfz55_0, hfz55_1, hfz55_2, hfz55_3, hfz55_4, hfz55_5⟩ := bz6 BK489))
    obtain ⟨w56, h_w56⟩ : ∃ w_, ((((((w53.setCell ⟨gb489, 0, none⟩ (.int .i64 ((rd_T44 l2 x21_1).f0.f0))).setCell ⟨gb489, 1, none⟩ (.int .i64 ((rd_T44 l2 x21_1).f0.f1))).setCell ⟨gb489, 2, none⟩ (.int .i64 ((rd_T44 l2 x21_1).f0.f2))).setCell ⟨gb489, 3, none⟩ (.int .i64 ((rd_T44 l2 x21_1).f0.f3))).setCell ⟨gb489, 4, none⟩ (.int .i64 ((rd_T44 l2 x21_1).f1.f0))).setCell ⟨gb489, 5, none⟩ (.int .i64 ((rd_T44 l2 x21_1).f1.f1))) = w_ := ⟨_, rfl⟩
    replace HO_7 : Aside0 (Kd.R k40 40 w56 w.heap.size (fun _ => True) v483 t482) := by rw [← h_w56]; exact ⟨by (with_reducible repeat (first | apply Kd.R_alloc | apply Kd.R_drewN | apply Kd.R_drew)); exact Kd.R_mono (rw6 (Kd.R_types HO_7.out BK489.out (by decide))) (fun _ hk => trivial)⟩
    replace HO_8 : Aside0 (mapMo.MS w56 gbM x8_1) := by rw [← h_w56]; exact ⟨by have q_ := mapMo.MS_ne HO_8.out BK489.out; repeat (first | (with_reducible first | exact HO_8.out | refine mapMo.MS_set ?_ q_ | apply mapMo.MS_alloc | apply mapMo.MS_drewN | apply mapMo.MS_drew) | exact HO_8.out)⟩
    replace BK481 : Aside0 (w56.heap[gb481]? = some (.cells #[.int .i64 a1_0, .int .i64 a1_1, .int .i64 a1_2] 28 (0, 0))) := by rw [← h_w56]; exact ⟨bq1 BK481 NB481_489⟩
    replace BK489 : Aside0 (w56.heap[gb489]? = some (.cells #[.int .i64 ((rd_T44 l2 x21_1).f0.f0), .int .i64 ((rd_T44 l2 x21_1).f0.f1), .int .i64 ((rd_T44 l2 x21_1).f0.f2), .int .i64 ((rd_T44 l2 x21_1).f0.f3), .int .i64 ((rd_T44 l2 x21_1).f1.f0), .int .i64 ((rd_T44 l2 x21_1).f1.f1)] 44 (0, 0))) := by rw [← h_w56]; exact ⟨bq0 BK489⟩
    replace HB : Aside0 (Below w.heap.size w w56) := by rw [← h_w56]; exact ⟨bbw2 HB GE481 GE489⟩
    (try rw [h_w56]); clear h_w56
    replace HO_7 := asd (Kd.R_drew HO_7.out)
    replace HO_8 := asd (mapMo.MS_drew HO_8.out)
    replace BK481 := asd (blk_drew BK481.out)
    replace BK489 := asd (blk_drew BK489.out)
    replace HB := asd (below_drew1 HB.out)
    obtain ⟨Ao58, co58, eo58⟩ := Kd.R_slice HO_7.out
    (first | subst eo58 | (injection eo58 with f1_ f2_ f3_; have f4_ := f1_.symm; have f5_ := f3_.symm; clear f1_ f2_ f3_; subst f4_; subst f5_))
    refine sh 28 (cb6 BK489 (eb3 BK481)) (fun hHeld => ?_); refine with_tabW impl_isGroup.tab5 impl_isGroup.bits5 (fun HT_ HW_ => ?_)
    generalize w56.drew = w57 at HO_7 HO_8 BK481 BK489 HB hHeld ⊢
    refine pu 0 (some 26) (bT 28 1) HT_ ?_
    refine pu 1 (some 27) (bT 28 2) HT_ ?_
    refine ta 2 (some 28) (bT 28 3) HT_ HW_ hHeld ?_
    refine ro 3 (some 29) (bT 28 4) HT_ (fun K hK => ?_)
    refine gs Try.func57 #[.slice Ao58 t482.length co58, .agg #[.int .i64 ((rd_T44 l2 x21_1).f0.f0), .int .i64 ((rd_T44 l2 x21_1).f0.f1), .int .i64 ((rd_T44 l2 x21_1).f0.f2), .int .i64 ((rd_T44 l2 x21_1).f0.f3)]] ?_
    with_reducible refine (impl_Mat_57.calls _ _ _ _ _ _ _ _ _ _ ?side1 ?side2 A13.out).mono ?_
    (case side1 => exact ks (Kd.R_reads' HO_7.out).2.2)
    (case side2 => exact (Kd.R_reads' HO_7.out).2.1)
    rintro e w59 ⟨rfl, hb⟩
    refine ⟨_, rfl, ?_⟩
    replace HO_7 := asd (Kd.R_below (kr HO_7) hb)
    replace HO_8 := asd (mapMo.MS_below (by (with_reducible repeat (first | apply mapMo.MS_alloc | apply mapMo.MS_drewN | apply mapMo.MS_drew)); exact HO_8.out) hb)
    replace BK481 := bB BK481 hb
    replace BK489 := bB BK489 hb
    replace HB := bS2 HB GE481 GE489 hb
    (try clear hb)
    (try clear hb2)
    (try clear hk)
    (try clear hi)
    refine hK.out _ _ (cb6 BK489 (eb3 BK481)).out (fun hHeld => ?_)
    clear hK K
    refine norm_ (a' := ?_) ?_ ?_
    rotate_left
    ·show Act.put _ (some 29) _ = _
     simp only [Act.put, sA, sB, sC, i64_w, i32_w]
     rfl
    refine pu 4 (some 30) (bT 28 5) HT_ ?_
    refine pu 5 (some 31) (bT 28 6) HT_ ?_
    refine pu 7 (some 33) (bs 28 191) HT_ ?_
    refine pu 10 (some 36) (bs 28 1215) HT_ ?_
    refine ta 6 (some 32) (bs 28 1279) HT_ HW_ hHeld ?_
    refine ta 8 (some 34) (bs 28 1535) HT_ HW_ hHeld ?_
    refine ta 11 (some 37) (bs 28 3583) HT_ HW_ hHeld ?_
    refine ro 9 (some 35) (bT 28 12) HT_ (fun K hK => ?_)
    refine gs Try.func21 #[.agg #[.int .i64 a1_0, .int .i64 a1_1, .int .i64 a1_2], .agg #[.int .i64 ((rd_T44 l2 x21_1).f1.f0), .int .i64 ((rd_T44 l2 x21_1).f1.f1)]] ?_
    with_reducible refine (impl_Lattice_reduce.calls _ _ _ _ _ _ _ _ A15.out).mono ?_
    rintro e w60 ⟨rfl, hb⟩
    refine ⟨_, rfl, ?_⟩
    replace HO_7 := asd (Kd.R_below (kr HO_7) hb)
    replace HO_8 := asd (mapMo.MS_below (by (with_reducible repeat (first | apply mapMo.MS_alloc | apply mapMo.MS_drewN | apply mapMo.MS_drew)); exact HO_8.out) hb)
    replace BK481 := bB BK481 hb
    replace BK489 := bB BK489 hb
    replace HB := bS2 HB GE481 GE489 hb
    (try clear hb)
    (try clear hb2)
    (try clear hk)
    (try clear hi)
    refine hK.out _ _ (cb6 BK489 (eb3 BK481)).out (fun hHeld => ?_)
    clear hK K
    refine norm_ (a' := ?_) ?_ ?_
    rotate_left
    ·show Act.put _ (some 35) _ = _
     simp only [Act.put, sA, sB, sC, i64_w, i32_w]
     rfl
    refine pu 12 (some 38) (bT 28 13) HT_ ?_
    refine pu 13 (some 39) (bT 28 14) HT_ ?_
    refine pu 14 (some 40) (bT 28 15) HT_ ?_
    refine pu 15 (some 41) (bT 28 16) HT_ ?_
    refine pu 16 (some 42) (bT 28 17) HT_ ?_
    refine pu 17 (some 43) (bT 28 18) HT_ ?_
    refine pf 18 (some 44) (bT 28 19) HT_ ?_
    refine pf 19 (some 45) (bT 28 20) HT_ ?_
    refine pf 20 (some 46) (bT 28 21) HT_ ?_
    refine pf 21 (some 47) (bT 28 22) HT_ ?_
    refine pf 22 (some 48) (bT 28 23) HT_ ?_
    refine pf 23 (some 49) (bT 28 24) HT_ ?_
    refine pf 24 (some 50) (bT 28 25) HT_ ?_
    refine pf 25 (some 51) (bT 28 26) HT_ ?_
    refine pu 26 (some 52) (bT 28 27) HT_ ?_
    refine pu 27 (some 53) (bT 28 28) HT_ ?_
    refine done_ (done_of HT_.out (by kernel_rfl)) ?_
    obtain ⟨hcz61_0, hcz61_1, hcz61_2, hcz61_3, hcz61_4, hcz61_5, hfz61_0, hfz61_1, hfz61_2, hfz61_3, hfz61_4, hfz61_5⟩ := bz6 BK489
    try go_wp2_with (first | (at_mapUpdate; refine mapMo.put_event rfl _ _ _ rfl rfl (by (with_reducible repeat (first | apply mapMo.MS_alloc | apply mapMo.MS_drewN | apply mapMo.MS_drew)); exact HO_8.out) (⟨(⟨(rd_T44 l2 x21_1).f0.f0, (rd_T44 l2 x21_1).f0.f1, (rd_T44 l2 x21_1).f0.f2, (rd_T44 l2 x21_1).f0.f3⟩ : S40), (⟨(rd_T44 l2 x21_1).f1.f0, (rd_T44 l2 x21_1).f1.f1⟩ : S42)⟩ : S44) rfl rfl LMc52.out.2 LMc52.out.1 ?_; intro w62 ho hg; rw [← Ny498.out] at ho; have hb : Below w.heap.size w w62 := mapMo.below_put (bbw2 HB GE481 GE489) GEM.out hg; have n0_ := asd (mapMo.R_map (kr HO_7) (by (with_reducible repeat (first | apply mapMo.MS_alloc | apply mapMo.MS_drewN | apply mapMo.MS_drew)); exact HO_8.out) hg); have n1_ := asd (mapMo.blk_put (g := gb481) (cs := #[.int .i64 a1_0, .int .i64 a1_1, .int .i64 a1_2]) (t := 28) (bkp BK481) (by (with_reducible repeat (first | apply mapMo.MS_alloc | apply mapMo.MS_drewN | apply mapMo.MS_drew)); exact HO_8.out) hg); have n2_ := asd (mapMo.blk_put (g := gb489) (cs := #[.int .i64 ((rd_T44 l2 x21_1).f0.f0), .int .i64 ((rd_T44 l2 x21_1).f0.f1), .int .i64 ((rd_T44 l2 x21_1).f0.f2), .int .i64 ((rd_T44 l2 x21_1).f0.f3), .int .i64 ((rd_T44 l2 x21_1).f1.f0), .int .i64 ((rd_T44 l2 x21_1).f1.f1)]) (t := 44) (bkp BK489) (by (with_reducible repeat (first | apply mapMo.MS_alloc | apply mapMo.MS_drewN | apply mapMo.MS_drew)); exact HO_8.out) hg); have n3_ := asd (hb); have n4_ := asd (ho); clear HO_7; clear BK481; clear BK489; clear HB; clear HO_8; have HO_7 := n0_; have BK481 := n1_; have BK489 := n2_; have HB := n3_; have HO500 := n4_; clear n0_ n1_ n2_ n3_ n4_; clear ho hb hg))
    go_roundg k1
    case measure => have := HK1.out; omega
    case rel => exact ⟨(y498), (wrap64 (x21_1 + 1)), (by first | rfl | (simp; done) | (simp [*]; done)), H', ⟨by have := HK1.out; omega⟩, ⟨by (with_reducible repeat (first | apply Kd.R_alloc | apply Kd.R_drewN | apply Kd.R_drew)); exact HO_7.out⟩, ⟨by (with_reducible repeat (first | apply mapMo.MS_alloc | apply mapMo.MS_drewN | apply mapMo.MS_drew)); exact HO500.out⟩, ⟨bkp BK481⟩, ⟨bbw2 HB GE481 GE489⟩⟩
   ·obtain ⟨p488, q488, ad488, e488, hx488_0, hx488_1, hx488_2, hx488_3, hx488_4, hx488_5⟩ := at_T44x HR2.out HB x21_1
    cases e488
    try go_wp2_with (first | ((with_reducible refine gd 10 rfl ?_); refine bx #[.int .i64 0, .int .i64 0, .int .i64 0, .int .i64 0, .int .i64 0, .int .i64 0] 44 ?_; intro gb489 hg w63 BK489 hb; replace HO_7 := asd (Kd.R_below (kr HO_7) hb); replace HO_8 := asd (mapMo.MS_below (by (with_reducible repeat (first | apply mapMo.MS_alloc | apply mapMo.MS_drewN | apply mapMo.MS_drew)); exact HO_8.out) hb); have GE489 := ngw1 hg HB GE481; replace HB := bS1 HB GE481 hb; have NB481_489 := nlt hg BK481; have NB489_481 := nsy (nlt hg BK481); replace BK481 := bB BK481 hb; clear hb hg; have hnb64 := NB489_481.out; have hnc64 := NB481_489.out; obtain ⟨hcz65_0, hcz65_1, hcz65_2, hcz65_3, hcz65_4, hcz65_5, hfz65_0, hfz65_1, hfz65_2, hfz65_3, hfz65_4, hfz65_5⟩ := bz6 BK489))
    obtain ⟨w66, h_w66⟩ : ∃ w_, ((((((w63.setCell ⟨gb489, 0, none⟩ (.int .i64 ((rd_T44 l2 x21_1).f0.f0))).setCell ⟨gb489, 1, none⟩ (.int .i64 ((rd_T44 l2 x21_1).f0.f1))).setCell ⟨gb489, 2, none⟩ (.int .i64 ((rd_T44 l2 x21_1).f0.f2))).setCell ⟨gb489, 3, none⟩ (.int .i64 ((rd_T44 l2 x21_1).f0.f3))).setCell ⟨gb489, 4, none⟩ (.int .i64 ((rd_T44 l2 x21_1).f1.f0))).setCell ⟨gb489, 5, none⟩ (.int .i64 ((rd_T44 l2 x21_1).f1.f1))) = w_ := ⟨_, rfl⟩
    replace HO_7 : Aside0 (Kd.R k40 40 w66 w.heap.size (fun _ => True) v483 t482) := by rw [← h_w66]; exact ⟨by (with_reducible repeat (first | apply Kd.R_alloc | apply Kd.R_drewN | apply Kd.R_drew)); exact Kd.R_mono (rw6 (Kd.R_types HO_7.out BK489.out (by decide))) (fun _ hk => trivial)⟩
    replace HO_8 : Aside0 (mapMo.MS w66 gbM x8_1) := by rw [← h_w66]; exact ⟨by have q_ := mapMo.MS_ne HO_8.out BK489.out; repeat (first | (with_reducible first | exact HO_8.out | refine mapMo.MS_set ?_ q_ | apply mapMo.MS_alloc | apply mapMo.MS_drewN | apply mapMo.MS_drew) | exact HO_8.out)⟩
    replace BK481 : Aside0 (w66.heap[gb481]? = some (.cells #[.int .i64 a1_0, .int .i64 a1_1, .int .i64 a1_2] 28 (0, 0))) := by rw [← h_w66]; exact ⟨bq1 BK481 NB481_489⟩
    replace BK489 : Aside0 (w66.heap[gb489]? = some (.cells #[.int .i64 ((rd_T44 l2 x21_1).f0.f0), .int .i64 ((rd_T44 l2 x21_1).f0.f1), .int .i64 ((rd_T44 l2 x21_1).f0.f2), .int .i64 ((rd_T44 l2 x21_1).f0.f3), .int .i64 ((rd_T44 l2 x21_1).f1.f0), .int .i64 ((rd_T44 l2 x21_1).f1.f1)] 44 (0, 0))) := by rw [← h_w66]; exact ⟨bq0 BK489⟩
    replace HB : Aside0 (Below w.heap.size w w66) := by rw [← h_w66]; exact ⟨bbw2 HB GE481 GE489⟩
    (try rw [h_w66]); clear h_w66
    replace HO_7 := asd (Kd.R_drew HO_7.out)
    replace HO_8 := asd (mapMo.MS_drew HO_8.out)
    replace BK481 := asd (blk_drew BK481.out)
    replace BK489 := asd (blk_drew BK489.out)
    replace HB := asd (below_drew1 HB.out)
    obtain ⟨Ao68, co68, eo68⟩ := Kd.R_slice HO_7.out
    (first | subst eo68 | (injection eo68 with f1_ f2_ f3_; have f4_ := f1_.symm; have f5_ := f3_.symm; clear f1_ f2_ f3_; subst f4_; subst f5_))
    refine sh 28 (eb6 BK489) (fun hHeld => ?_); refine with_tabW impl_isGroup.tab5 impl_isGroup.bits5 (fun HT_ HW_ => ?_)
    generalize w66.drew = w67 at HO_7 HO_8 BK481 BK489 HB hHeld ⊢
    refine pu 0 (some 26) (bT 28 1) HT_ ?_
    refine pu 1 (some 27) (bT 28 2) HT_ ?_
    refine ta 2 (some 28) (bT 28 3) HT_ HW_ hHeld ?_
    refine ro 3 (some 29) (bT 28 4) HT_ (fun K hK => ?_)
    refine gs Try.func57 #[.slice Ao68 t482.length co68, .agg #[.int .i64 ((rd_T44 l2 x21_1).f0.f0), .int .i64 ((rd_T44 l2 x21_1).f0.f1), .int .i64 ((rd_T44 l2 x21_1).f0.f2), .int .i64 ((rd_T44 l2 x21_1).f0.f3)]] ?_
    with_reducible refine (impl_Mat_57.calls _ _ _ _ _ _ _ _ _ _ ?side1 ?side2 A13.out).mono ?_
    (case side1 => exact ks (Kd.R_reads' HO_7.out).2.2)
    (case side2 => exact (Kd.R_reads' HO_7.out).2.1)
    rintro e w69 ⟨rfl, hb⟩
    refine ⟨_, rfl, ?_⟩
    replace HO_7 := asd (Kd.R_below (kr HO_7) hb)
    replace HO_8 := asd (mapMo.MS_below (by (with_reducible repeat (first | apply mapMo.MS_alloc | apply mapMo.MS_drewN | apply mapMo.MS_drew)); exact HO_8.out) hb)
    replace BK481 := bB BK481 hb
    replace BK489 := bB BK489 hb
    replace HB := bS2 HB GE481 GE489 hb
    (try clear hb)
    (try clear hb2)
    (try clear hk)
    (try clear hi)
    refine hK.out _ _ (eb6 BK489).out (fun hHeld => ?_)
    clear hK K
    refine norm_ (a' := ?_) ?_ ?_
    rotate_left
    ·show Act.put _ (some 29) _ = _
     simp only [Act.put, sA, sB, sC, i64_w, i32_w]
     rfl
    refine pu 4 (some 30) (bT 28 5) HT_ ?_
    refine pu 5 (some 31) (bT 28 6) HT_ ?_
    refine pf 6 (some 32) (bT 28 7) HT_ ?_
    refine pf 7 (some 33) (bT 28 8) HT_ ?_
    refine pf 8 (some 34) (bT 28 9) HT_ ?_
    refine pf 9 (some 35) (bT 28 10) HT_ ?_
    refine pf 10 (some 36) (bT 28 11) HT_ ?_
    refine pf 11 (some 37) (bT 28 12) HT_ ?_
    refine pf 12 (some 38) (bT 28 13) HT_ ?_
    refine pu 13 (some 39) (bT 28 14) HT_ ?_
    refine pu 14 (some 40) (bT 28 15) HT_ ?_
    refine pf 15 (some 41) (bT 28 16) HT_ ?_
    refine pf 16 (some 42) (bT 28 17) HT_ ?_
    refine pf 17 (some 43) (bT 28 18) HT_ ?_
    refine pf 18 (some 44) (bT 28 19) HT_ ?_
    refine pf 19 (some 45) (bT 28 20) HT_ ?_
    refine pf 20 (some 46) (bT 28 21) HT_ ?_
    refine pf 21 (some 47) (bT 28 22) HT_ ?_
    refine pf 22 (some 48) (bT 28 23) HT_ ?_
    refine pf 23 (some 49) (bT 28 24) HT_ ?_
    refine pf 24 (some 50) (bT 28 25) HT_ ?_
    refine pf 25 (some 51) (bT 28 26) HT_ ?_
    refine pf 26 (some 52) (bT 28 27) HT_ ?_
    refine pu 27 (some 53) (bT 28 28) HT_ ?_
    refine done_ (done_of HT_.out (by kernel_rfl)) ?_
    try go_wp2
    go_ret
    exact er (bbw2 HB GE481 GE489)
   ·go_wp2_with (first | ((with_reducible refine gate_callee (f := 36) rfl ?_); refine gl 58 Try.func36 #[] ?_; (with_reducible refine (impl_unit.calls _ _ _ _ _ A70.out).mono ?_); rintro e w73 ⟨rfl, hb⟩; refine ⟨_, rfl, ?_⟩; replace HO_7 := asd (Kd.R_below (kr HO_7) hb); replace HO_8 := asd (mapMo.MS_below (by (with_reducible repeat (first | apply mapMo.MS_alloc | apply mapMo.MS_drewN | apply mapMo.MS_drew)); exact HO_8.out) hb); replace BK481 := bB BK481 hb; replace HB := bS1 HB GE481 hb; (try clear hb)) | (at_lookup; refine mapMo.get_has A71.out rfl _ _ rfl rfl (by (with_reducible repeat (first | apply mapMo.MS_alloc | apply mapMo.MS_drewN | apply mapMo.MS_drew)); exact HO_8.out) rfl ?_))
    go_loopg [64] k1 (fun kq v64 w' => ∃ (x64_2 : Int), v64 = .int .i64 x64_2 ∧ Aside0 (impl_isGroup.l1 kq l2 x8_1 l2 (l2.length : Int) x64_2 a1_0 a1_1 a1_2 = some r) ∧ Aside0 (kq ≤ k1) ∧ Aside0 (mapMo.MS w' gbM x8_1) ∧ Aside0 (w'.heap[gb481]? = some (.cells #[.int .i64 a1_0, .int .i64 a1_1, .int .i64 a1_2] 28 (0, 0))) ∧ Aside0 (Below w.heap.size w w'))
    case atStart => exact ⟨(0), (by first | rfl | (simp; done) | (simp [*]; done)), H', ⟨Nat.le_refl _⟩, ⟨by (with_reducible repeat (first | apply mapMo.MS_alloc | apply mapMo.MS_drewN | apply mapMo.MS_drew)); exact HO_8.out⟩, ⟨bkp BK481⟩, ⟨bbw1 HB GE481⟩⟩
    case round =>
     clear H'
     try clear c1
     try clear c2
     try clear p2
     try clear c3
     try clear c4
     try clear p4
     try clear q4
     try clear hx4
     try clear c5
     try clear c6
     try clear p6
     try clear c7
     try clear c10
     try clear c10b0
     try clear c11
     try clear c12
     try clear c14
     try clear c21
     try clear c25
     try clear c25b0
     try clear c27
     try clear c28
     try clear c36
     try clear c40
     try clear c45
     try clear p48
     try clear q48
     try clear hx48
     try clear c52
     try clear c54
     try clear c57
     try clear c64
     try clear p64
     try clear c72
     try clear hcz55_0
     try clear hcz55_1
     try clear hcz55_2
     try clear hcz55_3
     try clear hcz55_4
     try clear hcz55_5
     try clear hcz61_0
     try clear hcz61_1
     try clear hcz61_2
     try clear hcz61_3
     try clear hcz61_4
     try clear hcz61_5
     try clear hcz65_0
     try clear hcz65_1
     try clear hcz65_2
     try clear hcz65_3
     try clear hcz65_4
     try clear hcz65_5
     try clear hfz50_5
     try clear hfz55_0
     try clear hfz55_1
     try clear hfz55_2
     try clear hfz55_3
     try clear hfz55_4
     try clear hfz55_5
     try clear hfz61_0
     try clear hfz61_1
     try clear hfz61_2
     try clear hfz61_3
     try clear hfz61_4
     try clear hfz61_5
     try clear hfz65_0
     try clear hfz65_1
     try clear hfz65_2
     try clear hfz65_3
     try clear hfz65_4
     try clear hfz65_5
     try clear hx488_0
     try clear hx488_1
     try clear hx488_2
     try clear hx488_3
     try clear hx488_4
     try clear hx488_5
     try clear p488
     try clear q488
     obtain ⟨x64_2, rfl, HA, HK2, HO_8, BK481, HB⟩ := hrel
     cases gk with
     | zero => exact absurd HA.out (by simp [impl_isGroup.l1])
     | succ k2 =>
      have H := HA.out
      clear HA
      simp only [impl_isGroup.l1] at H
      by_cases c76 : x64_2 < (l2.length : Int)
      rw [if_pos c76] at H
      have c76b0 := decide_eq_true c76
      clear c76
      by_cases c77 : 0 ≤ x64_2
      rw [if_pos c77] at H
      have c77b0 := decide_eq_true c77
      clear c77
      by_cases c78 : x64_2 < (l2.length : Int)
      rw [if_pos c78] at H
      have c78b0 := decide_eq_true c78
      clear c78
      have H' := Aside0.mk H
      clear H
      rotate_left
      ·rw [if_neg c78] at H
       exact absurd H (by simp)
      ·rw [if_neg c77] at H
       exact absurd H (by simp)
      rw [if_neg c76] at H
      have c76b0 := decide_eq_false c76
      clear c76
      obtain rfl := Option.some.inj H
      rotate_left
      ·obtain ⟨p506, q506, ad506, e506, hx506_0, hx506_1, hx506_2, hx506_3, hx506_4, hx506_5⟩ := at_T44x HR2.out HB x64_2
       cases e506
       go_wp2_with (first | ((with_reducible refine gd 12 rfl ?_); refine bx #[.int .i64 0, .int .i64 0, .int .i64 0, .int .i64 0, .int .i64 0, .int .i64 0] 44 ?_; intro gb507 hg w79 BK507 hb; replace HO_8 := asd (mapMo.MS_below (by (with_reducible repeat (first | apply mapMo.MS_alloc | apply mapMo.MS_drewN | apply mapMo.MS_drew)); exact HO_8.out) hb); have GE507 := ngw1 hg HB GE481; replace HB := bS1 HB GE481 hb; have NB481_507 := nlt hg BK481; have NB507_481 := nsy (nlt hg BK481); replace BK481 := bB BK481 hb; clear hb hg; have hnb80 := NB507_481.out; have hnc80 := NB481_507.out; obtain ⟨hcz81_0, hcz81_1, hcz81_2, hcz81_3, hcz81_4, hcz81_5, hfz81_0, hfz81_1, hfz81_2, hfz81_3, hfz81_4, hfz81_5⟩ := bz6 BK507))
       go_loopg [70] k2 (fun kq v70 w' => ∃ (x70_3 : Int), v70 = .int .i64 x70_3 ∧ Aside0 (impl_isGroup.l2 kq l2 x8_1 l2 (l2.length : Int) x64_2 l2 (l2.length : Int) x70_3 a1_0 a1_1 a1_2 ((rd_T44 l2 x64_2).f0.f0) ((rd_T44 l2 x64_2).f0.f1) ((rd_T44 l2 x64_2).f0.f2) ((rd_T44 l2 x64_2).f0.f3) ((rd_T44 l2 x64_2).f1.f0) ((rd_T44 l2 x64_2).f1.f1) = some r) ∧ Aside0 (kq ≤ k2) ∧ Aside0 (mapMo.MS w' gbM x8_1) ∧ Aside0 (w'.heap[gb481]? = some (.cells #[.int .i64 a1_0, .int .i64 a1_1, .int .i64 a1_2] 28 (0, 0))) ∧ Aside0 (w'.heap[gb507]? = some (.cells #[.int .i64 ((rd_T44 l2 x64_2).f0.f0), .int .i64 ((rd_T44 l2 x64_2).f0.f1), .int .i64 ((rd_T44 l2 x64_2).f0.f2), .int .i64 ((rd_T44 l2 x64_2).f0.f3), .int .i64 ((rd_T44 l2 x64_2).f1.f0), .int .i64 ((rd_T44 l2 x64_2).f1.f1)] 44 (0, 0))) ∧ Aside0 (Below w.heap.size w w'))
       case atStart => exact ⟨(0), (by first | rfl | (simp; done) | (simp [*]; done)), H', ⟨Nat.le_refl _⟩, ⟨by have q_ := mapMo.MS_ne HO_8.out BK507.out; repeat (first | (with_reducible first | exact HO_8.out | refine mapMo.MS_set ?_ q_ | apply mapMo.MS_alloc | apply mapMo.MS_drewN | apply mapMo.MS_drew) | exact HO_8.out)⟩, ⟨bq1 BK481 NB481_507⟩, ⟨bq0 BK507⟩, ⟨bbw2 HB GE481 GE507⟩⟩
       case round =>
        clear H'
        try clear c1
        try clear c2
        try clear p2
        try clear c3
        try clear c4
        try clear p4
        try clear q4
        try clear hx4
        try clear c5
        try clear p5
        try clear q5
        try clear hx5
        try clear c6
        try clear p6
        try clear c7
        try clear c8
        try clear c10
        try clear c10b0
        try clear c11
        try clear c12
        try clear c14
        try clear c21
        try clear c25
        try clear c25b0
        try clear c27
        try clear c28
        try clear c36
        try clear c40
        try clear c45
        try clear p48
        try clear q48
        try clear hx48
        try clear p50
        try clear q50
        try clear hx50
        try clear c52
        try clear c54
        try clear c57
        try clear c64
        try clear p64
        try clear c72
        try clear c76
        try clear c76b0
        try clear c77
        try clear c77b0
        try clear c78
        try clear c78b0
        try clear c80
        try clear hcz55_0
        try clear hcz55_1
        try clear hcz55_2
        try clear hcz55_3
        try clear hcz55_4
        try clear hcz55_5
        try clear hcz61_0
        try clear hcz61_1
        try clear hcz61_2
        try clear hcz61_3
        try clear hcz61_4
        try clear hcz61_5
        try clear hcz65_0
        try clear hcz65_1
        try clear hcz65_2
        try clear hcz65_3
        try clear hcz65_4
        try clear hcz65_5
        try clear hcz81_0
        try clear hcz81_1
        try clear hcz81_2
        try clear hcz81_3
        try clear hcz81_4
        try clear hcz81_5
        try clear hfz50_5
        try clear hfz55_0
        try clear hfz55_1
        try clear hfz55_2
        try clear hfz55_3
        try clear hfz55_4
        try clear hfz55_5
        try clear hfz61_0
        try clear hfz61_1
        try clear hfz61_2
        try clear hfz61_3
        try clear hfz61_4
        try clear hfz61_5
        try clear hfz65_0
        try clear hfz65_1
        try clear hfz65_2
        try clear hfz65_3
        try clear hfz65_4
        try clear hfz65_5
        try clear hfz81_0
        try clear hfz81_1
        try clear hfz81_2
        try clear hfz81_3
        try clear hfz81_4
        try clear hfz81_5
        try clear hx488_0
        try clear hx488_1
        try clear hx488_2
        try clear hx488_3
        try clear hx488_4
        try clear hx488_5
        try clear hx506_0
        try clear hx506_1
        try clear hx506_2
        try clear hx506_3
        try clear hx506_4
        try clear hx506_5
        try clear p2
        try clear p4
        try clear p48
        try clear p488
        try clear p506
        try clear p6
        try clear p64
        try clear q4
        try clear q48
        try clear q488
        try clear q506
        obtain ⟨x70_3, rfl, HA, HK3, HO_8, BK481, BK507, HB⟩ := hrel
        cases gk with
        | zero => exact absurd HA.out (by simp [impl_isGroup.l2])
        | succ k3 =>
         have H := HA.out
         clear HA
         simp only [impl_isGroup.l2] at H
         by_cases c82 : x70_3 < (l2.length : Int)
         rw [if_pos c82] at H
         have c82b0 := decide_eq_true c82
         clear c82
         by_cases c83 : 0 ≤ x70_3
         rw [if_pos c83] at H
         have c83b0 := decide_eq_true c83
         clear c83
         by_cases c84 : x70_3 < (l2.length : Int)
         rw [if_pos c84] at H
         have c84b0 := decide_eq_true c84
         clear c84
         obtain ⟨⟨t510, t511, t512, t513, t514, t515⟩, A85, H⟩ := ob H
         try dsimp only at H
         obtain ⟨⟨t516, t517, t518, t519, t520, t521⟩, A86, H⟩ := ob H
         try dsimp only at H
         obtain ⟨t522, A87, H⟩ := ob H
         try dsimp only at H
         by_cases c88 : t522 = true
         subst c88
         replace H := ifT H
         have H' := Aside0.mk H
         clear H
         rotate_left
         replace c88 := Bool.eq_false_iff.mpr c88
         subst c88
         replace H := ifF H
         obtain rfl := Option.some.inj H
         rotate_left
         ·rw [if_neg c84] at H
          exact absurd H (by simp)
         ·rw [if_neg c83] at H
          exact absurd H (by simp)
         rw [if_neg c82] at H
         have c82b0 := decide_eq_false c82
         clear c82
         have H' := Aside0.mk H
         clear H
         rotate_left
         rotate_left 2
         ·go_wp2
          go_roundg k3
          case measure => have := HK1.out; have := HK2.out; have := HK3.out; omega
          case rel => exact ⟨(wrap64 (x64_2 + 1)), (by first | rfl | (simp; done) | (simp [*]; done)), H', ⟨by have := HK1.out; have := HK2.out; have := HK3.out; omega⟩, ⟨by (with_reducible repeat (first | apply mapMo.MS_alloc | apply mapMo.MS_drewN | apply mapMo.MS_drew)); exact HO_8.out⟩, ⟨bkp BK481⟩, ⟨bbw2 HB GE481 GE507⟩⟩
         all_goals
          obtain ⟨p508, q508, ad508, e508, hx508_0, hx508_1, hx508_2, hx508_3, hx508_4, hx508_5⟩ := at_T44x HR2.out HB x70_3
          obtain rfl : ad506 = ad508 := (by injection e508)
          try go_wp2_with (first | ((with_reducible refine gd 14 rfl ?_); refine bx #[.int .i64 0, .int .i64 0, .int .i64 0, .int .i64 0, .int .i64 0, .int .i64 0] 44 ?_; intro gb509 hg w89 BK509 hb; replace HO_8 := asd (mapMo.MS_below (by (with_reducible repeat (first | apply mapMo.MS_alloc | apply mapMo.MS_drewN | apply mapMo.MS_drew)); exact HO_8.out) hb); have GE509 := ngw2 hg HB GE481 GE507; replace HB := bS2 HB GE481 GE507 hb; have NB481_509 := nlt hg BK481; have NB509_481 := nsy (nlt hg BK481); replace BK481 := bB BK481 hb; have NB507_509 := nlt hg BK507; have NB509_507 := nsy (nlt hg BK507); replace BK507 := bB BK507 hb; clear hb hg; have hnb90 := NB509_481.out; have hnc90 := NB481_509.out; have hnb91 := NB509_507.out; have hnc91 := NB507_509.out; obtain ⟨hcz92_0, hcz92_1, hcz92_2, hcz92_3, hcz92_4, hcz92_5, hfz92_0, hfz92_1, hfz92_2, hfz92_3, hfz92_4, hfz92_5⟩ := bz6 BK509))
          obtain ⟨w93, h_w93⟩ : ∃ w_, ((((((w89.setCell ⟨gb509, 0, none⟩ (.int .i64 ((rd_T44 l2 x70_3).f0.f0))).setCell ⟨gb509, 1, none⟩ (.int .i64 ((rd_T44 l2 x70_3).f0.f1))).setCell ⟨gb509, 2, none⟩ (.int .i64 ((rd_T44 l2 x70_3).f0.f2))).setCell ⟨gb509, 3, none⟩ (.int .i64 ((rd_T44 l2 x70_3).f0.f3))).setCell ⟨gb509, 4, none⟩ (.int .i64 ((rd_T44 l2 x70_3).f1.f0))).setCell ⟨gb509, 5, none⟩ (.int .i64 ((rd_T44 l2 x70_3).f1.f1))) = w_ := ⟨_, rfl⟩
          replace HO_8 : Aside0 (mapMo.MS w93 gbM x8_1) := by rw [← h_w93]; exact ⟨by have q_ := mapMo.MS_ne HO_8.out BK509.out; repeat (first | (with_reducible first | exact HO_8.out | refine mapMo.MS_set ?_ q_ | apply mapMo.MS_alloc | apply mapMo.MS_drewN | apply mapMo.MS_drew) | exact HO_8.out)⟩
          replace BK481 : Aside0 (w93.heap[gb481]? = some (.cells #[.int .i64 a1_0, .int .i64 a1_1, .int .i64 a1_2] 28 (0, 0))) := by rw [← h_w93]; exact ⟨bq1 BK481 NB481_509⟩
          replace BK507 : Aside0 (w93.heap[gb507]? = some (.cells #[.int .i64 ((rd_T44 l2 x64_2).f0.f0), .int .i64 ((rd_T44 l2 x64_2).f0.f1), .int .i64 ((rd_T44 l2 x64_2).f0.f2), .int .i64 ((rd_T44 l2 x64_2).f0.f3), .int .i64 ((rd_T44 l2 x64_2).f1.f0), .int .i64 ((rd_T44 l2 x64_2).f1.f1)] 44 (0, 0))) := by rw [← h_w93]; exact ⟨bq1 BK507 NB507_509⟩
          replace BK509 : Aside0 (w93.heap[gb509]? = some (.cells #[.int .i64 ((rd_T44 l2 x70_3).f0.f0), .int .i64 ((rd_T44 l2 x70_3).f0.f1), .int .i64 ((rd_T44 l2 x70_3).f0.f2), .int .i64 ((rd_T44 l2 x70_3).f0.f3), .int .i64 ((rd_T44 l2 x70_3).f1.f0), .int .i64 ((rd_T44 l2 x70_3).f1.f1)] 44 (0, 0))) := by rw [← h_w93]; exact ⟨bq0 BK509⟩
          replace HB : Aside0 (Below w.heap.size w w93) := by rw [← h_w93]; exact ⟨bbw3 HB GE481 GE507 GE509⟩
          (try rw [h_w93]); clear h_w93
          replace HO_8 := asd (mapMo.MS_drew HO_8.out)
          replace BK481 := asd (blk_drew BK481.out)
          replace BK507 := asd (blk_drew BK507.out)
          replace BK509 := asd (blk_drew BK509.out)
          replace HB := asd (below_drew1 HB.out)
          refine sh 8 (cb3 BK481 (cb6 BK507 (eb6 BK509))) (fun hHeld => ?_); refine with_tabW impl_isGroup.tab17 impl_isGroup.bits17 (fun HT_ HW_ => ?_)
          generalize w93.drew = w94 at HO_8 BK481 BK507 BK509 HB hHeld ⊢
          refine pu 0 (some 74) (bT 8 1) HT_ ?_
          refine ta 1 (some 75) (bT 8 2) HT_ HW_ hHeld ?_
          refine ta 2 (some 76) (bT 8 3) HT_ HW_ hHeld ?_
          refine ta 3 (some 77) (bT 8 4) HT_ HW_ hHeld ?_
          refine ro 4 (some 78) (bT 8 5) HT_ (fun K hK => ?_)
          refine gs Try.func60 #[.agg #[.int .i64 ((rd_T44 l2 x64_2).f0.f0), .int .i64 ((rd_T44 l2 x64_2).f0.f1), .int .i64 ((rd_T44 l2 x64_2).f0.f2), .int .i64 ((rd_T44 l2 x64_2).f0.f3), .int .i64 ((rd_T44 l2 x64_2).f1.f0), .int .i64 ((rd_T44 l2 x64_2).f1.f1)], .agg #[.int .i64 ((rd_T44 l2 x70_3).f0.f0), .int .i64 ((rd_T44 l2 x70_3).f0.f1), .int .i64 ((rd_T44 l2 x70_3).f0.f2), .int .i64 ((rd_T44 l2 x70_3).f0.f3), .int .i64 ((rd_T44 l2 x70_3).f1.f0), .int .i64 ((rd_T44 l2 x70_3).f1.f1)]] ?_
          with_reducible refine (impl_Motion_times.calls _ _ _ _ _ _ _ _ _ _ _ _ _ _ _ _ _ _ _ A85.out).mono ?_
          rintro e w95 ⟨rfl, hb⟩
          refine ⟨_, rfl, ?_⟩
          replace HO_8 := asd (mapMo.MS_below (by (with_reducible repeat (first | apply mapMo.MS_alloc | apply mapMo.MS_drewN | apply mapMo.MS_drew)); exact HO_8.out) hb)
          replace BK481 := bB BK481 hb
          replace BK507 := bB BK507 hb
          replace BK509 := bB BK509 hb
          replace HB := bS3 HB GE481 GE507 GE509 hb
          (try clear hb)
          (try clear hb2)
          (try clear hk)
          (try clear hi)
          refine hK.out _ _ (cb3 BK481 (cb6 BK507 (eb6 BK509))).out (fun hHeld => ?_)
          clear hK K
          refine norm_ (a' := ?_) ?_ ?_
          rotate_left
          ·show Act.put _ (some 78) _ = _
           simp only [Act.put, sA, sB, sC, i64_w, i32_w]
           rfl
          refine ro 5 (some 79) (bT 8 6) HT_ (fun K hK => ?_)
          refine gs Try.func59 #[.agg #[.int .i64 a1_0, .int .i64 a1_1, .int .i64 a1_2], .agg #[.int .i64 t510, .int .i64 t511, .int .i64 t512, .int .i64 t513, .int .i64 t514, .int .i64 t515]] ?_
          with_reducible refine (impl_Lattice_reduceMotion.calls _ _ _ _ _ _ _ _ _ _ _ _ _ _ _ _ A86.out).mono ?_
          rintro e w96 ⟨rfl, hb⟩
          refine ⟨_, rfl, ?_⟩
          replace HO_8 := asd (mapMo.MS_below (by (with_reducible repeat (first | apply mapMo.MS_alloc | apply mapMo.MS_drewN | apply mapMo.MS_drew)); exact HO_8.out) hb)
          replace BK481 := bB BK481 hb
          replace BK507 := bB BK507 hb
          replace BK509 := bB BK509 hb
          replace HB := bS3 HB GE481 GE507 GE509 hb
          (try clear hb)
          (try clear hb2)
          (try clear hk)
          (try clear hi)
          refine hK.out _ _ (cb3 BK481 (cb6 BK507 (eb6 BK509))).out (fun hHeld => ?_)
          clear hK K
          refine norm_ (a' := ?_) ?_ ?_
          rotate_left
          ·show Act.put _ (some 79) _ = _
           simp only [Act.put, sA, sB, sC, i64_w, i32_w]
           rfl
          refine ro 6 (some 80) (bT 8 7) HT_ (fun K hK => ?_)
          refine mapMo.get_step A87.out (by rfl) rfl _ _ rfl rfl (by (with_reducible repeat (first | apply mapMo.MS_alloc | apply mapMo.MS_drewN | apply mapMo.MS_drew)); exact HO_8.out) rfl ?_
          refine hK.out _ _ hHeld (fun hHeld => ?_)
          clear hK K
          refine norm_ (a' := ?_) ?_ ?_
          rotate_left
          ·show Act.put _ (some 80) _ = _
           simp only [Act.put, sA, sB, sC, i64_w, i32_w]
           rfl
          refine pu 7 (some 81) (bT 8 8) HT_ ?_
          refine done_ (done_of HT_.out (by kernel_rfl)) ?_
          try go_wp2
         ·go_roundg k3
          case measure => have := HK1.out; have := HK2.out; have := HK3.out; omega
          case rel => exact ⟨(wrap64 (x70_3 + 1)), (by first | rfl | (simp; done) | (simp [*]; done)), H', ⟨by have := HK1.out; have := HK2.out; have := HK3.out; omega⟩, ⟨by (with_reducible repeat (first | apply mapMo.MS_alloc | apply mapMo.MS_drewN | apply mapMo.MS_drew)); exact HO_8.out⟩, ⟨bkp BK481⟩, ⟨bkp BK507⟩, ⟨bbw3 HB GE481 GE507 GE509⟩⟩
         ·go_ret
          exact er (bbw3 HB GE481 GE507 GE509)
      ·go_wp2
       go_ret
       exact er (bbw1 HB GE481)
   ·go_wp2_with (first | ((with_reducible refine gate_callee (f := 36) rfl ?_); refine gl 58 Try.func36 #[] ?_; (with_reducible refine (impl_unit.calls _ _ _ _ _ A70.out).mono ?_); rintro e w107 ⟨rfl, hb⟩; refine ⟨_, rfl, ?_⟩; replace HO_7 := asd (Kd.R_below (kr HO_7) hb); replace HO_8 := asd (mapMo.MS_below (by (with_reducible repeat (first | apply mapMo.MS_alloc | apply mapMo.MS_drewN | apply mapMo.MS_drew)); exact HO_8.out) hb); replace BK481 := bB BK481 hb; replace HB := bS1 HB GE481 hb; (try clear hb)) | (at_lookup; refine mapMo.get_has A71.out rfl _ _ rfl rfl (by (with_reducible repeat (first | apply mapMo.MS_alloc | apply mapMo.MS_drewN | apply mapMo.MS_drew)); exact HO_8.out) rfl ?_))
    go_ret
    exact er (bbw1 HB GE481)
   all_goals
    obtain ⟨p488, q488, ad488, e488, hx488_0, hx488_1, hx488_2, hx488_3, hx488_4, hx488_5⟩ := at_T44x HR2.out HB x21_1
    cases e488
    try go_wp2_with (first | ((with_reducible refine gd 10 rfl ?_); refine bx #[.int .i64 0, .int .i64 0, .int .i64 0, .int .i64 0, .int .i64 0, .int .i64 0] 44 ?_; intro gb489 hg w17 BK489 hb; replace HO_7 := asd (Kd.R_below (kr HO_7) hb); replace HO_8 := asd (mapMo.MS_below (by (with_reducible repeat (first | apply mapMo.MS_alloc | apply mapMo.MS_drewN | apply mapMo.MS_drew)); exact HO_8.out) hb); have GE489 := ngw1 hg HB GE481; replace HB := bS1 HB GE481 hb; have NB481_489 := nlt hg BK481; have NB489_481 := nsy (nlt hg BK481); replace BK481 := bB BK481 hb; clear hb hg; have hnb18 := NB489_481.out; have hnc18 := NB481_489.out; obtain ⟨hcz19_0, hcz19_1, hcz19_2, hcz19_3, hcz19_4, hcz19_5, hfz19_0, hfz19_1, hfz19_2, hfz19_3, hfz19_4, hfz19_5⟩ := bz6 BK489))
    obtain ⟨w20, h_w20⟩ : ∃ w_, ((((((w17.setCell ⟨gb489, 0, none⟩ (.int .i64 ((rd_T44 l2 x21_1).f0.f0))).setCell ⟨gb489, 1, none⟩ (.int .i64 ((rd_T44 l2 x21_1).f0.f1))).setCell ⟨gb489, 2, none⟩ (.int .i64 ((rd_T44 l2 x21_1).f0.f2))).setCell ⟨gb489, 3, none⟩ (.int .i64 ((rd_T44 l2 x21_1).f0.f3))).setCell ⟨gb489, 4, none⟩ (.int .i64 ((rd_T44 l2 x21_1).f1.f0))).setCell ⟨gb489, 5, none⟩ (.int .i64 ((rd_T44 l2 x21_1).f1.f1))) = w_ := ⟨_, rfl⟩
    replace HO_7 : Aside0 (Kd.R k40 40 w20 w.heap.size (fun _ => True) v483 t482) := by rw [← h_w20]; exact ⟨by (with_reducible repeat (first | apply Kd.R_alloc | apply Kd.R_drewN | apply Kd.R_drew)); exact Kd.R_mono (rw6 (Kd.R_types HO_7.out BK489.out (by decide))) (fun _ hk => trivial)⟩
    replace HO_8 : Aside0 (mapMo.MS w20 gbM x8_1) := by rw [← h_w20]; exact ⟨by have q_ := mapMo.MS_ne HO_8.out BK489.out; repeat (first | (with_reducible first | exact HO_8.out | refine mapMo.MS_set ?_ q_ | apply mapMo.MS_alloc | apply mapMo.MS_drewN | apply mapMo.MS_drew) | exact HO_8.out)⟩
    replace BK481 : Aside0 (w20.heap[gb481]? = some (.cells #[.int .i64 a1_0, .int .i64 a1_1, .int .i64 a1_2] 28 (0, 0))) := by rw [← h_w20]; exact ⟨bq1 BK481 NB481_489⟩
    replace BK489 : Aside0 (w20.heap[gb489]? = some (.cells #[.int .i64 ((rd_T44 l2 x21_1).f0.f0), .int .i64 ((rd_T44 l2 x21_1).f0.f1), .int .i64 ((rd_T44 l2 x21_1).f0.f2), .int .i64 ((rd_T44 l2 x21_1).f0.f3), .int .i64 ((rd_T44 l2 x21_1).f1.f0), .int .i64 ((rd_T44 l2 x21_1).f1.f1)] 44 (0, 0))) := by rw [← h_w20]; exact ⟨bq0 BK489⟩
    replace HB : Aside0 (Below w.heap.size w w20) := by rw [← h_w20]; exact ⟨bbw2 HB GE481 GE489⟩
    (try rw [h_w20]); clear h_w20
    replace HO_7 := asd (Kd.R_drew HO_7.out)
    replace HO_8 := asd (mapMo.MS_drew HO_8.out)
    replace BK481 := asd (blk_drew BK481.out)
    replace BK489 := asd (blk_drew BK489.out)
    replace HB := asd (below_drew1 HB.out)
    obtain ⟨Ao22, co22, eo22⟩ := Kd.R_slice HO_7.out
    (first | subst eo22 | (injection eo22 with f1_ f2_ f3_; have f4_ := f1_.symm; have f5_ := f3_.symm; clear f1_ f2_ f3_; subst f4_; subst f5_))
   refine sh 28 (cb6 BK489 (eb3 BK481)) (fun hHeld => ?_); refine with_tabW impl_isGroup.tab5 impl_isGroup.bits5 (fun HT_ HW_ => ?_)
   generalize w20.drew = w21 at HO_7 HO_8 BK481 BK489 HB hHeld ⊢
   rotate_left
   obtain ⟨p493, q493, ad493, e493, hw493_0, hw493_1, hw493_2, hw493_3, hw493_4, hw493_5, hx493_0, hx493_1, hx493_2, hx493_3, hx493_4, hx493_5⟩ := at_T44w HR2.out HB (ji26)
   obtain rfl : ad488 = ad493 := (by injection e493)
   refine sh 28 (cb6 BK489 (cb3 BK481 (ex6 HB hw493_0 hw493_1 hw493_2 hw493_3 hw493_4 hw493_5))) (fun hHeld => ?_); refine with_tabW impl_isGroup.tab5 impl_isGroup.bits5 (fun HT_ HW_ => ?_)
   generalize w20.drew = w35 at HO_7 HO_8 BK481 BK489 HB hx493_0 hx493_1 hx493_2 hx493_3 hx493_4 hx493_5 hHeld ⊢
   rotate_left
   obtain ⟨p493, q493, ad493, e493, hw493_0, hw493_1, hw493_2, hw493_3, hw493_4, hw493_5, hx493_0, hx493_1, hx493_2, hx493_3, hx493_4, hx493_5⟩ := at_T44w HR2.out HB (ji26)
   obtain rfl : ad488 = ad493 := (by injection e493)
   refine sh 28 (cb6 BK489 (cb3 BK481 (ex6 HB hw493_0 hw493_1 hw493_2 hw493_3 hw493_4 hw493_5))) (fun hHeld => ?_); refine with_tabW impl_isGroup.tab5 impl_isGroup.bits5 (fun HT_ HW_ => ?_)
   generalize w20.drew = w45 at HO_7 HO_8 BK481 BK489 HB hx493_0 hx493_1 hx493_2 hx493_3 hx493_4 hx493_5 hHeld ⊢
   rotate_left
   all_goals
    refine pu 0 (some 26) (bT 28 1) HT_ ?_
    refine pu 1 (some 27) (bT 28 2) HT_ ?_
    refine ta 2 (some 28) (bT 28 3) HT_ HW_ hHeld ?_
    refine ro 3 (some 29) (bT 28 4) HT_ (fun K hK => ?_)
    refine gs Try.func57 #[.slice Ao22 t482.length co22, .agg #[.int .i64 ((rd_T44 l2 x21_1).f0.f0), .int .i64 ((rd_T44 l2 x21_1).f0.f1), .int .i64 ((rd_T44 l2 x21_1).f0.f2), .int .i64 ((rd_T44 l2 x21_1).f0.f3)]] ?_
    with_reducible refine (impl_Mat_57.calls _ _ _ _ _ _ _ _ _ _ ?side1 ?side2 A13.out).mono ?_
    (case side1 => exact ks (Kd.R_reads' HO_7.out).2.2)
    (case side2 => exact (Kd.R_reads' HO_7.out).2.1)
    rintro e w23 ⟨rfl, hb⟩
    refine ⟨_, rfl, ?_⟩
    replace HO_7 := asd (Kd.R_below (kr HO_7) hb)
    replace HO_8 := asd (mapMo.MS_below (by (with_reducible repeat (first | apply mapMo.MS_alloc | apply mapMo.MS_drewN | apply mapMo.MS_drew)); exact HO_8.out) hb)
    replace BK481 := bB BK481 hb
    replace BK489 := bB BK489 hb
    replace HB := bS2 HB GE481 GE489 hb
    (try clear hb)
    (try clear hb2)
    (try clear hk)
    (try clear hi)
   refine hK.out _ _ (cb6 BK489 (eb3 BK481)).out (fun hHeld => ?_)
   rotate_left
   refine hK.out _ _ (cb6 BK489 (cb3 BK481 (ex6 HB hw493_0 hw493_1 hw493_2 hw493_3 hw493_4 hw493_5))).out (fun hHeld => ?_)
   rotate_left
   refine hK.out _ _ (cb6 BK489 (cb3 BK481 (ex6 HB hw493_0 hw493_1 hw493_2 hw493_3 hw493_4 hw493_5))).out (fun hHeld => ?_)
   rotate_left
   all_goals
    clear hK K
    refine norm_ (a' := ?_) ?_ ?_
    rotate_left
    ·show Act.put _ (some 29) _ = _
     simp only [Act.put, sA, sB, sC, i64_w, i32_w]
     rfl
    refine pu 4 (some 30) (bT 28 5) HT_ ?_
    refine pu 5 (some 31) (bT 28 6) HT_ ?_
    refine pu 7 (some 33) (bs 28 191) HT_ ?_
    refine pu 10 (some 36) (bs 28 1215) HT_ ?_
    refine ta 6 (some 32) (bs 28 1279) HT_ HW_ hHeld ?_
    refine ta 8 (some 34) (bs 28 1535) HT_ HW_ hHeld ?_
    refine ta 11 (some 37) (bs 28 3583) HT_ HW_ hHeld ?_
    refine ro 9 (some 35) (bT 28 12) HT_ (fun K hK => ?_)
    refine gs Try.func21 #[.agg #[.int .i64 a1_0, .int .i64 a1_1, .int .i64 a1_2], .agg #[.int .i64 ((rd_T44 l2 x21_1).f1.f0), .int .i64 ((rd_T44 l2 x21_1).f1.f1)]] ?_
    with_reducible refine (impl_Lattice_reduce.calls _ _ _ _ _ _ _ _ A15.out).mono ?_
    rintro e w24 ⟨rfl, hb⟩
    refine ⟨_, rfl, ?_⟩
    replace HO_7 := asd (Kd.R_below (kr HO_7) hb)
    replace HO_8 := asd (mapMo.MS_below (by (with_reducible repeat (first | apply mapMo.MS_alloc | apply mapMo.MS_drewN | apply mapMo.MS_drew)); exact HO_8.out) hb)
    replace BK481 := bB BK481 hb
    replace BK489 := bB BK489 hb
    replace HB := bS2 HB GE481 GE489 hb
    (try clear hb)
    (try clear hb2)
    (try clear hk)
    (try clear hi)
   refine hK.out _ _ (cb6 BK489 (eb3 BK481)).out (fun hHeld => ?_)
   rotate_left
   refine hK.out _ _ (cb6 BK489 (cb3 BK481 (ex6 HB hw493_0 hw493_1 hw493_2 hw493_3 hw493_4 hw493_5))).out (fun hHeld => ?_)
   rotate_left
   refine hK.out _ _ (cb6 BK489 (cb3 BK481 (ex6 HB hw493_0 hw493_1 hw493_2 hw493_3 hw493_4 hw493_5))).out (fun hHeld => ?_)
   rotate_left
   all_goals
    clear hK K
    refine norm_ (a' := ?_) ?_ ?_
    rotate_left
    ·show Act.put _ (some 35) _ = _
     simp only [Act.put, sA, sB, sC, i64_w, i32_w]
     rfl
    refine pu 12 (some 38) (bT 28 13) HT_ ?_
    refine pu 13 (some 39) (bT 28 14) HT_ ?_
    refine pu 14 (some 40) (bT 28 15) HT_ ?_
   ·refine pf 15 (some 41) (bT 28 16) HT_ ?_
    refine pf 16 (some 42) (bT 28 17) HT_ ?_
    refine pf 17 (some 43) (bT 28 18) HT_ ?_
    refine pf 18 (some 44) (bT 28 19) HT_ ?_
    refine pf 19 (some 45) (bT 28 20) HT_ ?_
    refine pf 20 (some 46) (bT 28 21) HT_ ?_
    refine pf 21 (some 47) (bT 28 22) HT_ ?_
    refine pf 22 (some 48) (bT 28 23) HT_ ?_
    refine pf 23 (some 49) (bT 28 24) HT_ ?_
    refine pf 24 (some 50) (bT 28 25) HT_ ?_
    refine pf 25 (some 51) (bT 28 26) HT_ ?_
    refine pf 26 (some 52) (bT 28 27) HT_ ?_
    refine pu 27 (some 53) (bT 28 28) HT_ ?_
    refine done_ (done_of HT_.out (by kernel_rfl)) ?_
    try go_wp2
    go_ret
    exact er (bbw2 HB GE481 GE489)
   rotate_left 2
   all_goals
    refine pu 15 (some 41) (bT 28 16) HT_ ?_
    refine pu 16 (some 42) (bT 28 17) HT_ ?_
    refine pu 17 (some 43) (bT 28 18) HT_ ?_
    refine pu 18 (some 44) (bT 28 19) HT_ ?_
    refine pu 19 (some 45) (bT 28 20) HT_ ?_
    refine pu 20 (some 46) (bT 28 21) HT_ ?_
    refine pu 21 (some 47) (bT 28 22) HT_ ?_
    refine ta 22 (some 48) (bT 28 23) HT_ HW_ hHeld ?_
    refine ta 23 (some 49) (bT 28 24) HT_ HW_ hHeld ?_
    refine ro 24 (some 50) (bT 28 25) HT_ (fun K hK => ?_)
    refine goes_ Try.func58 (by kernel_rfl) rfl #[.agg #[.int .i64 ((rd_T44 l2 (ji26)).f0.f0), .int .i64 ((rd_T44 l2 (ji26)).f0.f1), .int .i64 ((rd_T44 l2 (ji26)).f0.f2), .int .i64 ((rd_T44 l2 (ji26)).f0.f3), .int .i64 ((rd_T44 l2 (ji26)).f1.f0), .int .i64 ((rd_T44 l2 (ji26)).f1.f1)], .agg #[.int .i64 ((rd_T44 l2 x21_1).f0.f0), .int .i64 ((rd_T44 l2 x21_1).f0.f1), .int .i64 ((rd_T44 l2 x21_1).f0.f2), .int .i64 ((rd_T44 l2 x21_1).f0.f3), .int .i64 ((rd_T44 l2 x21_1).f1.f0), .int .i64 ((rd_T44 l2 x21_1).f1.f1)]] (by rfl) rfl rfl (by (try simp only [List.map_toArray, List.map_cons, List.map_nil]); first | done | (simp only [hji26]; rfl) | rfl | (simp only [List.length_drop, List.length_take]; rfl)) ?_
    with_reducible refine (impl_compareMotions.calls _ _ _ _ _ _ _ _ _ _ _ _ _ _ _ A29.out).mono ?_
    rintro e w39 ⟨rfl, hb⟩
    refine ⟨_, rfl, ?_⟩
    replace HO_7 := asd (Kd.R_below (kr HO_7) hb)
    replace HO_8 := asd (mapMo.MS_below (by (with_reducible repeat (first | apply mapMo.MS_alloc | apply mapMo.MS_drewN | apply mapMo.MS_drew)); exact HO_8.out) hb)
    replace BK481 := bB BK481 hb
    replace BK489 := bB BK489 hb
    replace HB := bS2 HB GE481 GE489 hb
    (try clear hb)
    (try clear hb2)
    (try clear hk)
    (try clear hi)
    refine hK.out _ _ (cb6 BK489 (cb3 BK481 (ex6 HB hw493_0 hw493_1 hw493_2 hw493_3 hw493_4 hw493_5))).out (fun hHeld => ?_)
    clear hK K
    refine norm_ (a' := ?_) ?_ ?_
    rotate_left
    ·show Act.put _ (some 50) _ = _
     simp only [Act.put, sA, sB, sC, i64_w, i32_w]
     rfl
    refine pu 25 (some 51) (bT 28 26) HT_ ?_
    refine pu 26 (some 52) (bT 28 27) HT_ ?_
    refine pu 27 (some 53) (bT 28 28) HT_ ?_
    refine done_ (done_of HT_.out (by kernel_rfl)) ?_
   ·try go_wp2
    go_ret
    exact ⟨by first | rfl | (simp [errW_none, errW_some] <;> rfl) | (simp only [← hji26]; first | rfl | (simp [errW_none, errW_some] <;> rfl)) | (simp [*, errW_none, errW_some] <;> rfl), bbw2 HB GE481 GE489⟩
   ·obtain ⟨hcz50_0, hcz50_1, hcz50_2, hcz50_3, hcz50_4, hcz50_5, hfz50_0, hfz50_1, hfz50_2, hfz50_3, hfz50_4, hfz50_5⟩ := bz6 BK489
    try go_wp2_with (first | (at_mapUpdate; refine mapMo.put_event rfl _ _ _ rfl rfl (by (with_reducible repeat (first | apply mapMo.MS_alloc | apply mapMo.MS_drewN | apply mapMo.MS_drew)); exact HO_8.out) (⟨(⟨(rd_T44 l2 x21_1).f0.f0, (rd_T44 l2 x21_1).f0.f1, (rd_T44 l2 x21_1).f0.f2, (rd_T44 l2 x21_1).f0.f3⟩ : S40), (⟨(rd_T44 l2 x21_1).f1.f0, (rd_T44 l2 x21_1).f1.f1⟩ : S42)⟩ : S44) rfl rfl LMc40.out.2 LMc40.out.1 ?_; intro w51 ho hg; rw [← Ny495.out] at ho; have hb : Below w.heap.size w w51 := mapMo.below_put (bbw2 HB GE481 GE489) GEM.out hg; have n0_ := asd (mapMo.R_map (kr HO_7) (by (with_reducible repeat (first | apply mapMo.MS_alloc | apply mapMo.MS_drewN | apply mapMo.MS_drew)); exact HO_8.out) hg); have n1_ := asd (mapMo.blk_put (g := gb481) (cs := #[.int .i64 a1_0, .int .i64 a1_1, .int .i64 a1_2]) (t := 28) (bkp BK481) (by (with_reducible repeat (first | apply mapMo.MS_alloc | apply mapMo.MS_drewN | apply mapMo.MS_drew)); exact HO_8.out) hg); have n2_ := asd (mapMo.blk_put (g := gb489) (cs := #[.int .i64 ((rd_T44 l2 x21_1).f0.f0), .int .i64 ((rd_T44 l2 x21_1).f0.f1), .int .i64 ((rd_T44 l2 x21_1).f0.f2), .int .i64 ((rd_T44 l2 x21_1).f0.f3), .int .i64 ((rd_T44 l2 x21_1).f1.f0), .int .i64 ((rd_T44 l2 x21_1).f1.f1)]) (t := 44) (bkp BK489) (by (with_reducible repeat (first | apply mapMo.MS_alloc | apply mapMo.MS_drewN | apply mapMo.MS_drew)); exact HO_8.out) hg); have n3_ := asd (hb); have n4_ := asd (ho); clear HO_7; clear BK481; clear BK489; clear HB; clear HO_8; have HO_7 := n0_; have BK481 := n1_; have BK489 := n2_; have HB := n3_; have HO497 := n4_; clear n0_ n1_ n2_ n3_ n4_; clear ho hb hg))
    go_roundg k1
    case measure => have := HK1.out; omega
    case rel => exact ⟨(y495), (wrap64 (x21_1 + 1)), (by first | rfl | (simp; done) | (simp [*]; done)), H', ⟨by have := HK1.out; omega⟩, ⟨by (with_reducible repeat (first | apply Kd.R_alloc | apply Kd.R_drewN | apply Kd.R_drew)); exact HO_7.out⟩, ⟨by (with_reducible repeat (first | apply mapMo.MS_alloc | apply mapMo.MS_drewN | apply mapMo.MS_drew)); exact HO497.out⟩, ⟨bkp BK481⟩, ⟨bbw2 HB GE481 GE489⟩⟩

end Go.Proofs.Ytfmjboloeabjmaa.PA
