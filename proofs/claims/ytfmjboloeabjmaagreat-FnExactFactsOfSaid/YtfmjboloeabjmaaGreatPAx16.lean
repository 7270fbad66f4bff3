import Derived.Test.YtfmjboloeabjmaaGreatPAx0
import Derived.Test.YtfmjboloeabjmaaGreatPAx3
import Derived.Test.YtfmjboloeabjmaaGreatPAx13
import Derived.Test.YtfmjboloeabjmaaGreatPAx14
import Derived.Test.YtfmjboloeabjmaaGreatPAx15
namespace Go.Proofs.YtfmjboloeabjmaaGreat.PA
open Go.RowKit Go.Proofs.YtfmjboloeabjmaaGreatW.PrintWords Go.Proofs.YtfmjboloeabjmaaGreatW.PrintLast Go.Proofs.YtfmjboloeabjmaaGreatW.PrintMore
attribute [local go_sem] max2_int min2_int max_two min_two max_three min_three max_four min_four   -- for this text's walks alone
set_option linter.unusedVariables false
set_option maxHeartbeats 8000000
set_option maxRecDepth 100000
set_option linter.unusedSimpArgs false
attribute [local go_sem high] eqA44
mutual
def impl_isGroup.l0 : Nat → List (S46) → List (S42) → List (S46) → List (S46) → Int → Int → Int → Int → Int → Option (Bool)
 | 0, _, _, _, _, _, _, _, _, _ => none
 | k + 1, x2, x7, x8, AA, D3, As, Ap, Aq, Ar => if As < D3 then (if 0 ≤ As then (if As < (AA.length : Int) then ((impl_Mat_91.f k x7 ((rd_T46 AA As).f0.f0) ((rd_T46 AA As).f0.f1) ((rd_T46 AA As).f0.f2) ((rd_T46 AA As).f0.f3)).bind fun Cv => (if Cv = true then ((impl_Lattice_reduce.f Ap Aq Ar ((rd_T46 AA As).f1.f0) ((rd_T46 AA As).f1.f1)).bind fun Cm => (if (!(Cm.1 == ((rd_T46 AA As).f1.f0)) || (!(Cm.2 == ((rd_T46 AA As).f1.f1)))) = true then (some false) else (if As > 0 then (if 0 ≤ (wrap64 (As - 1)) then (if (wrap64 (As - 1)) < (x2.length : Int) then ((impl_compareMotions.f k ((rd_T46 x2 (wrap64 (As - 1))).f0.f0) ((rd_T46 x2 (wrap64 (As - 1))).f0.f1) ((rd_T46 x2 (wrap64 (As - 1))).f0.f2) ((rd_T46 x2 (wrap64 (As - 1))).f0.f3) ((rd_T46 x2 (wrap64 (As - 1))).f1.f0) ((rd_T46 x2 (wrap64 (As - 1))).f1.f1) ((rd_T46 AA As).f0.f0) ((rd_T46 AA As).f0.f1) ((rd_T46 AA As).f0.f2) ((rd_T46 AA As).f0.f3) ((rd_T46 AA As).f1.f0) ((rd_T46 AA As).f1.f1)).bind fun A6 => (if A6 ≥ 0 then (some false) else (if (x8.length < 2932031007402 ∧ mapMo.wf (⟨(⟨(rd_T46 AA As).f0.f0, (rd_T46 AA As).f0.f1, (rd_T46 AA As).f0.f2, (rd_T46 AA As).f0.f3⟩ : S42), (⟨(rd_T46 AA As).f1.f0, (rd_T46 AA As).f1.f1⟩ : S44)⟩ : S46) = true) then (impl_isGroup.l0 k x2 x7 (x8 ++ [(⟨(⟨(rd_T46 AA As).f0.f0, (rd_T46 AA As).f0.f1, (rd_T46 AA As).f0.f2, (rd_T46 AA As).f0.f3⟩ : S42), (⟨(rd_T46 AA As).f1.f0, (rd_T46 AA As).f1.f1⟩ : S44)⟩ : S46)]) AA D3 (wrap64 (As + 1)) Ap Aq Ar) else (none)))) else (none)) else (none)) else (if (x8.length < 2932031007402 ∧ mapMo.wf (⟨(⟨(rd_T46 AA As).f0.f0, (rd_T46 AA As).f0.f1, (rd_T46 AA As).f0.f2, (rd_T46 AA As).f0.f3⟩ : S42), (⟨(rd_T46 AA As).f1.f0, (rd_T46 AA As).f1.f1⟩ : S44)⟩ : S46) = true) then (impl_isGroup.l0 k x2 x7 (x8 ++ [(⟨(⟨(rd_T46 AA As).f0.f0, (rd_T46 AA As).f0.f1, (rd_T46 AA As).f0.f2, (rd_T46 AA As).f0.f3⟩ : S42), (⟨(rd_T46 AA As).f1.f0, (rd_T46 AA As).f1.f1⟩ : S44)⟩ : S46)]) AA D3 (wrap64 (As + 1)) Ap Aq Ar) else (none))))) else (some false))) else (none)) else (none)) else ((impl_unit.f).bind fun A7 => ((mapMo.has k x8 A7.1 A7.2.1 A7.2.2.1 A7.2.2.2 0 0).bind fun Cw => (if Cw = true then (impl_isGroup.l1 k x2 x8 x2 (x2.length : Int) 0 Ap Aq Ar) else (some false))))
def impl_isGroup.l1 : Nat → List (S46) → List (S46) → List (S46) → Int → Int → Int → Int → Int → Option (Bool)
 | 0, _, _, _, _, _, _, _, _ => none
 | k + 1, x2, x8, BS, CT, BO, Ap, Aq, Ar => if BO < CT then (if 0 ≤ BO then (if BO < (BS.length : Int) then (impl_isGroup.l2 k x2 x8 BS CT BO x2 (x2.length : Int) 0 Ap Aq Ar ((rd_T46 BS BO).f0.f0) ((rd_T46 BS BO).f0.f1) ((rd_T46 BS BO).f0.f2) ((rd_T46 BS BO).f0.f3) ((rd_T46 BS BO).f1.f0) ((rd_T46 BS BO).f1.f1)) else (none)) else (none)) else (some true)
def impl_isGroup.l2 : Nat → List (S46) → List (S46) → List (S46) → Int → Int → List (S46) → Int → Int → Int → Int → Int → Int → Int → Int → Int → Int → Int → Option (Bool)
 | 0, _, _, _, _, _, _, _, _, _, _, _, _, _, _, _, _, _ => none
 | k + 1, x2, x8, BS, CT, BO, Cn, Ec, BW, Ap, Aq, Ar, A8, A9, Ba, Bb, Bc, Bd => if BW < Ec then (if 0 ≤ BW then (if BW < (Cn.length : Int) then ((impl_Motion_times.f A8 A9 Ba Bb Bc Bd ((rd_T46 Cn BW).f0.f0) ((rd_T46 Cn BW).f0.f1) ((rd_T46 Cn BW).f0.f2) ((rd_T46 Cn BW).f0.f3) ((rd_T46 Cn BW).f1.f0) ((rd_T46 Cn BW).f1.f1)).bind fun AP => ((impl_Lattice_reduceMotion.f Ap Aq Ar AP.1 AP.2.1 AP.2.2.1 AP.2.2.2.1 AP.2.2.2.2.1 AP.2.2.2.2.2).bind fun AQ => ((mapMo.has k x8 AQ.1 AQ.2.1 AQ.2.2.1 AQ.2.2.2.1 AQ.2.2.2.2.1 AQ.2.2.2.2.2).bind fun Cx => (if Cx = true then (impl_isGroup.l2 k x2 x8 BS CT BO Cn Ec (wrap64 (BW + 1)) Ap Aq Ar A8 A9 Ba Bb Bc Bd) else (some false))))) else (none)) else (none)) else (impl_isGroup.l1 k x2 x8 BS CT (wrap64 (BO + 1)) Ap Aq Ar)
end
def impl_isGroup.f (k : Nat) (a0 : Int) (Al : Int) (Am : Int) (An : Int) (l2 : List (S46)) : Option (Bool) := (impl_latticeMats.f k a0 Al Am An).bind fun AE => (impl_isGroup.l0 k l2 AE (([] : List (S46))) l2 (l2.length : Int) 0 Al Am An)
def impl_isGroup.T5 : Bool × List (List Nat × List Nat) := (true, [([], []), ([], []), ([1], [1]), ([0, 2], [0, 2]), ([3], [3]), ([4, 3], [4]), ([5], [5]), ([5], [5]), ([7, 5], [5, 7]), ([6, 8, 5, 5], [5, 6, 8]), ([5], [5]), ([10, 5], [5, 10]), ([9, 11, 5], [5, 9, 11]), ([5, 12], [5, 12]), ([13, 9], [13]), ([14], [14]), ([15, 14], [14, 15]), ([16, 14, 14], [14, 16]), ([17], [17]), ([17], [17]), ([19, 17], [17, 19]), ([18, 20, 17], [17, 18, 20]), ([21, 17], [17, 21]), ([17], [17]), ([22, 23, 17, 17], [17, 22, 23]), ([24, 17], [17, 24]), ([17, 25, 14], [14, 17, 25]), ([14, 26], [14, 26])])
def impl_isGroup.B5 : List Nat := [0, 0, 2, 7, 15, 31, 63, 63, 191, 511, 63, 1087, 4095, 8191, 16383, 32767, 65535, 131071, 262143, 262143, 786431, 2097151, 4194303, 262143, 16777215, 33554431, 67108863, 134217727]
theorem impl_isGroup.tab5 : rtab .any (opsOf Tryz.f61 5) = impl_isGroup.T5 := by kernel_rfl
theorem impl_isGroup.bits5 : waitsOk impl_isGroup.T5.2 impl_isGroup.B5 = true := by kernel_rfl
def impl_isGroup.T17 : Bool × List (List Nat × List Nat) := (true, [([], []), ([], []), ([], []), ([], []), ([2, 3], [2, 3]), ([1, 4, 4], [1, 4]), ([0, 5], [0, 5]), ([6], [6])])
def impl_isGroup.B17 : List Nat := [0, 0, 0, 0, 12, 30, 63, 127]
theorem impl_isGroup.tab17 : rtab .any (opsOf Tryz.f61 17) = impl_isGroup.T17 := by kernel_rfl
theorem impl_isGroup.bits17 : waitsOk impl_isGroup.T17.2 impl_isGroup.B17 = true := by kernel_rfl
theorem impl_isGroup.calls (k : Nat) (a0 : Int) (Al : Int) (Am : Int) (An : Int) (A2 : Option Addr) (c2 : Nat) (l2 : List (S46)) (r : Bool) (w : World) (hr2 : Kd.C k46 w A2 l2.length l2) (hc2 : l2.length ≤ c2) (h : impl_isGroup.f k a0 Al Am An l2 = some r) :
  Calls Tryz.prog 61 #[.int .i64 a0, .agg #[.int .i64 Al, .int .i64 Am, .int .i64 An], .slice A2 l2.length c2] w fun e w' => e = .returned (.bool r) ∧ Below w.heap.size w w' := by
 have hu30 := Tryz.underlying30
 have hu46 := Tryz.underlying46
 have hu42 := Tryz.underlying42
 have hu44 := Tryz.underlying44
 have HR2 := Aside0.mk hr2
 have EV := Aside0.mk hc2
 clear hr2 hc2
 have HB := asd (Below.refl w.heap.size w)
 have H : ((impl_latticeMats.f k a0 Al Am An).bind fun AE => (impl_isGroup.l0 k l2 AE (([] : List (S46))) l2 (l2.length : Int) 0 Al Am An)) = some r := h
 clear h
 obtain ⟨AE, A4, H⟩ := ob H
 try dsimp only at H
 obtain ⟨CU, A0⟩ : ∃ y_ : List (S46), y_ = (([] : List (S46))) := ⟨_, rfl⟩
 replace H : (impl_isGroup.l0 k l2 AE CU l2 (l2.length : Int) 0 Al Am An) = some r := by first | (rw [A0]; with_reducible exact H) | (have H2_ := (Option.bind_some _ _).symm.trans H; rw [A0]; with_reducible exact H2_) | (have H2_ := (Option.bind_some _ _).symm.trans H; with_reducible exact H2_) | with_reducible exact H | (rw [A0]; exact H) | exact H
 have CV := Aside0.mk A0
 clear A0
 have H' := Aside0.mk H
 clear H
 go_enter Tryz.func61, Tryz.ntmps61
 go_wp2_with (first | ((with_reducible refine gd 4 rfl ?_); refine bx #[.int .i64 Al, .int .i64 Am, .int .i64 An] 30 ?_; intro AF hg w5 Ab hb; have Ae := ngw0 hg HB; replace HB := bS0 HB hb; clear hb hg; obtain ⟨Cy, Cz, CA, CB, CC, CD⟩ := bz3 Ab) | ((with_reducible refine gate_callee (f := 90) rfl ?_); refine gl 17 Tryz.func90 #[.int .i64 a0, .agg #[.int .i64 Al, .int .i64 Am, .int .i64 An]] ?_; (with_reducible refine (impl_latticeMats.calls _ _ _ _ _ _ _ A4.out).mono ?_); rintro e w7 ⟨v552, rfl, Ed, hb⟩; refine ⟨_, rfl, ?_⟩; have BT := asd (Kd.R_lower Ed (bsz1 HB Ae)); replace Ab := bB Ab hb; replace HB := bS1 HB Ae hb; (try clear hb); (try clear hb2); (try clear hk); (try clear hi); (try clear Ed)) | ((with_reducible refine gd 18 rfl ?_); refine mapMo.make_event ?hg (N := 18) ?hd ?hr ?_; (case hd => rfl); (case hg => rfl); (case hr => first | rfl | (go_simp; done) | (go_simp; rfl)); intro gbM hg w8 hmap_ hb; rw [← CV.out] at hmap_; have GEM := asd ((by rw [hg]; exact (bsz1 HB Ae) : w.heap.size ≤ gbM)); clear hg; replace BT := asd (Kd.R_below (kr BT) hb); have CW := Aside0.mk hmap_; replace Ab := bB Ab hb; replace HB := bS1 HB Ae hb; clear hb hmap_))
 go_loopg [21] k (fun kq v21 w' => ∃ (AD : List (S46)) (Aa : Int), v21 = .int .i64 Aa ∧ Aside0 (impl_isGroup.l0 kq l2 AE AD l2 (l2.length : Int) Aa Al Am An = some r) ∧ Aside0 (kq ≤ k) ∧ Aside0 (Kd.R k42 42 w' w.heap.size (fun _ => True) v552 AE) ∧ Aside0 (mapMo.MS w' gbM AD) ∧ Aside0 (w'.heap[AF]? = some (.cells #[.int .i64 Al, .int .i64 Am, .int .i64 An] 30 (0, 0))) ∧ Aside0 (Below w.heap.size w w'))
 case atStart => exact ⟨(CU), (0), (by first | rfl | (simp; done) | (simp [*]; done)), H', ⟨Nat.le_refl _⟩, ⟨by (with_reducible repeat (first | apply Kd.R_alloc | apply Kd.R_drewN | apply Kd.R_drew)); exact BT.out⟩, ⟨by (with_reducible repeat (first | apply mapMo.MS_alloc | apply mapMo.MS_drewN | apply mapMo.MS_drew)); exact CW.out⟩, ⟨bkp Ab⟩, ⟨bbw1 HB Ae⟩⟩
 case round =>
  clear H'
  try clear c2
  try clear Cy
  try clear Cz
  try clear CA
  try clear CB
  try clear CC
  try clear CD
  obtain ⟨AD, Aa, rfl, HA, Co, Af, Ad, Ab, HB⟩ := hrel
  cases gk with
  | zero => exact absurd HA.out (by simp [impl_isGroup.l0])
  | succ k1 =>
   have H := HA.out
   clear HA
   simp only [impl_isGroup.l0] at H
   by_cases c10 : Aa < (l2.length : Int)
   rw [if_pos c10] at H
   have BU := decide_eq_true c10
   clear c10
   by_cases CF : 0 ≤ Aa
   rw [if_pos CF] at H
   have Ee := decide_eq_true CF
   clear CF
   by_cases CG : Aa < (l2.length : Int)
   rw [if_pos CG] at H
   have Ef := decide_eq_true CG
   clear CG
   obtain ⟨Cv, Dh, H⟩ := ob H
   try dsimp only at H
   by_cases CH : Cv = true
   subst CH
   replace H := ifT H
   obtain ⟨⟨CX, CY⟩, D4, H⟩ := ob H
   try dsimp only at H
   by_cases CI : (!(CX == ((rd_T46 l2 Aa).f1.f0)) || (!(CY == ((rd_T46 l2 Aa).f1.f1)))) = true
   rw [if_pos CI] at H
   have CZ := CI
   clear CI
   obtain rfl := Option.some.inj H
   rotate_left
   rw [if_neg CI] at H
   have CZ : (!(CX == ((rd_T46 l2 Aa).f1.f0)) || (!(CY == ((rd_T46 l2 Aa).f1.f1)))) = false := by simpa using CI
   clear CI
   by_cases Cp : Aa > 0
   rw [if_pos Cp] at H
   have BV : decide (0 < Aa) = true := decide_eq_true Cp
   clear Cp
   obtain ⟨AC, AN⟩ : ∃ j_ : Int, (wrap64 (Aa - 1)) = j_ := ⟨_, rfl⟩
   replace H : (if 0 ≤ (AC) then (if (AC) < (l2.length : Int) then ((impl_compareMotions.f k1 ((rd_T46 l2 (AC)).f0.f0) ((rd_T46 l2 (AC)).f0.f1) ((rd_T46 l2 (AC)).f0.f2) ((rd_T46 l2 (AC)).f0.f3) ((rd_T46 l2 (AC)).f1.f0) ((rd_T46 l2 (AC)).f1.f1) ((rd_T46 l2 Aa).f0.f0) ((rd_T46 l2 Aa).f0.f1) ((rd_T46 l2 Aa).f0.f2) ((rd_T46 l2 Aa).f0.f3) ((rd_T46 l2 Aa).f1.f0) ((rd_T46 l2 Aa).f1.f1)).bind fun A6 => (if A6 ≥ 0 then (some false) else (if (AD.length < 2932031007402 ∧ mapMo.wf (⟨(⟨(rd_T46 l2 Aa).f0.f0, (rd_T46 l2 Aa).f0.f1, (rd_T46 l2 Aa).f0.f2, (rd_T46 l2 Aa).f0.f3⟩ : S42), (⟨(rd_T46 l2 Aa).f1.f0, (rd_T46 l2 Aa).f1.f1⟩ : S44)⟩ : S46) = true) then (impl_isGroup.l0 k1 l2 AE (AD ++ [(⟨(⟨(rd_T46 l2 Aa).f0.f0, (rd_T46 l2 Aa).f0.f1, (rd_T46 l2 Aa).f0.f2, (rd_T46 l2 Aa).f0.f3⟩ : S42), (⟨(rd_T46 l2 Aa).f1.f0, (rd_T46 l2 Aa).f1.f1⟩ : S44)⟩ : S46)]) l2 (l2.length : Int) (wrap64 (Aa + 1)) Al Am An) else (none)))) else (none)) else (none)) = some r := by first | (rw [AN] at H; first | done | exact H) | (simp only [AN] at H ⊢; exact H)
   (try rw [AN] at Dh)
   (try rw [AN] at D4)
   have D5 : (IntKind.i64.wrap (Aa - 1)) = AC := (i64_w _).trans AN
   by_cases CJ : 0 ≤ (AC)
   rw [if_pos CJ] at H
   have Eg := decide_eq_true CJ
   clear CJ
   by_cases CK : (AC) < (l2.length : Int)
   rw [if_pos CK] at H
   have Eh := decide_eq_true CK
   clear CK
   obtain ⟨A6, EA, H⟩ := ob H
   try dsimp only at H
   by_cases CL : A6 ≥ 0
   rw [if_pos CL] at H
   have C0 : decide (0 ≤ A6) = true := decide_eq_true CL
   clear CL
   obtain rfl := Option.some.inj H
   rotate_left
   rw [if_neg CL] at H
   have C0 : decide (0 ≤ A6) = false := decide_eq_false CL
   clear CL
   by_cases CM : (AD.length < 2932031007402 ∧ mapMo.wf (⟨(⟨(rd_T46 l2 Aa).f0.f0, (rd_T46 l2 Aa).f0.f1, (rd_T46 l2 Aa).f0.f2, (rd_T46 l2 Aa).f0.f3⟩ : S42), (⟨(rd_T46 l2 Aa).f1.f0, (rd_T46 l2 Aa).f1.f1⟩ : S44)⟩ : S46) = true)
   rw [if_pos CM] at H
   have Cq := Aside0.mk CM
   clear CM
   obtain ⟨C1, A1⟩ : ∃ y_ : List (S46), y_ = (AD ++ [(⟨(⟨(rd_T46 l2 Aa).f0.f0, (rd_T46 l2 Aa).f0.f1, (rd_T46 l2 Aa).f0.f2, (rd_T46 l2 Aa).f0.f3⟩ : S42), (⟨(rd_T46 l2 Aa).f1.f0, (rd_T46 l2 Aa).f1.f1⟩ : S44)⟩ : S46)]) := ⟨_, rfl⟩
   replace H : (impl_isGroup.l0 k1 l2 AE C1 l2 (l2.length : Int) (wrap64 (Aa + 1)) Al Am An) = some r := by first | (rw [A1]; with_reducible exact H) | (have H2_ := (Option.bind_some _ _).symm.trans H; rw [A1]; with_reducible exact H2_) | (have H2_ := (Option.bind_some _ _).symm.trans H; with_reducible exact H2_) | with_reducible exact H | (rw [A1]; exact H) | exact H
   have C2 := Aside0.mk A1
   clear A1
   have H' := Aside0.mk H
   clear H
   rotate_left
   ·rw [if_neg CM] at H
    exact absurd H (by simp)
   ·rw [if_neg CK] at H
    exact absurd H (by simp)
   ·rw [if_neg CJ] at H
    exact absurd H (by simp)
   rw [if_neg Cp] at H
   have BV : decide (0 < Aa) = false := decide_eq_false Cp
   clear Cp
   by_cases CN : (AD.length < 2932031007402 ∧ mapMo.wf (⟨(⟨(rd_T46 l2 Aa).f0.f0, (rd_T46 l2 Aa).f0.f1, (rd_T46 l2 Aa).f0.f2, (rd_T46 l2 Aa).f0.f3⟩ : S42), (⟨(rd_T46 l2 Aa).f1.f0, (rd_T46 l2 Aa).f1.f1⟩ : S44)⟩ : S46) = true)
   rw [if_pos CN] at H
   have Cr := Aside0.mk CN
   clear CN
   obtain ⟨C3, A3⟩ : ∃ y_ : List (S46), y_ = (AD ++ [(⟨(⟨(rd_T46 l2 Aa).f0.f0, (rd_T46 l2 Aa).f0.f1, (rd_T46 l2 Aa).f0.f2, (rd_T46 l2 Aa).f0.f3⟩ : S42), (⟨(rd_T46 l2 Aa).f1.f0, (rd_T46 l2 Aa).f1.f1⟩ : S44)⟩ : S46)]) := ⟨_, rfl⟩
   replace H : (impl_isGroup.l0 k1 l2 AE C3 l2 (l2.length : Int) (wrap64 (Aa + 1)) Al Am An) = some r := by first | (rw [A3]; with_reducible exact H) | (have H2_ := (Option.bind_some _ _).symm.trans H; rw [A3]; with_reducible exact H2_) | (have H2_ := (Option.bind_some _ _).symm.trans H; with_reducible exact H2_) | with_reducible exact H | (rw [A3]; exact H) | exact H
   have C4 := Aside0.mk A3
   clear A3
   have H' := Aside0.mk H
   clear H
   rotate_left
   ·rw [if_neg CN] at H
    exact absurd H (by simp)
   replace CH := Bool.eq_false_iff.mpr CH
   subst CH
   replace H := ifF H
   obtain rfl := Option.some.inj H
   rotate_left
   ·rw [if_neg CG] at H
    exact absurd H (by simp)
   ·rw [if_neg CF] at H
    exact absurd H (by simp)
   rw [if_neg c10] at H
   have BU := decide_eq_false c10
   clear c10
   obtain ⟨⟨EB, EC, ED, EE⟩, Ei, H⟩ := ob H
   try dsimp only at H
   obtain ⟨Cw, Ej, H⟩ := ob H
   try dsimp only at H
   by_cases CO : Cw = true
   subst CO
   replace H := ifT H
   have H' := Aside0.mk H
   clear H
   rotate_left
   replace CO := Bool.eq_false_iff.mpr CO
   subst CO
   replace H := ifF H
   obtain rfl := Option.some.inj H
   rotate_left
   rotate_left 3
   ·obtain ⟨p557, q557, ad557, e557, AH, AI, AJ, AK, AL, AM⟩ := at_T46x HR2.out HB Aa
    cases e557
    try go_wp2_with (first | ((with_reducible refine gd 10 rfl ?_); refine bx #[.int .i64 0, .int .i64 0, .int .i64 0, .int .i64 0, .int .i64 0, .int .i64 0] 46 ?_; intro Ai hg EF Ac hb; replace Af := asd (Kd.R_below (kr Af) hb); replace Ad := asd (mapMo.MS_below (by (with_reducible repeat (first | apply mapMo.MS_alloc | apply mapMo.MS_drewN | apply mapMo.MS_drew)); exact Ad.out) hb); have Ao := ngw1 hg HB Ae; replace HB := bS1 HB Ae hb; have Ak := nlt hg Ab; have AB := nsy (nlt hg Ab); replace Ab := bB Ab hb; clear hb hg; have Ek := AB.out; have El := Ak.out; obtain ⟨Be, Bf, Bg, Bh, Bi, Bj, Bk, Bl, Bm, Bn, Bo, Bp⟩ := bz6 Ac))
    obtain ⟨CP, h_w56⟩ : ∃ w_, ((((((EF.setCell ⟨Ai, 0, none⟩ (.int .i64 ((rd_T46 l2 Aa).f0.f0))).setCell ⟨Ai, 1, none⟩ (.int .i64 ((rd_T46 l2 Aa).f0.f1))).setCell ⟨Ai, 2, none⟩ (.int .i64 ((rd_T46 l2 Aa).f0.f2))).setCell ⟨Ai, 3, none⟩ (.int .i64 ((rd_T46 l2 Aa).f0.f3))).setCell ⟨Ai, 4, none⟩ (.int .i64 ((rd_T46 l2 Aa).f1.f0))).setCell ⟨Ai, 5, none⟩ (.int .i64 ((rd_T46 l2 Aa).f1.f1))) = w_ := ⟨_, rfl⟩
    replace Af : Aside0 (Kd.R k42 42 CP w.heap.size (fun _ => True) v552 AE) := by rw [← h_w56]; exact ⟨by (with_reducible repeat (first | apply Kd.R_alloc | apply Kd.R_drewN | apply Kd.R_drew)); exact Kd.R_mono (rw6 (Kd.R_types Af.out Ac.out (by decide))) (fun _ hk => trivial)⟩
    replace Ad : Aside0 (mapMo.MS CP gbM AD) := by rw [← h_w56]; exact ⟨by have q_ := mapMo.MS_ne Ad.out Ac.out; repeat (first | (with_reducible first | exact Ad.out | refine mapMo.MS_set ?_ q_ | apply mapMo.MS_alloc | apply mapMo.MS_drewN | apply mapMo.MS_drew) | exact Ad.out)⟩
    replace Ab : Aside0 (CP.heap[AF]? = some (.cells #[.int .i64 Al, .int .i64 Am, .int .i64 An] 30 (0, 0))) := by rw [← h_w56]; exact ⟨bq1 Ab Ak⟩
    replace Ac : Aside0 (CP.heap[Ai]? = some (.cells #[.int .i64 ((rd_T46 l2 Aa).f0.f0), .int .i64 ((rd_T46 l2 Aa).f0.f1), .int .i64 ((rd_T46 l2 Aa).f0.f2), .int .i64 ((rd_T46 l2 Aa).f0.f3), .int .i64 ((rd_T46 l2 Aa).f1.f0), .int .i64 ((rd_T46 l2 Aa).f1.f1)] 46 (0, 0))) := by rw [← h_w56]; exact ⟨bq0 Ac⟩
    replace HB : Aside0 (Below w.heap.size w CP) := by rw [← h_w56]; exact ⟨bbw2 HB Ae Ao⟩
    (try rw [h_w56]); clear h_w56
    replace Af := asd (Kd.R_drew Af.out)
    replace Ad := asd (mapMo.MS_drew Ad.out)
    replace Ab := asd (blk_drew Ab.out)
    replace Ac := asd (blk_drew Ac.out)
    replace HB := asd (below_drew1 HB.out)
    obtain ⟨Ao58, co58, eo58⟩ := Kd.R_slice Af.out
    (first | subst eo58 | (injection eo58 with f1_ f2_ f3_; have f4_ := f1_.symm; have f5_ := f3_.symm; clear f1_ f2_ f3_; subst f4_; subst f5_))
    refine sh 28 (cb6 Ac (eb3 Ab)) (fun hHeld => ?_); refine with_tabW impl_isGroup.tab5 impl_isGroup.bits5 (fun HT_ HW_ => ?_)
    generalize CP.drew = EW at Af Ad Ab Ac HB hHeld ⊢
    refine pu 0 (some 26) (bT 28 1) HT_ ?_
    refine pu 1 (some 27) (bT 28 2) HT_ ?_
    refine ta 2 (some 28) (bT 28 3) HT_ HW_ hHeld ?_
    refine ro 3 (some 29) (bT 28 4) HT_ (fun K hK => ?_)
    refine gs Tryz.func91 #[.slice Ao58 AE.length co58, .agg #[.int .i64 ((rd_T46 l2 Aa).f0.f0), .int .i64 ((rd_T46 l2 Aa).f0.f1), .int .i64 ((rd_T46 l2 Aa).f0.f2), .int .i64 ((rd_T46 l2 Aa).f0.f3)]] ?_
    with_reducible refine (impl_Mat_91.calls _ _ _ _ _ _ _ _ _ _ ?side1 ?side2 Dh.out).mono ?_
    (case side1 => exact ks (Kd.R_reads' Af.out).2.2)
    (case side2 => exact (Kd.R_reads' Af.out).2.1)
    rintro e EX ⟨rfl, hb⟩
    refine ⟨_, rfl, ?_⟩
    replace Af := asd (Kd.R_below (kr Af) hb)
    replace Ad := asd (mapMo.MS_below (by (with_reducible repeat (first | apply mapMo.MS_alloc | apply mapMo.MS_drewN | apply mapMo.MS_drew)); exact Ad.out) hb)
    replace Ab := bB Ab hb
    replace Ac := bB Ac hb
    replace HB := bS2 HB Ae Ao hb
    (try clear hb)
    (try clear hb2)
    (try clear hk)
    (try clear hi)
    refine hK.out _ _ (cb6 Ac (eb3 Ab)).out (fun hHeld => ?_)
    clear hK K
    refine norm_ (a' := ?_) ?_ ?_
    rotate_left
    ·show Act.put _ (some 29) _ = _
     simp only [Act.put, sA, sB, sC, i64_w, i32_w]
     rfl
    refine pu 4 (some 30) (bT 28 5) HT_ ?_
    refine pu 5 (some 31) (bT 28 6) HT_ ?_
    refine pu 7 (some 33) (bs 28 191) HT_ ?_
    refine pu 10 (some 36) (bs 28 1215) HT_ ?_
    refine ta 6 (some 32) (bs 28 1279) HT_ HW_ hHeld ?_
    refine ta 8 (some 34) (bs 28 1535) HT_ HW_ hHeld ?_
    refine ta 11 (some 37) (bs 28 3583) HT_ HW_ hHeld ?_
    refine ro 9 (some 35) (bT 28 12) HT_ (fun K hK => ?_)
    refine gs Tryz.func92 #[.agg #[.int .i64 Al, .int .i64 Am, .int .i64 An], .agg #[.int .i64 ((rd_T46 l2 Aa).f1.f0), .int .i64 ((rd_T46 l2 Aa).f1.f1)]] ?_
    with_reducible refine (impl_Lattice_reduce.calls _ _ _ _ _ _ _ _ D4.out).mono ?_
    rintro e EY ⟨rfl, hb⟩
    refine ⟨_, rfl, ?_⟩
    replace Af := asd (Kd.R_below (kr Af) hb)
    replace Ad := asd (mapMo.MS_below (by (with_reducible repeat (first | apply mapMo.MS_alloc | apply mapMo.MS_drewN | apply mapMo.MS_drew)); exact Ad.out) hb)
    replace Ab := bB Ab hb
    replace Ac := bB Ac hb
    replace HB := bS2 HB Ae Ao hb
    (try clear hb)
    (try clear hb2)
    (try clear hk)
    (try clear hi)
    refine hK.out _ _ (cb6 Ac (eb3 Ab)).out (fun hHeld => ?_)
    clear hK K
    refine norm_ (a' := ?_) ?_ ?_
    rotate_left
    ·show Act.put _ (some 35) _ = _
     simp only [Act.put, sA, sB, sC, i64_w, i32_w]
     rfl
    refine pu 12 (some 38) (bT 28 13) HT_ ?_
    refine pu 13 (some 39) (bT 28 14) HT_ ?_
    refine pu 14 (some 40) (bT 28 15) HT_ ?_
    refine pu 15 (some 41) (bT 28 16) HT_ ?_
    refine pu 16 (some 42) (bT 28 17) HT_ ?_
    refine pu 17 (some 43) (bT 28 18) HT_ ?_
    refine pf 18 (some 44) (bT 28 19) HT_ ?_
    refine pf 19 (some 45) (bT 28 20) HT_ ?_
    refine pf 20 (some 46) (bT 28 21) HT_ ?_
    refine pf 21 (some 47) (bT 28 22) HT_ ?_
    refine pf 22 (some 48) (bT 28 23) HT_ ?_
    refine pf 23 (some 49) (bT 28 24) HT_ ?_
    refine pf 24 (some 50) (bT 28 25) HT_ ?_
    refine pf 25 (some 51) (bT 28 26) HT_ ?_
    refine pu 26 (some 52) (bT 28 27) HT_ ?_
    refine pu 27 (some 53) (bT 28 28) HT_ ?_
    refine done_ (done_of HT_.out (by kernel_rfl)) ?_
    obtain ⟨Bq, Br, Bs, Bt, Bu, Bv, Bw, Bx, By, Bz, BA, BB⟩ := bz6 Ac
    try go_wp2_with (first | (at_mapUpdate; refine mapMo.put_event rfl _ _ _ rfl rfl (by (with_reducible repeat (first | apply mapMo.MS_alloc | apply mapMo.MS_drewN | apply mapMo.MS_drew)); exact Ad.out) (⟨(⟨(rd_T46 l2 Aa).f0.f0, (rd_T46 l2 Aa).f0.f1, (rd_T46 l2 Aa).f0.f2, (rd_T46 l2 Aa).f0.f3⟩ : S42), (⟨(rd_T46 l2 Aa).f1.f0, (rd_T46 l2 Aa).f1.f1⟩ : S44)⟩ : S46) rfl rfl Cr.out.2 Cr.out.1 ?_; intro EG ho hg; rw [← C4.out] at ho; have hb : Below w.heap.size w EG := mapMo.below_put (bbw2 HB Ae Ao) GEM.out hg; have C5 := asd (mapMo.R_map (kr Af) (by (with_reducible repeat (first | apply mapMo.MS_alloc | apply mapMo.MS_drewN | apply mapMo.MS_drew)); exact Ad.out) hg); have C6 := asd (mapMo.blk_put (g := AF) (cs := #[.int .i64 Al, .int .i64 Am, .int .i64 An]) (t := 30) (bkp Ab) (by (with_reducible repeat (first | apply mapMo.MS_alloc | apply mapMo.MS_drewN | apply mapMo.MS_drew)); exact Ad.out) hg); have C7 := asd (mapMo.blk_put (g := Ai) (cs := #[.int .i64 ((rd_T46 l2 Aa).f0.f0), .int .i64 ((rd_T46 l2 Aa).f0.f1), .int .i64 ((rd_T46 l2 Aa).f0.f2), .int .i64 ((rd_T46 l2 Aa).f0.f3), .int .i64 ((rd_T46 l2 Aa).f1.f0), .int .i64 ((rd_T46 l2 Aa).f1.f1)]) (t := 46) (bkp Ac) (by (with_reducible repeat (first | apply mapMo.MS_alloc | apply mapMo.MS_drewN | apply mapMo.MS_drew)); exact Ad.out) hg); have C8 := asd (hb); have C9 := asd (ho); clear Af; clear Ab; clear Ac; clear HB; clear Ad; have Af := C5; have Ab := C6; have Ac := C7; have HB := C8; have Da := C9; clear C5 C6 C7 C8 C9; clear ho hb hg))
    go_roundg k1
    case measure => have := Co.out; omega
    case rel => exact ⟨(C3), (wrap64 (Aa + 1)), (by first | rfl | (simp; done) | (simp [*]; done)), H', ⟨by have := Co.out; omega⟩, ⟨by (with_reducible repeat (first | apply Kd.R_alloc | apply Kd.R_drewN | apply Kd.R_drew)); exact Af.out⟩, ⟨by (with_reducible repeat (first | apply mapMo.MS_alloc | apply mapMo.MS_drewN | apply mapMo.MS_drew)); exact Da.out⟩, ⟨bkp Ab⟩, ⟨bbw2 HB Ae Ao⟩⟩
   ·obtain ⟨p557, q557, ad557, e557, AH, AI, AJ, AK, AL, AM⟩ := at_T46x HR2.out HB Aa
    cases e557
    try go_wp2_with (first | ((with_reducible refine gd 10 rfl ?_); refine bx #[.int .i64 0, .int .i64 0, .int .i64 0, .int .i64 0, .int .i64 0, .int .i64 0] 46 ?_; intro Ai hg EH Ac hb; replace Af := asd (Kd.R_below (kr Af) hb); replace Ad := asd (mapMo.MS_below (by (with_reducible repeat (first | apply mapMo.MS_alloc | apply mapMo.MS_drewN | apply mapMo.MS_drew)); exact Ad.out) hb); have Ao := ngw1 hg HB Ae; replace HB := bS1 HB Ae hb; have Ak := nlt hg Ab; have AB := nsy (nlt hg Ab); replace Ab := bB Ab hb; clear hb hg; have Em := AB.out; have En := Ak.out; obtain ⟨BC, BD, BE, BF, BG, BH, BI, BJ, BK, BL, BM, BN⟩ := bz6 Ac))
    obtain ⟨CQ, h_w66⟩ : ∃ w_, ((((((EH.setCell ⟨Ai, 0, none⟩ (.int .i64 ((rd_T46 l2 Aa).f0.f0))).setCell ⟨Ai, 1, none⟩ (.int .i64 ((rd_T46 l2 Aa).f0.f1))).setCell ⟨Ai, 2, none⟩ (.int .i64 ((rd_T46 l2 Aa).f0.f2))).setCell ⟨Ai, 3, none⟩ (.int .i64 ((rd_T46 l2 Aa).f0.f3))).setCell ⟨Ai, 4, none⟩ (.int .i64 ((rd_T46 l2 Aa).f1.f0))).setCell ⟨Ai, 5, none⟩ (.int .i64 ((rd_T46 l2 Aa).f1.f1))) = w_ := ⟨_, rfl⟩
    replace Af : Aside0 (Kd.R k42 42 CQ w.heap.size (fun _ => True) v552 AE) := by rw [← h_w66]; exact ⟨by (with_reducible repeat (first | apply Kd.R_alloc | apply Kd.R_drewN | apply Kd.R_drew)); exact Kd.R_mono (rw6 (Kd.R_types Af.out Ac.out (by decide))) (fun _ hk => trivial)⟩
    replace Ad : Aside0 (mapMo.MS CQ gbM AD) := by rw [← h_w66]; exact ⟨by have q_ := mapMo.MS_ne Ad.out Ac.out; repeat (first | (with_reducible first | exact Ad.out | refine mapMo.MS_set ?_ q_ | apply mapMo.MS_alloc | apply mapMo.MS_drewN | apply mapMo.MS_drew) | exact Ad.out)⟩
    replace Ab : Aside0 (CQ.heap[AF]? = some (.cells #[.int .i64 Al, .int .i64 Am, .int .i64 An] 30 (0, 0))) := by rw [← h_w66]; exact ⟨bq1 Ab Ak⟩
    replace Ac : Aside0 (CQ.heap[Ai]? = some (.cells #[.int .i64 ((rd_T46 l2 Aa).f0.f0), .int .i64 ((rd_T46 l2 Aa).f0.f1), .int .i64 ((rd_T46 l2 Aa).f0.f2), .int .i64 ((rd_T46 l2 Aa).f0.f3), .int .i64 ((rd_T46 l2 Aa).f1.f0), .int .i64 ((rd_T46 l2 Aa).f1.f1)] 46 (0, 0))) := by rw [← h_w66]; exact ⟨bq0 Ac⟩
    replace HB : Aside0 (Below w.heap.size w CQ) := by rw [← h_w66]; exact ⟨bbw2 HB Ae Ao⟩
    (try rw [h_w66]); clear h_w66
    replace Af := asd (Kd.R_drew Af.out)
    replace Ad := asd (mapMo.MS_drew Ad.out)
    replace Ab := asd (blk_drew Ab.out)
    replace Ac := asd (blk_drew Ac.out)
    replace HB := asd (below_drew1 HB.out)
    obtain ⟨Ao68, co68, eo68⟩ := Kd.R_slice Af.out
    (first | subst eo68 | (injection eo68 with f1_ f2_ f3_; have f4_ := f1_.symm; have f5_ := f3_.symm; clear f1_ f2_ f3_; subst f4_; subst f5_))
    refine sh 28 (eb6 Ac) (fun hHeld => ?_); refine with_tabW impl_isGroup.tab5 impl_isGroup.bits5 (fun HT_ HW_ => ?_)
    generalize CQ.drew = EZ at Af Ad Ab Ac HB hHeld ⊢
    refine pu 0 (some 26) (bT 28 1) HT_ ?_
    refine pu 1 (some 27) (bT 28 2) HT_ ?_
    refine ta 2 (some 28) (bT 28 3) HT_ HW_ hHeld ?_
    refine ro 3 (some 29) (bT 28 4) HT_ (fun K hK => ?_)
    refine gs Tryz.func91 #[.slice Ao68 AE.length co68, .agg #[.int .i64 ((rd_T46 l2 Aa).f0.f0), .int .i64 ((rd_T46 l2 Aa).f0.f1), .int .i64 ((rd_T46 l2 Aa).f0.f2), .int .i64 ((rd_T46 l2 Aa).f0.f3)]] ?_
    with_reducible refine (impl_Mat_91.calls _ _ _ _ _ _ _ _ _ _ ?side1 ?side2 Dh.out).mono ?_
    (case side1 => exact ks (Kd.R_reads' Af.out).2.2)
    (case side2 => exact (Kd.R_reads' Af.out).2.1)
    rintro e E0 ⟨rfl, hb⟩
    refine ⟨_, rfl, ?_⟩
    replace Af := asd (Kd.R_below (kr Af) hb)
    replace Ad := asd (mapMo.MS_below (by (with_reducible repeat (first | apply mapMo.MS_alloc | apply mapMo.MS_drewN | apply mapMo.MS_drew)); exact Ad.out) hb)
    replace Ab := bB Ab hb
    replace Ac := bB Ac hb
    replace HB := bS2 HB Ae Ao hb
    (try clear hb)
    (try clear hb2)
    (try clear hk)
    (try clear hi)
    refine hK.out _ _ (eb6 Ac).out (fun hHeld => ?_)
    clear hK K
    refine norm_ (a' := ?_) ?_ ?_
    rotate_left
    ·show Act.put _ (some 29) _ = _
     simp only [Act.put, sA, sB, sC, i64_w, i32_w]
     rfl
    refine pu 4 (some 30) (bT 28 5) HT_ ?_
    refine pu 5 (some 31) (bT 28 6) HT_ ?_
    refine pf 6 (some 32) (bT 28 7) HT_ ?_
    refine pf 7 (some 33) (bT 28 8) HT_ ?_
    refine pf 8 (some 34) (bT 28 9) HT_ ?_
    refine pf 9 (some 35) (bT 28 10) HT_ ?_
    refine pf 10 (some 36) (bT 28 11) HT_ ?_
    refine pf 11 (some 37) (bT 28 12) HT_ ?_
    refine pf 12 (some 38) (bT 28 13) HT_ ?_
    refine pu 13 (some 39) (bT 28 14) HT_ ?_
    refine pu 14 (some 40) (bT 28 15) HT_ ?_
    refine pf 15 (some 41) (bT 28 16) HT_ ?_
    refine pf 16 (some 42) (bT 28 17) HT_ ?_
    refine pf 17 (some 43) (bT 28 18) HT_ ?_
    refine pf 18 (some 44) (bT 28 19) HT_ ?_
    refine pf 19 (some 45) (bT 28 20) HT_ ?_
    refine pf 20 (some 46) (bT 28 21) HT_ ?_
    refine pf 21 (some 47) (bT 28 22) HT_ ?_
    refine pf 22 (some 48) (bT 28 23) HT_ ?_
    refine pf 23 (some 49) (bT 28 24) HT_ ?_
    refine pf 24 (some 50) (bT 28 25) HT_ ?_
    refine pf 25 (some 51) (bT 28 26) HT_ ?_
    refine pf 26 (some 52) (bT 28 27) HT_ ?_
    refine pu 27 (some 53) (bT 28 28) HT_ ?_
    refine done_ (done_of HT_.out (by kernel_rfl)) ?_
    try go_wp2
    go_ret
    exact er (bbw2 HB Ae Ao)
   ·go_wp2_with (first | ((with_reducible refine gate_callee (f := 62) rfl ?_); refine gl 58 Tryz.func62 #[] ?_; (with_reducible refine (impl_unit.calls _ _ _ _ _ Ei.out).mono ?_); rintro e E1 ⟨rfl, hb⟩; refine ⟨_, rfl, ?_⟩; replace Af := asd (Kd.R_below (kr Af) hb); replace Ad := asd (mapMo.MS_below (by (with_reducible repeat (first | apply mapMo.MS_alloc | apply mapMo.MS_drewN | apply mapMo.MS_drew)); exact Ad.out) hb); replace Ab := bB Ab hb; replace HB := bS1 HB Ae hb; (try clear hb)) | (at_lookup; refine mapMo.get_has Ej.out rfl _ _ rfl rfl (by (with_reducible repeat (first | apply mapMo.MS_alloc | apply mapMo.MS_drewN | apply mapMo.MS_drew)); exact Ad.out) rfl ?_))
    go_loopg [64] k1 (fun kq v64 w' => ∃ (Ag : Int), v64 = .int .i64 Ag ∧ Aside0 (impl_isGroup.l1 kq l2 AD l2 (l2.length : Int) Ag Al Am An = some r) ∧ Aside0 (kq ≤ k1) ∧ Aside0 (mapMo.MS w' gbM AD) ∧ Aside0 (w'.heap[AF]? = some (.cells #[.int .i64 Al, .int .i64 Am, .int .i64 An] 30 (0, 0))) ∧ Aside0 (Below w.heap.size w w'))
    case atStart => exact ⟨(0), (by first | rfl | (simp; done) | (simp [*]; done)), H', ⟨Nat.le_refl _⟩, ⟨by (with_reducible repeat (first | apply mapMo.MS_alloc | apply mapMo.MS_drewN | apply mapMo.MS_drew)); exact Ad.out⟩, ⟨bkp Ab⟩, ⟨bbw1 HB Ae⟩⟩
    case round =>
     clear H'
     try clear c2
     try clear c10
     try clear BU
     try clear CF
     try clear CG
     try clear CH
     try clear Cp
     try clear BV
     try clear CJ
     try clear CK
     try clear CM
     try clear CN
     try clear CO
     try clear Be
     try clear Bf
     try clear Bg
     try clear Bh
     try clear Bi
     try clear Bj
     try clear Bq
     try clear Br
     try clear Bs
     try clear Bt
     try clear Bu
     try clear Bv
     try clear BC
     try clear BD
     try clear BE
     try clear BF
     try clear BG
     try clear BH
     try clear Bk
     try clear Bl
     try clear Bm
     try clear Bn
     try clear Bo
     try clear Bp
     try clear Bw
     try clear Bx
     try clear By
     try clear Bz
     try clear BA
     try clear BB
     try clear BI
     try clear BJ
     try clear BK
     try clear BL
     try clear BM
     try clear BN
     try clear AH
     try clear AI
     try clear AJ
     try clear AK
     try clear AL
     try clear AM
     try clear p557
     try clear q557
     obtain ⟨Ag, rfl, HA, Di, Ad, Ab, HB⟩ := hrel
     cases gk with
     | zero => exact absurd HA.out (by simp [impl_isGroup.l1])
     | succ k2 =>
      have H := HA.out
      clear HA
      simp only [impl_isGroup.l1] at H
      by_cases CE : Ag < (l2.length : Int)
      rw [if_pos CE] at H
      have Cs := decide_eq_true CE
      clear CE
      by_cases Db : 0 ≤ Ag
      rw [if_pos Db] at H
      have Dc := decide_eq_true Db
      clear Db
      by_cases Dd : Ag < (l2.length : Int)
      rw [if_pos Dd] at H
      have De := decide_eq_true Dd
      clear Dd
      have H' := Aside0.mk H
      clear H
      rotate_left
      ·rw [if_neg Dd] at H
       exact absurd H (by simp)
      ·rw [if_neg Db] at H
       exact absurd H (by simp)
      rw [if_neg CE] at H
      have Cs := decide_eq_false CE
      clear CE
      obtain rfl := Option.some.inj H
      rotate_left
      ·obtain ⟨p575, q575, ad575, e575, BX, BY, BZ, B0, B3, B8⟩ := at_T46x HR2.out HB Ag
       cases e575
       go_wp2_with (first | ((with_reducible refine gd 12 rfl ?_); refine bx #[.int .i64 0, .int .i64 0, .int .i64 0, .int .i64 0, .int .i64 0, .int .i64 0] 46 ?_; intro Ct hg E2 Aj hb; replace Ad := asd (mapMo.MS_below (by (with_reducible repeat (first | apply mapMo.MS_alloc | apply mapMo.MS_drewN | apply mapMo.MS_drew)); exact Ad.out) hb); have AG := ngw1 hg HB Ae; replace HB := bS1 HB Ae hb; have AR := nlt hg Ab; have BP := nsy (nlt hg Ab); replace Ab := bB Ab hb; clear hb hg; have Eo := BP.out; have Ep := AR.out; obtain ⟨Ca, Cb, Cc, Cd, Ce, Cf, Cg, Ch, Ci, Cj, Ck, Cl⟩ := bz6 Aj))
       go_loopg [70] k2 (fun kq v70 w' => ∃ (Ah : Int), v70 = .int .i64 Ah ∧ Aside0 (impl_isGroup.l2 kq l2 AD l2 (l2.length : Int) Ag l2 (l2.length : Int) Ah Al Am An ((rd_T46 l2 Ag).f0.f0) ((rd_T46 l2 Ag).f0.f1) ((rd_T46 l2 Ag).f0.f2) ((rd_T46 l2 Ag).f0.f3) ((rd_T46 l2 Ag).f1.f0) ((rd_T46 l2 Ag).f1.f1) = some r) ∧ Aside0 (kq ≤ k2) ∧ Aside0 (mapMo.MS w' gbM AD) ∧ Aside0 (w'.heap[AF]? = some (.cells #[.int .i64 Al, .int .i64 Am, .int .i64 An] 30 (0, 0))) ∧ Aside0 (w'.heap[Ct]? = some (.cells #[.int .i64 ((rd_T46 l2 Ag).f0.f0), .int .i64 ((rd_T46 l2 Ag).f0.f1), .int .i64 ((rd_T46 l2 Ag).f0.f2), .int .i64 ((rd_T46 l2 Ag).f0.f3), .int .i64 ((rd_T46 l2 Ag).f1.f0), .int .i64 ((rd_T46 l2 Ag).f1.f1)] 46 (0, 0))) ∧ Aside0 (Below w.heap.size w w'))
       case atStart => exact ⟨(0), (by first | rfl | (simp; done) | (simp [*]; done)), H', ⟨Nat.le_refl _⟩, ⟨by have q_ := mapMo.MS_ne Ad.out Aj.out; repeat (first | (with_reducible first | exact Ad.out | refine mapMo.MS_set ?_ q_ | apply mapMo.MS_alloc | apply mapMo.MS_drewN | apply mapMo.MS_drew) | exact Ad.out)⟩, ⟨bq1 Ab AR⟩, ⟨bq0 Aj⟩, ⟨bbw2 HB Ae AG⟩⟩
       case round =>
        clear H'
        try clear c2
        try clear c10
        try clear BU
        try clear CF
        try clear CG
        try clear CH
        try clear Cp
        try clear BV
        try clear CJ
        try clear CK
        try clear CM
        try clear CN
        try clear CO
        try clear CE
        try clear Cs
        try clear Db
        try clear Dc
        try clear Dd
        try clear De
        try clear Be
        try clear Bf
        try clear Bg
        try clear Bh
        try clear Bi
        try clear Bj
        try clear Bq
        try clear Br
        try clear Bs
        try clear Bt
        try clear Bu
        try clear Bv
        try clear BC
        try clear BD
        try clear BE
        try clear BF
        try clear BG
        try clear BH
        try clear Ca
        try clear Cb
        try clear Cc
        try clear Cd
        try clear Ce
        try clear Cf
        try clear Bk
        try clear Bl
        try clear Bm
        try clear Bn
        try clear Bo
        try clear Bp
        try clear Bw
        try clear Bx
        try clear By
        try clear Bz
        try clear BA
        try clear BB
        try clear BI
        try clear BJ
        try clear BK
        try clear BL
        try clear BM
        try clear BN
        try clear Cg
        try clear Ch
        try clear Ci
        try clear Cj
        try clear Ck
        try clear Cl
        try clear AH
        try clear AI
        try clear AJ
        try clear AK
        try clear AL
        try clear AM
        try clear BX
        try clear BY
        try clear BZ
        try clear B0
        try clear B3
        try clear B8
        try clear p557
        try clear p575
        try clear q557
        try clear q575
        obtain ⟨Ah, rfl, HA, Dj, Ad, Ab, Aj, HB⟩ := hrel
        cases gk with
        | zero => exact absurd HA.out (by simp [impl_isGroup.l2])
        | succ k3 =>
         have H := HA.out
         clear HA
         simp only [impl_isGroup.l2] at H
         by_cases CR : Ah < (l2.length : Int)
         rw [if_pos CR] at H
         have Df := decide_eq_true CR
         clear CR
         by_cases Dk : 0 ≤ Ah
         rw [if_pos Dk] at H
         have Er := decide_eq_true Dk
         clear Dk
         by_cases Dl : Ah < (l2.length : Int)
         rw [if_pos Dl] at H
         have Es := decide_eq_true Dl
         clear Dl
         obtain ⟨⟨D6, D7, D8, D9, Ea, Eb⟩, EI, H⟩ := ob H
         try dsimp only at H
         obtain ⟨⟨EJ, EK, EL, EM, EN, EO⟩, EP, H⟩ := ob H
         try dsimp only at H
         obtain ⟨Cx, EQ, H⟩ := ob H
         try dsimp only at H
         by_cases Dm : Cx = true
         subst Dm
         replace H := ifT H
         have H' := Aside0.mk H
         clear H
         rotate_left
         replace Dm := Bool.eq_false_iff.mpr Dm
         subst Dm
         replace H := ifF H
         obtain rfl := Option.some.inj H
         rotate_left
         ·rw [if_neg Dl] at H
          exact absurd H (by simp)
         ·rw [if_neg Dk] at H
          exact absurd H (by simp)
         rw [if_neg CR] at H
         have Df := decide_eq_false CR
         clear CR
         have H' := Aside0.mk H
         clear H
         rotate_left
         rotate_left 2
         ·go_wp2
          go_roundg k3
          case measure => have := Co.out; have := Di.out; have := Dj.out; omega
          case rel => exact ⟨(wrap64 (Ag + 1)), (by first | rfl | (simp; done) | (simp [*]; done)), H', ⟨by have := Co.out; have := Di.out; have := Dj.out; omega⟩, ⟨by (with_reducible repeat (first | apply mapMo.MS_alloc | apply mapMo.MS_drewN | apply mapMo.MS_drew)); exact Ad.out⟩, ⟨bkp Ab⟩, ⟨bbw2 HB Ae AG⟩⟩
         all_goals
          obtain ⟨p577, q577, ad577, e577, Dn, Do, Dp, Dq, Dr, Ds⟩ := at_T46x HR2.out HB Ah
          obtain rfl : ad575 = ad577 := (by injection e577)
          try go_wp2_with (first | ((with_reducible refine gd 14 rfl ?_); refine bx #[.int .i64 0, .int .i64 0, .int .i64 0, .int .i64 0, .int .i64 0, .int .i64 0] 46 ?_; intro AO hg ER At hb; replace Ad := asd (mapMo.MS_below (by (with_reducible repeat (first | apply mapMo.MS_alloc | apply mapMo.MS_drewN | apply mapMo.MS_drew)); exact Ad.out) hb); have A5 := ngw2 hg HB Ae AG; replace HB := bS2 HB Ae AG hb; have AS := nlt hg Ab; have BQ := nsy (nlt hg Ab); replace Ab := bB Ab hb; have AT := nlt hg Aj; have BR := nsy (nlt hg Aj); replace Aj := bB Aj hb; clear hb hg; have Et := BQ.out; have Eu := AS.out; have Ew := BR.out; have Ex := AT.out; obtain ⟨Dt, Du, Dv, Dw, Dx, Dy, Dz, DA, DB, DC, DD, DE⟩ := bz6 At))
          obtain ⟨CS, h_w93⟩ : ∃ w_, ((((((ER.setCell ⟨AO, 0, none⟩ (.int .i64 ((rd_T46 l2 Ah).f0.f0))).setCell ⟨AO, 1, none⟩ (.int .i64 ((rd_T46 l2 Ah).f0.f1))).setCell ⟨AO, 2, none⟩ (.int .i64 ((rd_T46 l2 Ah).f0.f2))).setCell ⟨AO, 3, none⟩ (.int .i64 ((rd_T46 l2 Ah).f0.f3))).setCell ⟨AO, 4, none⟩ (.int .i64 ((rd_T46 l2 Ah).f1.f0))).setCell ⟨AO, 5, none⟩ (.int .i64 ((rd_T46 l2 Ah).f1.f1))) = w_ := ⟨_, rfl⟩
          replace Ad : Aside0 (mapMo.MS CS gbM AD) := by rw [← h_w93]; exact ⟨by have q_ := mapMo.MS_ne Ad.out At.out; repeat (first | (with_reducible first | exact Ad.out | refine mapMo.MS_set ?_ q_ | apply mapMo.MS_alloc | apply mapMo.MS_drewN | apply mapMo.MS_drew) | exact Ad.out)⟩
          replace Ab : Aside0 (CS.heap[AF]? = some (.cells #[.int .i64 Al, .int .i64 Am, .int .i64 An] 30 (0, 0))) := by rw [← h_w93]; exact ⟨bq1 Ab AS⟩
          replace Aj : Aside0 (CS.heap[Ct]? = some (.cells #[.int .i64 ((rd_T46 l2 Ag).f0.f0), .int .i64 ((rd_T46 l2 Ag).f0.f1), .int .i64 ((rd_T46 l2 Ag).f0.f2), .int .i64 ((rd_T46 l2 Ag).f0.f3), .int .i64 ((rd_T46 l2 Ag).f1.f0), .int .i64 ((rd_T46 l2 Ag).f1.f1)] 46 (0, 0))) := by rw [← h_w93]; exact ⟨bq1 Aj AT⟩
          replace At : Aside0 (CS.heap[AO]? = some (.cells #[.int .i64 ((rd_T46 l2 Ah).f0.f0), .int .i64 ((rd_T46 l2 Ah).f0.f1), .int .i64 ((rd_T46 l2 Ah).f0.f2), .int .i64 ((rd_T46 l2 Ah).f0.f3), .int .i64 ((rd_T46 l2 Ah).f1.f0), .int .i64 ((rd_T46 l2 Ah).f1.f1)] 46 (0, 0))) := by rw [← h_w93]; exact ⟨bq0 At⟩
          replace HB : Aside0 (Below w.heap.size w CS) := by rw [← h_w93]; exact ⟨bbw3 HB Ae AG A5⟩
          (try rw [h_w93]); clear h_w93
          replace Ad := asd (mapMo.MS_drew Ad.out)
          replace Ab := asd (blk_drew Ab.out)
          replace Aj := asd (blk_drew Aj.out)
          replace At := asd (blk_drew At.out)
          replace HB := asd (below_drew1 HB.out)
          refine sh 8 (cb3 Ab (cb6 Aj (eb6 At))) (fun hHeld => ?_); refine with_tabW impl_isGroup.tab17 impl_isGroup.bits17 (fun HT_ HW_ => ?_)
          generalize CS.drew = E3 at Ad Ab Aj At HB hHeld ⊢
          refine pu 0 (some 74) (bT 8 1) HT_ ?_
          refine ta 1 (some 75) (bT 8 2) HT_ HW_ hHeld ?_
          refine ta 2 (some 76) (bT 8 3) HT_ HW_ hHeld ?_
          refine ta 3 (some 77) (bT 8 4) HT_ HW_ hHeld ?_
          refine ro 4 (some 78) (bT 8 5) HT_ (fun K hK => ?_)
          refine gs Tryz.func95 #[.agg #[.int .i64 ((rd_T46 l2 Ag).f0.f0), .int .i64 ((rd_T46 l2 Ag).f0.f1), .int .i64 ((rd_T46 l2 Ag).f0.f2), .int .i64 ((rd_T46 l2 Ag).f0.f3), .int .i64 ((rd_T46 l2 Ag).f1.f0), .int .i64 ((rd_T46 l2 Ag).f1.f1)], .agg #[.int .i64 ((rd_T46 l2 Ah).f0.f0), .int .i64 ((rd_T46 l2 Ah).f0.f1), .int .i64 ((rd_T46 l2 Ah).f0.f2), .int .i64 ((rd_T46 l2 Ah).f0.f3), .int .i64 ((rd_T46 l2 Ah).f1.f0), .int .i64 ((rd_T46 l2 Ah).f1.f1)]] ?_
          with_reducible refine (impl_Motion_times.calls _ _ _ _ _ _ _ _ _ _ _ _ _ _ _ _ _ _ _ EI.out).mono ?_
          rintro e E4 ⟨rfl, hb⟩
          refine ⟨_, rfl, ?_⟩
          replace Ad := asd (mapMo.MS_below (by (with_reducible repeat (first | apply mapMo.MS_alloc | apply mapMo.MS_drewN | apply mapMo.MS_drew)); exact Ad.out) hb)
          replace Ab := bB Ab hb
          replace Aj := bB Aj hb
          replace At := bB At hb
          replace HB := bS3 HB Ae AG A5 hb
          (try clear hb)
          (try clear hb2)
          (try clear hk)
          (try clear hi)
          refine hK.out _ _ (cb3 Ab (cb6 Aj (eb6 At))).out (fun hHeld => ?_)
          clear hK K
          refine norm_ (a' := ?_) ?_ ?_
          rotate_left
          ·show Act.put _ (some 78) _ = _
           simp only [Act.put, sA, sB, sC, i64_w, i32_w]
           rfl
          refine ro 5 (some 79) (bT 8 6) HT_ (fun K hK => ?_)
          refine gs Tryz.func94 #[.agg #[.int .i64 Al, .int .i64 Am, .int .i64 An], .agg #[.int .i64 D6, .int .i64 D7, .int .i64 D8, .int .i64 D9, .int .i64 Ea, .int .i64 Eb]] ?_
          with_reducible refine (impl_Lattice_reduceMotion.calls _ _ _ _ _ _ _ _ _ _ _ _ _ _ _ _ EP.out).mono ?_
          rintro e E5 ⟨rfl, hb⟩
          refine ⟨_, rfl, ?_⟩
          replace Ad := asd (mapMo.MS_below (by (with_reducible repeat (first | apply mapMo.MS_alloc | apply mapMo.MS_drewN | apply mapMo.MS_drew)); exact Ad.out) hb)
          replace Ab := bB Ab hb
          replace Aj := bB Aj hb
          replace At := bB At hb
          replace HB := bS3 HB Ae AG A5 hb
          (try clear hb)
          (try clear hb2)
          (try clear hk)
          (try clear hi)
          refine hK.out _ _ (cb3 Ab (cb6 Aj (eb6 At))).out (fun hHeld => ?_)
          clear hK K
          refine norm_ (a' := ?_) ?_ ?_
          rotate_left
          ·show Act.put _ (some 79) _ = _
           simp only [Act.put, sA, sB, sC, i64_w, i32_w]
           rfl
          refine ro 6 (some 80) (bT 8 7) HT_ (fun K hK => ?_)
          refine mapMo.get_step EQ.out (by rfl) rfl _ _ rfl rfl (by (with_reducible repeat (first | apply mapMo.MS_alloc | apply mapMo.MS_drewN | apply mapMo.MS_drew)); exact Ad.out) rfl ?_
          refine hK.out _ _ hHeld (fun hHeld => ?_)
          clear hK K
          refine norm_ (a' := ?_) ?_ ?_
          rotate_left
          ·show Act.put _ (some 80) _ = _
           simp only [Act.put, sA, sB, sC, i64_w, i32_w]
           rfl
          refine pu 7 (some 81) (bT 8 8) HT_ ?_
          refine done_ (done_of HT_.out (by kernel_rfl)) ?_
          try go_wp2
         ·go_roundg k3
          case measure => have := Co.out; have := Di.out; have := Dj.out; omega
          case rel => exact ⟨(wrap64 (Ah + 1)), (by first | rfl | (simp; done) | (simp [*]; done)), H', ⟨by have := Co.out; have := Di.out; have := Dj.out; omega⟩, ⟨by (with_reducible repeat (first | apply mapMo.MS_alloc | apply mapMo.MS_drewN | apply mapMo.MS_drew)); exact Ad.out⟩, ⟨bkp Ab⟩, ⟨bkp Aj⟩, ⟨bbw3 HB Ae AG A5⟩⟩
         ·go_ret
          exact er (bbw3 HB Ae AG A5)
      ·go_wp2
       go_ret
       exact er (bbw1 HB Ae)
   ·go_wp2_with (first | ((with_reducible refine gate_callee (f := 62) rfl ?_); refine gl 58 Tryz.func62 #[] ?_; (with_reducible refine (impl_unit.calls _ _ _ _ _ Ei.out).mono ?_); rintro e ES ⟨rfl, hb⟩; refine ⟨_, rfl, ?_⟩; replace Af := asd (Kd.R_below (kr Af) hb); replace Ad := asd (mapMo.MS_below (by (with_reducible repeat (first | apply mapMo.MS_alloc | apply mapMo.MS_drewN | apply mapMo.MS_drew)); exact Ad.out) hb); replace Ab := bB Ab hb; replace HB := bS1 HB Ae hb; (try clear hb)) | (at_lookup; refine mapMo.get_has Ej.out rfl _ _ rfl rfl (by (with_reducible repeat (first | apply mapMo.MS_alloc | apply mapMo.MS_drewN | apply mapMo.MS_drew)); exact Ad.out) rfl ?_))
    go_ret
    exact er (bbw1 HB Ae)
   all_goals
    obtain ⟨p557, q557, ad557, e557, AH, AI, AJ, AK, AL, AM⟩ := at_T46x HR2.out HB Aa
    cases e557
    try go_wp2_with (first | ((with_reducible refine gd 10 rfl ?_); refine bx #[.int .i64 0, .int .i64 0, .int .i64 0, .int .i64 0, .int .i64 0, .int .i64 0] 46 ?_; intro Ai hg ET Ac hb; replace Af := asd (Kd.R_below (kr Af) hb); replace Ad := asd (mapMo.MS_below (by (with_reducible repeat (first | apply mapMo.MS_alloc | apply mapMo.MS_drewN | apply mapMo.MS_drew)); exact Ad.out) hb); have Ao := ngw1 hg HB Ae; replace HB := bS1 HB Ae hb; have Ak := nlt hg Ab; have AB := nsy (nlt hg Ab); replace Ab := bB Ab hb; clear hb hg; have Ey := AB.out; have Ez := Ak.out; obtain ⟨DF, DG, DH, DI, DJ, DK, DL, DM, DN, DO, DP, DQ⟩ := bz6 Ac))
    obtain ⟨Cu, h_w20⟩ : ∃ w_, ((((((ET.setCell ⟨Ai, 0, none⟩ (.int .i64 ((rd_T46 l2 Aa).f0.f0))).setCell ⟨Ai, 1, none⟩ (.int .i64 ((rd_T46 l2 Aa).f0.f1))).setCell ⟨Ai, 2, none⟩ (.int .i64 ((rd_T46 l2 Aa).f0.f2))).setCell ⟨Ai, 3, none⟩ (.int .i64 ((rd_T46 l2 Aa).f0.f3))).setCell ⟨Ai, 4, none⟩ (.int .i64 ((rd_T46 l2 Aa).f1.f0))).setCell ⟨Ai, 5, none⟩ (.int .i64 ((rd_T46 l2 Aa).f1.f1))) = w_ := ⟨_, rfl⟩
    replace Af : Aside0 (Kd.R k42 42 Cu w.heap.size (fun _ => True) v552 AE) := by rw [← h_w20]; exact ⟨by (with_reducible repeat (first | apply Kd.R_alloc | apply Kd.R_drewN | apply Kd.R_drew)); exact Kd.R_mono (rw6 (Kd.R_types Af.out Ac.out (by decide))) (fun _ hk => trivial)⟩
    replace Ad : Aside0 (mapMo.MS Cu gbM AD) := by rw [← h_w20]; exact ⟨by have q_ := mapMo.MS_ne Ad.out Ac.out; repeat (first | (with_reducible first | exact Ad.out | refine mapMo.MS_set ?_ q_ | apply mapMo.MS_alloc | apply mapMo.MS_drewN | apply mapMo.MS_drew) | exact Ad.out)⟩
    replace Ab : Aside0 (Cu.heap[AF]? = some (.cells #[.int .i64 Al, .int .i64 Am, .int .i64 An] 30 (0, 0))) := by rw [← h_w20]; exact ⟨bq1 Ab Ak⟩
    replace Ac : Aside0 (Cu.heap[Ai]? = some (.cells #[.int .i64 ((rd_T46 l2 Aa).f0.f0), .int .i64 ((rd_T46 l2 Aa).f0.f1), .int .i64 ((rd_T46 l2 Aa).f0.f2), .int .i64 ((rd_T46 l2 Aa).f0.f3), .int .i64 ((rd_T46 l2 Aa).f1.f0), .int .i64 ((rd_T46 l2 Aa).f1.f1)] 46 (0, 0))) := by rw [← h_w20]; exact ⟨bq0 Ac⟩
    replace HB : Aside0 (Below w.heap.size w Cu) := by rw [← h_w20]; exact ⟨bbw2 HB Ae Ao⟩
    (try rw [h_w20]); clear h_w20
    replace Af := asd (Kd.R_drew Af.out)
    replace Ad := asd (mapMo.MS_drew Ad.out)
    replace Ab := asd (blk_drew Ab.out)
    replace Ac := asd (blk_drew Ac.out)
    replace HB := asd (below_drew1 HB.out)
    obtain ⟨Ao22, co22, eo22⟩ := Kd.R_slice Af.out
    (first | subst eo22 | (injection eo22 with f1_ f2_ f3_; have f4_ := f1_.symm; have f5_ := f3_.symm; clear f1_ f2_ f3_; subst f4_; subst f5_))
   refine sh 28 (cb6 Ac (eb3 Ab)) (fun hHeld => ?_); refine with_tabW impl_isGroup.tab5 impl_isGroup.bits5 (fun HT_ HW_ => ?_)
   generalize Cu.drew = E6 at Af Ad Ab Ac HB hHeld ⊢
   rotate_left
   obtain ⟨p562, q562, ad562, e562, Au, Av, Aw, Ax, Ay, Az, AU, AV, AW, AX, AY, AZ⟩ := at_T46w HR2.out HB (AC)
   obtain rfl : ad557 = ad562 := (by injection e562)
   refine sh 28 (cb6 Ac (cb3 Ab (ex6 HB Au Av Aw Ax Ay Az))) (fun hHeld => ?_); refine with_tabW impl_isGroup.tab5 impl_isGroup.bits5 (fun HT_ HW_ => ?_)
   generalize Cu.drew = E7 at Af Ad Ab Ac HB AU AV AW AX AY AZ hHeld ⊢
   rotate_left
   obtain ⟨p562, q562, ad562, e562, Au, Av, Aw, Ax, Ay, Az, AU, AV, AW, AX, AY, AZ⟩ := at_T46w HR2.out HB (AC)
   obtain rfl : ad557 = ad562 := (by injection e562)
   refine sh 28 (cb6 Ac (cb3 Ab (ex6 HB Au Av Aw Ax Ay Az))) (fun hHeld => ?_); refine with_tabW impl_isGroup.tab5 impl_isGroup.bits5 (fun HT_ HW_ => ?_)
   generalize Cu.drew = E8 at Af Ad Ab Ac HB AU AV AW AX AY AZ hHeld ⊢
   rotate_left
   all_goals
    refine pu 0 (some 26) (bT 28 1) HT_ ?_
    refine pu 1 (some 27) (bT 28 2) HT_ ?_
    refine ta 2 (some 28) (bT 28 3) HT_ HW_ hHeld ?_
    refine ro 3 (some 29) (bT 28 4) HT_ (fun K hK => ?_)
    refine gs Tryz.func91 #[.slice Ao22 AE.length co22, .agg #[.int .i64 ((rd_T46 l2 Aa).f0.f0), .int .i64 ((rd_T46 l2 Aa).f0.f1), .int .i64 ((rd_T46 l2 Aa).f0.f2), .int .i64 ((rd_T46 l2 Aa).f0.f3)]] ?_
    with_reducible refine (impl_Mat_91.calls _ _ _ _ _ _ _ _ _ _ ?side1 ?side2 Dh.out).mono ?_
    (case side1 => exact ks (Kd.R_reads' Af.out).2.2)
    (case side2 => exact (Kd.R_reads' Af.out).2.1)
    rintro e E9 ⟨rfl, hb⟩
    refine ⟨_, rfl, ?_⟩
    replace Af := asd (Kd.R_below (kr Af) hb)
    replace Ad := asd (mapMo.MS_below (by (with_reducible repeat (first | apply mapMo.MS_alloc | apply mapMo.MS_drewN | apply mapMo.MS_drew)); exact Ad.out) hb)
    replace Ab := bB Ab hb
    replace Ac := bB Ac hb
    replace HB := bS2 HB Ae Ao hb
    (try clear hb)
    (try clear hb2)
    (try clear hk)
    (try clear hi)
   refine hK.out _ _ (cb6 Ac (eb3 Ab)).out (fun hHeld => ?_)
   rotate_left
   refine hK.out _ _ (cb6 Ac (cb3 Ab (ex6 HB Au Av Aw Ax Ay Az))).out (fun hHeld => ?_)
   rotate_left
   refine hK.out _ _ (cb6 Ac (cb3 Ab (ex6 HB Au Av Aw Ax Ay Az))).out (fun hHeld => ?_)
   rotate_left
   all_goals
    clear hK K
    refine norm_ (a' := ?_) ?_ ?_
    rotate_left
    ·show Act.put _ (some 29) _ = _
     simp only [Act.put, sA, sB, sC, i64_w, i32_w]
     rfl
    refine pu 4 (some 30) (bT 28 5) HT_ ?_
    refine pu 5 (some 31) (bT 28 6) HT_ ?_
    refine pu 7 (some 33) (bs 28 191) HT_ ?_
    refine pu 10 (some 36) (bs 28 1215) HT_ ?_
    refine ta 6 (some 32) (bs 28 1279) HT_ HW_ hHeld ?_
    refine ta 8 (some 34) (bs 28 1535) HT_ HW_ hHeld ?_
    refine ta 11 (some 37) (bs 28 3583) HT_ HW_ hHeld ?_
    refine ro 9 (some 35) (bT 28 12) HT_ (fun K hK => ?_)
    refine gs Tryz.func92 #[.agg #[.int .i64 Al, .int .i64 Am, .int .i64 An], .agg #[.int .i64 ((rd_T46 l2 Aa).f1.f0), .int .i64 ((rd_T46 l2 Aa).f1.f1)]] ?_
    with_reducible refine (impl_Lattice_reduce.calls _ _ _ _ _ _ _ _ D4.out).mono ?_
    rintro e Fa ⟨rfl, hb⟩
    refine ⟨_, rfl, ?_⟩
    replace Af := asd (Kd.R_below (kr Af) hb)
    replace Ad := asd (mapMo.MS_below (by (with_reducible repeat (first | apply mapMo.MS_alloc | apply mapMo.MS_drewN | apply mapMo.MS_drew)); exact Ad.out) hb)
    replace Ab := bB Ab hb
    replace Ac := bB Ac hb
    replace HB := bS2 HB Ae Ao hb
    (try clear hb)
    (try clear hb2)
    (try clear hk)
    (try clear hi)
   refine hK.out _ _ (cb6 Ac (eb3 Ab)).out (fun hHeld => ?_)
   rotate_left
   refine hK.out _ _ (cb6 Ac (cb3 Ab (ex6 HB Au Av Aw Ax Ay Az))).out (fun hHeld => ?_)
   rotate_left
   refine hK.out _ _ (cb6 Ac (cb3 Ab (ex6 HB Au Av Aw Ax Ay Az))).out (fun hHeld => ?_)
   rotate_left
   all_goals
    clear hK K
    refine norm_ (a' := ?_) ?_ ?_
    rotate_left
    ·show Act.put _ (some 35) _ = _
     simp only [Act.put, sA, sB, sC, i64_w, i32_w]
     rfl
    refine pu 12 (some 38) (bT 28 13) HT_ ?_
    refine pu 13 (some 39) (bT 28 14) HT_ ?_
    refine pu 14 (some 40) (bT 28 15) HT_ ?_
   ·refine pf 15 (some 41) (bT 28 16) HT_ ?_
    refine pf 16 (some 42) (bT 28 17) HT_ ?_
    refine pf 17 (some 43) (bT 28 18) HT_ ?_
    refine pf 18 (some 44) (bT 28 19) HT_ ?_
    refine pf 19 (some 45) (bT 28 20) HT_ ?_
    refine pf 20 (some 46) (bT 28 21) HT_ ?_
    refine pf 21 (some 47) (bT 28 22) HT_ ?_
    refine pf 22 (some 48) (bT 28 23) HT_ ?_
    refine pf 23 (some 49) (bT 28 24) HT_ ?_
    refine pf 24 (some 50) (bT 28 25) HT_ ?_
    refine pf 25 (some 51) (bT 28 26) HT_ ?_
    refine pf 26 (some 52) (bT 28 27) HT_ ?_
    refine pu 27 (some 53) (bT 28 28) HT_ ?_
    refine done_ (done_of HT_.out (by kernel_rfl)) ?_
    try go_wp2
    go_ret
    exact er (bbw2 HB Ae Ao)
   rotate_left 2
   all_goals
    refine pu 15 (some 41) (bT 28 16) HT_ ?_
    refine pu 16 (some 42) (bT 28 17) HT_ ?_
    refine pu 17 (some 43) (bT 28 18) HT_ ?_
    refine pu 18 (some 44) (bT 28 19) HT_ ?_
    refine pu 19 (some 45) (bT 28 20) HT_ ?_
    refine pu 20 (some 46) (bT 28 21) HT_ ?_
    refine pu 21 (some 47) (bT 28 22) HT_ ?_
    refine ta 22 (some 48) (bT 28 23) HT_ HW_ hHeld ?_
    refine ta 23 (some 49) (bT 28 24) HT_ HW_ hHeld ?_
    refine ro 24 (some 50) (bT 28 25) HT_ (fun K hK => ?_)
    refine goes_ Tryz.func93 (by kernel_rfl) rfl #[.agg #[.int .i64 ((rd_T46 l2 (AC)).f0.f0), .int .i64 ((rd_T46 l2 (AC)).f0.f1), .int .i64 ((rd_T46 l2 (AC)).f0.f2), .int .i64 ((rd_T46 l2 (AC)).f0.f3), .int .i64 ((rd_T46 l2 (AC)).f1.f0), .int .i64 ((rd_T46 l2 (AC)).f1.f1)], .agg #[.int .i64 ((rd_T46 l2 Aa).f0.f0), .int .i64 ((rd_T46 l2 Aa).f0.f1), .int .i64 ((rd_T46 l2 Aa).f0.f2), .int .i64 ((rd_T46 l2 Aa).f0.f3), .int .i64 ((rd_T46 l2 Aa).f1.f0), .int .i64 ((rd_T46 l2 Aa).f1.f1)]] (by rfl) rfl rfl (by (try simp only [List.map_toArray, List.map_cons, List.map_nil]); first | done | (simp only [AN]; rfl) | rfl | (simp only [List.length_drop, List.length_take]; rfl)) ?_
    with_reducible refine (impl_compareMotions.calls _ _ _ _ _ _ _ _ _ _ _ _ _ _ _ EA.out).mono ?_
    rintro e Fb ⟨rfl, hb⟩
    refine ⟨_, rfl, ?_⟩
    replace Af := asd (Kd.R_below (kr Af) hb)
    replace Ad := asd (mapMo.MS_below (by (with_reducible repeat (first | apply mapMo.MS_alloc | apply mapMo.MS_drewN | apply mapMo.MS_drew)); exact Ad.out) hb)
    replace Ab := bB Ab hb
    replace Ac := bB Ac hb
    replace HB := bS2 HB Ae Ao hb
    (try clear hb)
    (try clear hb2)
    (try clear hk)
    (try clear hi)
    refine hK.out _ _ (cb6 Ac (cb3 Ab (ex6 HB Au Av Aw Ax Ay Az))).out (fun hHeld => ?_)
    clear hK K
    refine norm_ (a' := ?_) ?_ ?_
    rotate_left
    ·show Act.put _ (some 50) _ = _
     simp only [Act.put, sA, sB, sC, i64_w, i32_w]
     rfl
    refine pu 25 (some 51) (bT 28 26) HT_ ?_
    refine pu 26 (some 52) (bT 28 27) HT_ ?_
    refine pu 27 (some 53) (bT 28 28) HT_ ?_
    refine done_ (done_of HT_.out (by kernel_rfl)) ?_
   ·try go_wp2
    go_ret
    exact ⟨by first | rfl | (simp [errW_none, errW_some] <;> rfl) | (simp only [← AN]; first | rfl | (simp [errW_none, errW_some] <;> rfl)) | (simp [*, errW_none, errW_some] <;> rfl), bbw2 HB Ae Ao⟩
   ·obtain ⟨DR, DS, DT, DU, DV, DW, DX, DY, DZ, D0, D1, D2⟩ := bz6 Ac
    try go_wp2_with (first | (at_mapUpdate; refine mapMo.put_event rfl _ _ _ rfl rfl (by (with_reducible repeat (first | apply mapMo.MS_alloc | apply mapMo.MS_drewN | apply mapMo.MS_drew)); exact Ad.out) (⟨(⟨(rd_T46 l2 Aa).f0.f0, (rd_T46 l2 Aa).f0.f1, (rd_T46 l2 Aa).f0.f2, (rd_T46 l2 Aa).f0.f3⟩ : S42), (⟨(rd_T46 l2 Aa).f1.f0, (rd_T46 l2 Aa).f1.f1⟩ : S44)⟩ : S46) rfl rfl Cq.out.2 Cq.out.1 ?_; intro EU ho hg; rw [← C2.out] at ho; have hb : Below w.heap.size w EU := mapMo.below_put (bbw2 HB Ae Ao) GEM.out hg; have C5 := asd (mapMo.R_map (kr Af) (by (with_reducible repeat (first | apply mapMo.MS_alloc | apply mapMo.MS_drewN | apply mapMo.MS_drew)); exact Ad.out) hg); have C6 := asd (mapMo.blk_put (g := AF) (cs := #[.int .i64 Al, .int .i64 Am, .int .i64 An]) (t := 30) (bkp Ab) (by (with_reducible repeat (first | apply mapMo.MS_alloc | apply mapMo.MS_drewN | apply mapMo.MS_drew)); exact Ad.out) hg); have C7 := asd (mapMo.blk_put (g := Ai) (cs := #[.int .i64 ((rd_T46 l2 Aa).f0.f0), .int .i64 ((rd_T46 l2 Aa).f0.f1), .int .i64 ((rd_T46 l2 Aa).f0.f2), .int .i64 ((rd_T46 l2 Aa).f0.f3), .int .i64 ((rd_T46 l2 Aa).f1.f0), .int .i64 ((rd_T46 l2 Aa).f1.f1)]) (t := 46) (bkp Ac) (by (with_reducible repeat (first | apply mapMo.MS_alloc | apply mapMo.MS_drewN | apply mapMo.MS_drew)); exact Ad.out) hg); have C8 := asd (hb); have C9 := asd (ho); clear Af; clear Ab; clear Ac; clear HB; clear Ad; have Af := C5; have Ab := C6; have Ac := C7; have HB := C8; have Dg := C9; clear C5 C6 C7 C8 C9; clear ho hb hg))
    go_roundg k1
    case measure => have := Co.out; omega
    case rel => exact ⟨(C1), (wrap64 (Aa + 1)), (by first | rfl | (simp; done) | (simp [*]; done)), H', ⟨by have := Co.out; omega⟩, ⟨by (with_reducible repeat (first | apply Kd.R_alloc | apply Kd.R_drewN | apply Kd.R_drew)); exact Af.out⟩, ⟨by (with_reducible repeat (first | apply mapMo.MS_alloc | apply mapMo.MS_drewN | apply mapMo.MS_drew)); exact Dg.out⟩, ⟨bkp Ab⟩, ⟨bbw2 HB Ae Ao⟩⟩
end Go.Proofs.YtfmjboloeabjmaaGreat.PA
