import Derived.Test.YtfmjboloeabjmaaGreatPAx0
import Derived.Test.YtfmjboloeabjmaaGreatPAx2
import Derived.Test.YtfmjboloeabjmaaGreatPAx4
import Derived.Test.YtfmjboloeabjmaaGreatPAx5
import Derived.Test.YtfmjboloeabjmaaGreatPAx6
namespace Go.Proofs.YtfmjboloeabjmaaGreat.PA
open Go.RowKit Go.Proofs.YtfmjboloeabjmaaGreatW.PrintWords Go.Proofs.YtfmjboloeabjmaaGreatW.PrintLast Go.Proofs.YtfmjboloeabjmaaGreatW.PrintMore
attribute [local go_sem] max2_int min2_int max_two min_two max_three min_three max_four min_four   -- for this text's walks alone
set_option linter.unusedVariables false
set_option maxHeartbeats 8000000
set_option maxRecDepth 100000
set_option linter.unusedSimpArgs false
attribute [local go_sem high] eqA42
def spec_l06Reduce.f (Ak : Int) (Al : Int) (Am : Int) (An : Int) (Ao : Int) (Ap : Int) (Aq : Int) (Ar : Int) (As : Int) : Option (Int × Int × Int × Int × Int × Int) := (spec_l03Reduce.f Ak Al Am Ar As).bind fun Aj => (some (An, Ao, Ap, Aq, Aj.1, Aj.2))
def spec_l06Reduce.T1 : Bool × List (List Nat × List Nat) := (true, [([], []), ([0], [0]), ([], []), ([], []), ([3], [3]), ([2, 4], [2, 4]), ([1, 5], [1, 5]), ([6, 5, 0, 1, 2, 3, 4, 5, 6], [6])])
def spec_l06Reduce.B1 : List Nat := [0, 1, 0, 0, 8, 28, 63, 127]
theorem spec_l06Reduce.tab1 : rtab .any (opsOf Tryz.f45 1) = spec_l06Reduce.T1 := by kernel_rfl
theorem spec_l06Reduce.bits1 : waitsOk spec_l06Reduce.T1.2 spec_l06Reduce.B1 = true := by kernel_rfl
theorem spec_l06Reduce.calls (Ak : Int) (Al : Int) (Am : Int) (An : Int) (Ao : Int) (Ap : Int) (Aq : Int) (Ar : Int) (As : Int) (r1 : Int) (r2 : Int) (r3 : Int) (r4 : Int) (r5 : Int) (r6 : Int) (w : World) (h : spec_l06Reduce.f Ak Al Am An Ao Ap Aq Ar As = some (r1, r2, r3, r4, r5, r6)) :
  Calls Tryz.prog 45 #[.agg #[.int .i64 Ak, .int .i64 Al, .int .i64 Am], .agg #[.int .i64 An, .int .i64 Ao, .int .i64 Ap, .int .i64 Aq, .int .i64 Ar, .int .i64 As]] w fun e w' => e = .returned (.agg #[.int .i64 r1, .int .i64 r2, .int .i64 r3, .int .i64 r4, .int .i64 r5, .int .i64 r6]) ∧ Below w.heap.size w w' := by
 have hu30 := Tryz.underlying30
 have hu46 := Tryz.underlying46
 have hu42 := Tryz.underlying42
 have hu44 := Tryz.underlying44
 have HB := asd (Below.refl w.heap.size w)
 have H : ((spec_l03Reduce.f Ak Al Am Ar As).bind fun Aj => (some (An, Ao, Ap, Aq, Aj.1, Aj.2))) = some (r1, r2, r3, r4, r5, r6) := h
 clear h
 obtain ⟨⟨AR, AS⟩, A3, H⟩ := ob H
 try dsimp only at H
 simp only [Option.some.injEq, Prod.mk.injEq] at H
 obtain ⟨rfl, rfl, rfl, rfl, rfl, rfl⟩ := H
 go_enter Tryz.func45, Tryz.ntmps45
 try go_wp2_with (first | ((with_reducible refine gd 2 rfl ?_); refine bx #[.int .i64 Ak, .int .i64 Al, .int .i64 Am] 30 ?_; intro AX hg w4 Af hb; have Ai := ngw0 hg HB; replace HB := bS0 HB hb; clear hb hg) | ((with_reducible refine gd 3 rfl ?_); refine bx #[.int .i64 An, .int .i64 Ao, .int .i64 Ap, .int .i64 Aq, .int .i64 Ar, .int .i64 As] 46 ?_; intro AY hg w5 Ag hb; have At := ngw1 hg HB Ai; replace HB := bS1 HB Ai hb; have Av := nlt hg Af; have Aw := nsy (nlt hg Af); replace Af := bB Af hb; clear hb hg) | ((with_reducible refine gd 4 rfl ?_); refine bx #[.int .i64 0, .int .i64 0, .int .i64 0, .int .i64 0, .int .i64 0, .int .i64 0] 46 ?_; intro Ah hg w6 Ac hb; have Au := ngw2 hg HB Ai At; replace HB := bS2 HB Ai At hb; have Ab := nlt hg Af; have Ad := nsy (nlt hg Af); replace Af := bB Af hb; have Aa := nlt hg Ag; have Ae := nsy (nlt hg Ag); replace Ag := bB Ag hb; clear hb hg))
 replace Af := asd (blk_drew Af.out)
 replace Ag := asd (blk_drew Ag.out)
 replace Ac := asd (blk_drew Ac.out)
 replace HB := asd (below_drew1 HB.out)
 refine sh 8 (cb6 Ag (eb3 Af)) (fun hHeld => ?_); refine with_tabW spec_l06Reduce.tab1 spec_l06Reduce.bits1 (fun HT_ HW_ => ?_)
 generalize w6.drew = w7 at Af Ag Ac HB hHeld ⊢
 refine pu 0 (some 5) (bT 8 1) HT_ ?_
 refine pu 3 (some 8) (bs 8 9) HT_ ?_
 refine ta 1 (some 6) (bs 8 11) HT_ HW_ hHeld ?_
 refine ta 2 (some 7) (bT 8 4) HT_ HW_ hHeld ?_
 refine ta 4 (some 9) (bT 8 5) HT_ HW_ hHeld ?_
 refine ro 5 (some 10) (bT 8 6) HT_ (fun K hK => ?_)
 refine gs Tryz.func82 #[.agg #[.int .i64 Ak, .int .i64 Al, .int .i64 Am], .agg #[.int .i64 Ar, .int .i64 As]] ?_
 with_reducible refine (spec_l03Reduce.calls _ _ _ _ _ _ _ _ A3.out).mono ?_
 rintro e w8 ⟨rfl, hb⟩
 refine ⟨_, rfl, ?_⟩
 replace Af := bB Af hb
 replace Ag := bB Ag hb
 replace Ac := bB Ac hb
 replace HB := bS3 HB Ai At Au hb
 (try clear hb)
 (try clear hb2)
 (try clear hk)
 (try clear hi)
 refine hK.out _ _ (cb6 Ag (eb3 Af)).out (fun hHeld => ?_)
 clear hK K
 refine norm_ (a' := ?_) ?_ ?_
 rotate_left
 ·show Act.put _ (some 10) _ = _
  simp only [Act.put, sA, sB, sC, i64_w, i32_w]
  rfl
 refine pu 6 (some 11) (bT 8 7) HT_ ?_
 refine ro 7 (none) (bT 8 8) HT_ (fun K hK => ?_)
 have hs9 : w8.cell? ⟨Ah, 0, none⟩ = some (.int .i64 0) := bcl Ac 0
 have hfs9 := blk_frozen Ac.out 0
 have AT := Ab.out
 have AU := Aa.out
 have AV := Ad.out
 have AW := Ae.out
 have hs10 : w8.cell? ⟨Ah, 1, none⟩ = some (.int .i64 0) := bcl Ac 1
 have hfs10 := blk_frozen Ac.out 1
 have Ax := Ab.out
 have Ay := Aa.out
 have Az := Ad.out
 have AA := Ae.out
 have hs11 : w8.cell? ⟨Ah, 2, none⟩ = some (.int .i64 0) := bcl Ac 2
 have hfs11 := blk_frozen Ac.out 2
 have AB := Ab.out
 have AC := Aa.out
 have AD := Ad.out
 have AE := Ae.out
 have hs12 : w8.cell? ⟨Ah, 3, none⟩ = some (.int .i64 0) := bcl Ac 3
 have hfs12 := blk_frozen Ac.out 3
 have AF := Ab.out
 have AG := Aa.out
 have AH := Ad.out
 have AI := Ae.out
 have hs13 : w8.cell? ⟨Ah, 4, none⟩ = some (.int .i64 0) := bcl Ac 4
 have hfs13 := blk_frozen Ac.out 4
 have AJ := Ab.out
 have AK := Aa.out
 have AL := Ad.out
 have AM := Ae.out
 have hs14 : w8.cell? ⟨Ah, 5, none⟩ = some (.int .i64 0) := bcl Ac 5
 have hfs14 := blk_frozen Ac.out 5
 have AN := Ab.out
 have AO := Aa.out
 have AP := Ad.out
 have AQ := Ae.out
 refine skip_ (w1 := ?_) (by rfl) rfl ?_ ?_
 rotate_left
 ·go_simp
  rfl
 refine hK.out _ _ ⟨(cf6 Aa (hHeld.1)), (cf6 Aa (hHeld.2.1)), (cf6 Aa (hHeld.2.2.1)), (cf6 Aa (hHeld.2.2.2.1)), (cf6 Aa (hHeld.2.2.2.2.1)), (cf6 Aa (hHeld.2.2.2.2.2.1)), (cf6 Ab (hHeld.2.2.2.2.2.2.1)), (cf6 Ab (hHeld.2.2.2.2.2.2.2.1)), (cf6 Ab (hHeld.2.2.2.2.2.2.2.2))⟩ (fun hHeld => ?_)
 clear hK K
 refine done_ (done_of HT_.out (by kernel_rfl)) ?_
 try go_wp2
 refine bodyPost_ret (results_cell_row rfl _ _ Ah 46 #[.int .i64 An, .int .i64 Ao, .int .i64 Ap, .int .i64 Aq, .int .i64 AR, .int .i64 AS] (0, 0) _ rfl (bq0 Ac) Tryz.underlying46 rfl (by kernel_rfl)) rfl ?_
 exact er (bbw3 HB Ai At Au)
mutual
def spec_l01LessList.l0 : Nat → List Int → List Int → Int → Option (Bool)
 | 0, _, _, _ => none
 | k + 1, x0, x1, x5 => if x5 < (x0.length : Int) then (spec_l01LessList.j1 k x0 x1 x5 (decide (x5 < (x1.length : Int)))) else (spec_l01LessList.j1 k x0 x1 x5 false)
def spec_l01LessList.j1 : Nat → List Int → List Int → Int → Bool → Option (Bool)
 | 0, _, _, _, _ => none
 | k + 1, x0, x1, x5, Am => if Am = true then (if 0 ≤ x5 then (if x5 < (x0.length : Int) then (if x5 < (x1.length : Int) then (if (rd x0 x5) = (rd x1 x5) then (spec_l01LessList.l0 k x0 x1 (wrap64 (x5 + 1))) else (some (decide ((rd x0 x5) < (rd x1 x5))))) else (none)) else (none)) else (none)) else (some (decide ((x0.length : Int) < (x1.length : Int))))
end
def spec_l01LessList.f (k : Nat) (l0 : List Int) (l1 : List Int) : Option (Bool) := spec_l01LessList.l0 k l0 l1 0
theorem spec_l01LessList.calls (k : Nat) (A0 : Option Addr) (c0 : Nat) (l0 : List Int) (A1 : Option Addr) (c1 : Nat) (l1 : List Int) (r : Bool) (w : World) (hr0 : Kd.C (Kd.int .i64) w A0 l0.length l0) (hc0 : l0.length ≤ c0) (hr1 : Kd.C (Kd.int .i64) w A1 l1.length l1) (hc1 : l1.length ≤ c1) (h : spec_l01LessList.f k l0 l1 = some r) :
  Calls Tryz.prog 105 #[.slice A0 l0.length c0, .slice A1 l1.length c1] w fun e w' => e = .returned (.bool r) ∧ Drawn0 w w' := by
 have HR0 := Aside0.mk hr0
 have Ar := Aside0.mk hc0
 clear hr0 hc0
 have HR1 := Aside0.mk hr1
 have As := Aside0.mk hc1
 clear hr1 hc1
 have H : (spec_l01LessList.l0 k l0 l1 0) = some r := h
 clear h
 have H' := Aside0.mk H
 clear H
 go_enter Tryz.func105, Tryz.ntmps105
 go_wp2
 repeat (go_quiet (fail); try go_wp2)
 go_loopg [5] k (fun kq v5 w' => ∃ (Aa : Int), v5 = .int .i64 Aa ∧ Aside0 (spec_l01LessList.l0 kq l0 l1 Aa = some r) ∧ Aside0 (kq ≤ k) ∧ Drawn0 w w')
 case atStart => exact ⟨(0), (by first | rfl | (simp; done) | (simp [*]; done)), H', ⟨Nat.le_refl _⟩, by repeat (first | exact Drawn0.refl _ | apply Drawn0.step)⟩
 case round =>
  clear H'
  try clear c1
  obtain ⟨Aa, rfl, HA, Ad, ⟨m1, rfl⟩⟩ := hrel
  cases gk with
  | zero => exact absurd HA.out (by simp [spec_l01LessList.l0])
  | succ k1 =>
   have H := HA.out
   clear HA
   simp only [spec_l01LessList.l0] at H
   have Ai := Aside0.mk H
   clear H
   go_upto_region 2 with (fail)
   repeat (go_quiet (fail); go_upto_region 2 with (fail))
   go_cut [15] (fun v15 wc => ∃ (kq : Nat) (Ab : Bool), v15 = .bool Ab ∧ Aside0 (spec_l01LessList.j1 kq l0 l1 Aa Ab = some r) ∧ Aside0 (kq ≤ k1) ∧ Drawn0 w wc)
   case first =>
    have H := Ai.out
    clear Ai
    by_cases c4 : Aa < (l0.length : Int)
    ·rw [if_pos c4] at H
     have Ac := decide_eq_true c4
     clear c4
     (first | rw [Ac] | (simp only [i64_w, i32_w]; rw [Ac]) | skip)
     have H' := Aside0.mk H
     clear H
     go_wp2
     repeat (go_quiet (fail); try go_wp2)
     go_meet
     case rel => exact ⟨_, (decide (Aa < (l1.length : Int))), (by first | rfl | (simp; done) | (simp [*]; done)), H', ⟨by have := Ad.out; first | omega | exact Nat.le_refl _⟩, by repeat (first | exact Drawn0.refl _ | apply Drawn0.step)⟩
    ·rw [if_neg c4] at H
     have Ac := decide_eq_false c4
     clear c4
     (first | rw [Ac] | (simp only [i64_w, i32_w]; rw [Ac]) | skip)
     have H' := Aside0.mk H
     clear H
     go_wp2
     repeat (go_quiet (fail); try go_wp2)
     go_meet
     case rel => exact ⟨_, (false), (by first | rfl | (simp; done) | (simp [*]; done)), H', ⟨by have := Ad.out; first | omega | exact Nat.le_refl _⟩, by repeat (first | exact Drawn0.refl _ | apply Drawn0.step)⟩
   case rest =>
    clear Ai
    try clear c1
    try clear c4
    try clear Ac
    obtain ⟨kq, Ab, rfl, HA, Al, ⟨mc2, rfl⟩⟩ := hcut
    cases kq with
    | zero => exact absurd HA.out (by simp [spec_l01LessList.j1])
    | succ An =>
     have H := HA.out
     clear HA
     simp only [spec_l01LessList.j1] at H
     by_cases c5 : Ab = true
     subst c5
     replace H := ifT H
     by_cases c6 : 0 ≤ Aa
     rw [if_pos c6] at H
     have Ao := decide_eq_true c6
     clear c6
     by_cases c7 : Aa < (l0.length : Int)
     rw [if_pos c7] at H
     have Ap := decide_eq_true c7
     clear c7
     by_cases c8 : Aa < (l1.length : Int)
     rw [if_pos c8] at H
     have Aq := decide_eq_true c8
     clear c8
     by_cases c9 : (rd l0 Aa) = (rd l1 Aa)
     rw [if_pos c9] at H
     have Aj : ((rd l0 Aa) == (rd l1 Aa)) = true := beq_iff_eq.mpr c9
     have Ak : ((rd l0 Aa) != (rd l1 Aa)) = false := bne_eq_false_iff_eq.mpr c9
     clear c9
     have H' := Aside0.mk H
     clear H
     rotate_left
     rw [if_neg c9] at H
     have Aj : ((rd l0 Aa) == (rd l1 Aa)) = false := beq_eq_false_iff_ne.mpr c9
     have Ak : ((rd l0 Aa) != (rd l1 Aa)) = true := bne_iff_ne.mpr c9
     obtain rfl := Option.some.inj H
     rotate_left
     ·rw [if_neg c8] at H
      exact absurd H (by simp)
     ·rw [if_neg c7] at H
      exact absurd H (by simp)
     ·rw [if_neg c6] at H
      exact absurd H (by simp)
     replace c5 := Bool.eq_false_iff.mpr c5
     subst c5
     replace H := ifF H
     obtain rfl := Option.some.inj H
     rotate_left
     rotate_left 2
     ·go_wp2
      repeat (go_quiet (fail); try go_wp2)
      go_ret
      exact ⟨by first | rfl | (simp; done) | (simp [*]; done), by repeat (first | exact Drawn0.refl _ | apply Drawn0.step)⟩
     all_goals
      have p194 : 0 ≤ (Aa : Int) := od
      have q194 : Aa < (l0.length : Int) := od
      obtain ⟨ad194, e194, Ae⟩ := Kd.at_int HR0.out Aa p194 q194
      cases e194
      replace p194 := eq_true p194
      replace q194 := eq_true q194
      have p195 : 0 ≤ (Aa : Int) := od
      have q195 : Aa < (l1.length : Int) := od
      obtain ⟨ad195, e195, Af⟩ := Kd.at_int HR1.out Aa p195 q195
      cases e195
      replace p195 := eq_true p195
      replace q195 := eq_true q195
     ·go_wp2
      repeat (go_quiet (fail); try go_wp2)
      go_roundg An
      case measure => have := Ad.out; have := Al.out; omega
      case rel => exact ⟨(wrap64 (Aa + 1)), (by first | rfl | (simp; done) | (simp [*]; done)), H', ⟨by have := Ad.out; have := Al.out; omega⟩, by repeat (first | exact Drawn0.refl _ | apply Drawn0.step)⟩
     ·have p196 : 0 ≤ (Aa : Int) := od
      have q196 : Aa < (l0.length : Int) := od
      obtain ⟨ad196, e196, Ag⟩ := Kd.at_int HR0.out Aa p196 q196
      obtain rfl : ad194 = ad196 := (by injection e196)
      replace p196 := eq_true p196
      replace q196 := eq_true q196
      have p197 : 0 ≤ (Aa : Int) := od
      have q197 : Aa < (l1.length : Int) := od
      obtain ⟨ad197, e197, Ah⟩ := Kd.at_int HR1.out Aa p197 q197
      obtain rfl : ad195 = ad197 := (by injection e197)
      replace p197 := eq_true p197
      replace q197 := eq_true q197
      go_wp2
      repeat (go_quiet (fail); try go_wp2)
      go_ret
      exact ⟨by first | rfl | (simp; done) | (simp [*]; done), by repeat (first | exact Drawn0.refl _ | apply Drawn0.step)⟩
def spec_l02Numbers.f (Aa : Int) (Ab : Int) (Ac : Int) (Ad : Int) : Option (List Int) := some (([Aa, Ab, Ac, Ad] : List Int))
theorem spec_l02Numbers.calls (Aa : Int) (Ab : Int) (Ac : Int) (Ad : Int) (r : List Int) (w : World) (h : spec_l02Numbers.f Aa Ab Ac Ad = some r) :
  Calls Tryz.prog 106 #[.agg #[.int .i64 Aa, .int .i64 Ab, .int .i64 Ac, .int .i64 Ad]] w fun e w' => ∃ v0_ : Value, e = .returned (v0_) ∧ Kd.R (Kd.int .i64) 2 w' w.heap.size (fun _ => True) v0_ r ∧ Below w.heap.size w w' := by
 have hu42 := Tryz.underlying42
 have HB := asd (Below.refl w.heap.size w)
 have H : (some (([Aa, Ab, Ac, Ad] : List Int))) = some r := h
 clear h
 obtain ⟨Ak, Ae⟩ : ∃ y_ : List Int, y_ = (([Aa, Ab, Ac, Ad] : List Int)) := ⟨_, rfl⟩
 replace H : (some Ak) = some r := by first | (rw [Ae]; with_reducible exact H) | (have H2_ := (Option.bind_some _ _).symm.trans H; rw [Ae]; with_reducible exact H2_) | (have H2_ := (Option.bind_some _ _).symm.trans H; with_reducible exact H2_) | with_reducible exact H | (rw [Ae]; exact H) | exact H
 have Ah := Aside0.mk Ae
 clear Ae
 obtain rfl := Option.some.inj H
 go_enter Tryz.func106, Tryz.ntmps106
 go_wp2_with (first | ((with_reducible refine gd 1 rfl ?_); refine bx #[.int .i64 Aa, .int .i64 Ab, .int .i64 Ac, .int .i64 Ad] 42 ?_; intro At hg w2 Af hb; have Ag := ngw0 hg HB; replace HB := bS0 HB hb; clear hb hg; obtain ⟨Al, Am, An, Ao, Ap, Aq, Ar, As⟩ := bz4 Af) | ((with_reducible refine gd 11 rfl ?_); refine Kd.R_lit (Kd.int .i64) _ 2 ?hg (N := 11) ?hd (xs := ([Aa, Ab, Ac, Ad] : List Int)) (inner := [.int .i64 Aa, .int .i64 Ab, .int .i64 Ac, .int .i64 Ad]) (ok := fun _ => True) (okp := fun _ => True) ?hr ?hp (fun _ hk => hk) trivial (Below.refl _ _) (Nat.le_refl _) (by simp) ?_; (case hd => rfl); (case hg => rfl); (case hr => first | (go_simp; done) | (go_simp; rfl)); (case hp => exact (Reps.one (show Kd.M (Kd.int .i64) _ _ _ Aa [.int .i64 Aa] from rfl) (Reps.one (show Kd.M (Kd.int .i64) _ _ _ Ab [.int .i64 Ab] from rfl) (Reps.one (show Kd.M (Kd.int .i64) _ _ _ Ac [.int .i64 Ac] from rfl) (Reps.one (show Kd.M (Kd.int .i64) _ _ _ Ad [.int .i64 Ad] from rfl) (Reps.none _ _)))))); intro v200 w4 Ai hb hg_ hnew_; clear hg_ hnew_; (first | rw [← Ah.out] at Ai | (simp only [Int.reduceToNat] at Ai; rw [← Ah.out] at Ai)); have Aj := asd (Kd.R_lower Ai (bsz1 HB Ag)); replace Af := bB Af hb; replace HB := bS1 HB Ag hb; clear hb Ai))
 go_ret
 exact ⟨_, by first | rfl | (simp [errW_none, errW_some] <;> rfl) | (simp [*, errW_none, errW_some] <;> rfl), by (with_reducible repeat (first | apply Kd.R_alloc | apply Kd.R_drewN | apply Kd.R_drew)); exact Aj.out, bbw1 HB Ag⟩
def spec_l02Less.f (k : Nat) (Af : Int) (Ag : Int) (Ah : Int) (Ai : Int) (Aj : Int) (Ak : Int) (Al : Int) (Am : Int) : Option (Bool) := (spec_l02Numbers.f Af Ag Ah Ai).bind fun An => ((spec_l02Numbers.f Aj Ak Al Am).bind fun Ao => ((spec_l01LessList.f k An Ao).bind fun Aq => (some Aq)))
theorem spec_l02Less.calls (k : Nat) (Af : Int) (Ag : Int) (Ah : Int) (Ai : Int) (Aj : Int) (Ak : Int) (Al : Int) (Am : Int) (r : Bool) (w : World) (h : spec_l02Less.f k Af Ag Ah Ai Aj Ak Al Am = some r) :
  Calls Tryz.prog 83 #[.agg #[.int .i64 Af, .int .i64 Ag, .int .i64 Ah, .int .i64 Ai], .agg #[.int .i64 Aj, .int .i64 Ak, .int .i64 Al, .int .i64 Am]] w fun e w' => e = .returned (.bool r) ∧ Below w.heap.size w w' := by
 have hu42 := Tryz.underlying42
 have HB := asd (Below.refl w.heap.size w)
 have H : ((spec_l02Numbers.f Af Ag Ah Ai).bind fun An => ((spec_l02Numbers.f Aj Ak Al Am).bind fun Ao => ((spec_l01LessList.f k An Ao).bind fun Aq => (some Aq)))) = some r := h
 clear h
 obtain ⟨An, A3, H⟩ := ob H
 try dsimp only at H
 obtain ⟨Ao, A4, H⟩ := ob H
 try dsimp only at H
 obtain ⟨Aq, A5, H⟩ := ob H
 try dsimp only at H
 obtain rfl := Option.some.inj H
 go_enter Tryz.func83, Tryz.ntmps83
 try go_wp2_with (first | ((with_reducible refine gd 2 rfl ?_); refine bx #[.int .i64 Af, .int .i64 Ag, .int .i64 Ah, .int .i64 Ai] 42 ?_; intro Au hg w6 Aa hb; have Ac := ngw0 hg HB; replace HB := bS0 HB hb; clear hb hg) | ((with_reducible refine gd 3 rfl ?_); refine bx #[.int .i64 Aj, .int .i64 Ak, .int .i64 Al, .int .i64 Am] 42 ?_; intro Av hg w7 Ab hb; have Ae := ngw1 hg HB Ac; replace HB := bS1 HB Ac hb; have Ar := nlt hg Aa; have As := nsy (nlt hg Aa); replace Aa := bB Aa hb; clear hb hg))
 replace Aa := asd (blk_drew Aa.out)
 replace Ab := asd (blk_drew Ab.out)
 replace HB := asd (below_drew1 HB.out)
 refine sh 6 (cb4 Aa (eb4 Ab)) (fun hHeld => ?_)
 generalize w7.drew = w8 at Aa Ab HB hHeld ⊢
 refine take_ (i := 0) (N := some 5) (v := ?_) (a' := ?_) (bT 6 1) rfl rfl (by kernel_rfl) (fun _ _ _ h => h) (Or.inl ⟨by rfl, ?_⟩) hHeld ?_ ?_
 rotate_left
 ·rintro w' ⟨s0, s1, s2, s3, s4, s5, s6, s7⟩
  go_simp
  with_reducible rfl
 rotate_left
 ·simp only [Act.put, sA, sB, sC, i64_w, i32_w]
  rfl
 refine take_ (i := 2) (N := some 7) (v := ?_) (a' := ?_) (bs 6 5) rfl rfl (by kernel_rfl) (fun _ _ _ h => h) (Or.inl ⟨by rfl, ?_⟩) hHeld ?_ ?_
 rotate_left
 ·rintro w' ⟨s0, s1, s2, s3, s4, s5, s6, s7⟩
  go_simp
  with_reducible rfl
 rotate_left
 ·simp only [Act.put, sA, sB, sC, i64_w, i32_w]
  rfl
 refine one_ (i := 1) (N := some 6) (bT 6 3) rfl rfl (by kernel_rfl) (by decide) (fun K hK => ?_)
 refine gs Tryz.func106 #[.agg #[.int .i64 Af, .int .i64 Ag, .int .i64 Ah, .int .i64 Ai]] ?_
 with_reducible refine (spec_l02Numbers.calls _ _ _ _ _ _ A3.out).mono ?_
 rintro e w9 ⟨v205, rfl, At, hb⟩
 refine ⟨_, rfl, ?_⟩
 have Ad := asd (Kd.R_lower At (bsz2 HB Ac Ae))
 replace Aa := bB Aa hb
 replace Ab := bB Ab hb
 replace HB := bS2 HB Ac Ae hb
 (try clear hb)
 (try clear hb2)
 (try clear hk)
 (try clear hi)
 (try clear At)
 refine hK.out _ _ (cb4 Aa (eb4 Ab)).out (fun hHeld => ?_)
 clear hK K
 refine norm_ (a' := ?_) ?_ ?_
 rotate_left
 ·show Act.put _ (some 6) _ = _
  simp only [Act.put, sA, sB, sC, i64_w, i32_w]
  rfl
 refine one_ (i := 3) (N := some 8) (bT 6 4) rfl rfl (by kernel_rfl) (by decide) (fun K hK => ?_)
 refine gs Tryz.func106 #[.agg #[.int .i64 Aj, .int .i64 Ak, .int .i64 Al, .int .i64 Am]] ?_
 with_reducible refine (spec_l02Numbers.calls _ _ _ _ _ _ A4.out).mono ?_
 rintro e Aw ⟨v208, rfl, At, hb⟩
 refine ⟨_, rfl, ?_⟩
 have Ap := asd (Kd.R_lower (Kd.R_new' At (Kd.R_lt (kr Ad))) (bsz2 HB Ac Ae))
 replace Ad := asd (Kd.R_elder' (kr Ad) (Kd.R_base At) hb)
 replace Aa := bB Aa hb
 replace Ab := bB Ab hb
 replace HB := bS2 HB Ac Ae hb
 (try clear hb)
 (try clear hb2)
 (try clear hk)
 (try clear hi)
 (try clear At)
 obtain ⟨Ao11, co11, eo11⟩ := Kd.R_slice Ad.out
 (first | subst eo11 | (injection eo11 with f1_ f2_ f3_; have f4_ := f1_.symm; have f5_ := f3_.symm; clear f1_ f2_ f3_; subst f4_; subst f5_))
 obtain ⟨Ao12, co12, eo12⟩ := Kd.R_slice Ap.out
 (first | subst eo12 | (injection eo12 with f1_ f2_ f3_; have f4_ := f1_.symm; have f5_ := f3_.symm; clear f1_ f2_ f3_; subst f4_; subst f5_))
 refine hK.out _ _ (cb4 Aa (eb4 Ab)).out (fun hHeld => ?_)
 clear hK K
 refine norm_ (a' := ?_) ?_ ?_
 rotate_left
 ·show Act.put _ (some 8) _ = _
  simp only [Act.put, sA, sB, sC, i64_w, i32_w]
  rfl
 refine one_ (i := 4) (N := some 9) (bT 6 5) rfl rfl (by kernel_rfl) (by decide) (fun K hK => ?_)
 refine gs Tryz.func105 #[.slice Ao11 An.length co11, .slice Ao12 Ao.length co12] ?_
 with_reducible refine (spec_l01LessList.calls _ _ _ _ _ _ _ _ _ ?side1 ?side2 ?side3 ?side4 A5.out).mono ?_
 (case side1 => exact ks (Kd.R_reads' Ad.out).2.2)
 (case side2 => exact (Kd.R_reads' Ad.out).2.1)
 (case side3 => exact ks (Kd.R_reads' Ap.out).2.2)
 (case side4 => exact (Kd.R_reads' Ap.out).2.1)
 rintro e w' ⟨rfl, ⟨nd, rfl⟩⟩
 refine ⟨_, rfl, ?_⟩
 refine hK.out _ _ (cb4 Aa (eb4 Ab)).out (fun hHeld => ?_)
 clear hK K
 refine norm_ (a' := ?_) ?_ ?_
 rotate_left
 ·show Act.put _ (some 9) _ = _
  simp only [Act.put, sA, sB, sC, i64_w, i32_w]
  rfl
 refine pure_ (i := 5) (N := some 4) (v := ?_) (a' := ?_) (bT 6 6) rfl rfl (by kernel_rfl) (fun _ _ _ h => h) (Or.inl ⟨by rfl, ?_⟩) ?_ ?_
 rotate_left
 ·intro w'
  go_simp
  with_reducible rfl
 rotate_left
 ·simp only [Act.put, sA, sB, sC, i64_w, i32_w]
  rfl
 refine done_ (by kernel_rfl) ?_
 try go_wp2
 go_ret
 exact er (bbw2 HB Ac Ae)
def spec_l01Less.f (Aa : Int) (Ad : Int) (Ab : Int) (Ae : Int) : Option (Bool) := if Aa < Ab then (some true) else (if Aa = Ab then (some (decide (Ad < Ae))) else (some false))
theorem spec_l01Less.calls (Aa : Int) (Ad : Int) (Ab : Int) (Ae : Int) (r : Bool) (w : World) (h : spec_l01Less.f Aa Ad Ab Ae = some r) :
  Calls Tryz.prog 84 #[.agg #[.int .i64 Aa, .int .i64 Ad], .agg #[.int .i64 Ab, .int .i64 Ae]] w fun e w' => e = .returned (.bool r) ∧ Below w.heap.size w w' := by
 have hu44 := Tryz.underlying44
 have HB := asd (Below.refl w.heap.size w)
 have H : (if Aa < Ab then (some true) else (if Aa = Ab then (some (decide (Ad < Ae))) else (some false))) = some r := h
 clear h
 by_cases c3 : Aa < Ab
 rw [if_pos c3] at H
 have Ak := decide_eq_true c3
 clear c3
 obtain rfl := Option.some.inj H
 rotate_left
 rw [if_neg c3] at H
 have Ak := decide_eq_false c3
 clear c3
 by_cases c9 : Aa = Ab
 rw [if_pos c9] at H
 have Al : (Aa == Ab) = true := beq_iff_eq.mpr c9
 have Am : (Aa != Ab) = false := bne_eq_false_iff_eq.mpr c9
 clear c9
 obtain rfl := Option.some.inj H
 rotate_left
 rw [if_neg c9] at H
 have Al : (Aa == Ab) = false := beq_eq_false_iff_ne.mpr c9
 have Am : (Aa != Ab) = true := bne_iff_ne.mpr c9
 obtain rfl := Option.some.inj H
 rotate_left
 all_goals
  go_enter Tryz.func84, Tryz.ntmps84
  go_wp2_with (first | ((with_reducible refine gd 2 rfl ?_); refine bx #[.int .i64 Aa, .int .i64 Ad] 44 ?_; intro Av hg w4 Ac hb; have Ah := ngw0 hg HB; replace HB := bS0 HB hb; clear hb hg) | ((with_reducible refine gd 3 rfl ?_); refine bx #[.int .i64 Ab, .int .i64 Ae] 44 ?_; intro Aw hg w5 Ai hb; have Aj := ngw1 hg HB Ah; replace HB := bS1 HB Ah hb; have Af := nlt hg Ac; have Ag := nsy (nlt hg Ac); replace Ac := bB Ac hb; clear hb hg; have Ax := Af.out; have Ay := Ag.out; obtain ⟨An, Ao, Ap, Aq⟩ := bz2 Ac; obtain ⟨Ar, As, At, Au⟩ := bz2 Ai))
  go_ret
  exact er (bbw2 HB Ah Aj)
def spec_l05Less.f (k : Nat) (Ab : Int) (Ac : Int) (Ad : Int) (Ae : Int) (Al : Int) (Am : Int) (Af : Int) (Ag : Int) (Ah : Int) (Ai : Int) (An : Int) (Ao : Int) : Option (Bool) := if (!(Ab == Af) || (!(Ac == Ag) || (!(Ad == Ah) || (!(Ae == Ai))))) = true then ((spec_l02Less.f k Ab Ac Ad Ae Af Ag Ah Ai).bind fun As => (some As)) else ((spec_l01Less.f Al Am An Ao).bind fun At => (some At))
theorem spec_l05Less.calls (k : Nat) (Ab : Int) (Ac : Int) (Ad : Int) (Ae : Int) (Al : Int) (Am : Int) (Af : Int) (Ag : Int) (Ah : Int) (Ai : Int) (An : Int) (Ao : Int) (r : Bool) (w : World) (h : spec_l05Less.f k Ab Ac Ad Ae Al Am Af Ag Ah Ai An Ao = some r) :
  Calls Tryz.prog 46 #[.agg #[.int .i64 Ab, .int .i64 Ac, .int .i64 Ad, .int .i64 Ae, .int .i64 Al, .int .i64 Am], .agg #[.int .i64 Af, .int .i64 Ag, .int .i64 Ah, .int .i64 Ai, .int .i64 An, .int .i64 Ao]] w fun e w' => e = .returned (.bool r) ∧ Below w.heap.size w w' := by
 have hu46 := Tryz.underlying46
 have hu42 := Tryz.underlying42
 have hu44 := Tryz.underlying44
 have HB := asd (Below.refl w.heap.size w)
 have H : (if (!(Ab == Af) || (!(Ac == Ag) || (!(Ad == Ah) || (!(Ae == Ai))))) = true then ((spec_l02Less.f k Ab Ac Ad Ae Af Ag Ah Ai).bind fun As => (some As)) else ((spec_l01Less.f Al Am An Ao).bind fun At => (some At))) = some r := h
 clear h
 by_cases c3 : (!(Ab == Af) || (!(Ac == Ag) || (!(Ad == Ah) || (!(Ae == Ai))))) = true
 rw [if_pos c3] at H
 have Au := c3
 clear c3
 obtain ⟨As, A4, H⟩ := ob H
 try dsimp only at H
 obtain rfl := Option.some.inj H
 rotate_left
 rw [if_neg c3] at H
 have Au : (!(Ab == Af) || (!(Ac == Ag) || (!(Ad == Ah) || (!(Ae == Ai))))) = false := by simpa using c3
 clear c3
 obtain ⟨At, AV, H⟩ := ob H
 try dsimp only at H
 obtain rfl := Option.some.inj H
 rotate_left
 all_goals
  go_enter Tryz.func46, Tryz.ntmps46
  go_wp2_with (first | ((with_reducible refine gd 2 rfl ?_); refine bx #[.int .i64 Ab, .int .i64 Ac, .int .i64 Ad, .int .i64 Ae, .int .i64 Al, .int .i64 Am] 46 ?_; intro AT hg w5 Aa hb; have Aj := ngw0 hg HB; replace HB := bS0 HB hb; clear hb hg) | ((with_reducible refine gd 3 rfl ?_); refine bx #[.int .i64 Af, .int .i64 Ag, .int .i64 Ah, .int .i64 Ai, .int .i64 An, .int .i64 Ao] 46 ?_; intro AU hg w6 Ak hb; have Ar := ngw1 hg HB Aj; replace HB := bS1 HB Aj hb; have Ap := nlt hg Aa; have Aq := nsy (nlt hg Aa); replace Aa := bB Aa hb; clear hb hg; have AW := Ap.out; have AX := Aq.out; obtain ⟨Av, Aw, Ax, Ay, Az, AA, AB, AC, AD, AE, AF, AG⟩ := bz6 Aa; obtain ⟨AH, AI, AJ, AK, AL, AM, AN, AO, AP, AQ, AR, AS⟩ := bz6 Ak) | ((with_reducible refine gate_callee (f := 83) rfl ?_); refine gl 14 Tryz.func83 #[.agg #[.int .i64 Ab, .int .i64 Ac, .int .i64 Ad, .int .i64 Ae], .agg #[.int .i64 Af, .int .i64 Ag, .int .i64 Ah, .int .i64 Ai]] ?_; (with_reducible refine (spec_l02Less.calls _ _ _ _ _ _ _ _ _ _ _ A4.out).mono ?_); rintro e AY ⟨rfl, hb⟩; refine ⟨_, rfl, ?_⟩; replace Aa := bB Aa hb; replace Ak := bB Ak hb; replace HB := bS2 HB Aj Ar hb; (try clear hb)) | ((with_reducible refine gate_callee (f := 84) rfl ?_); refine gl 19 Tryz.func84 #[.agg #[.int .i64 Al, .int .i64 Am], .agg #[.int .i64 An, .int .i64 Ao]] ?_; (with_reducible refine (spec_l01Less.calls _ _ _ _ _ _ AV.out).mono ?_); rintro e AZ ⟨rfl, hb⟩; refine ⟨_, rfl, ?_⟩; replace Aa := bB Aa hb; replace Ak := bB Ak hb; replace HB := bS2 HB Aj Ar hb; (try clear hb)))
  go_ret
  exact er (bbw2 HB Aj Ar)
attribute [local go_sem high] eqA46
def spec_l06Place.l0 : Nat → List (S46) → Int → Int → Int → Int → Int → Int → Int → Int → Option (Int)
 | 0, _, _, _, _, _, _, _, _, _ => none
 | k + 1, x0, x5, x6, Ai, Aj, Ak, Al, Am, An => if x5 < x6 then (if 0 ≤ (wrap64 (Int.tdiv (wrap64 (x5 + x6)) 2)) then (if (wrap64 (Int.tdiv (wrap64 (x5 + x6)) 2)) < (x0.length : Int) then ((spec_l05Less.f k ((rd_T46 x0 (wrap64 (Int.tdiv (wrap64 (x5 + x6)) 2))).f0.f0) ((rd_T46 x0 (wrap64 (Int.tdiv (wrap64 (x5 + x6)) 2))).f0.f1) ((rd_T46 x0 (wrap64 (Int.tdiv (wrap64 (x5 + x6)) 2))).f0.f2) ((rd_T46 x0 (wrap64 (Int.tdiv (wrap64 (x5 + x6)) 2))).f0.f3) ((rd_T46 x0 (wrap64 (Int.tdiv (wrap64 (x5 + x6)) 2))).f1.f0) ((rd_T46 x0 (wrap64 (Int.tdiv (wrap64 (x5 + x6)) 2))).f1.f1) Ai Aj Ak Al Am An).bind fun Ay => (if Ay = true then (spec_l06Place.l0 k x0 (wrap64 ((wrap64 (Int.tdiv (wrap64 (x5 + x6)) 2)) + 1)) x6 Ai Aj Ak Al Am An) else (spec_l06Place.l0 k x0 x5 (wrap64 (Int.tdiv (wrap64 (x5 + x6)) 2)) Ai Aj Ak Al Am An))) else (none)) else (none)) else (some x5)
def spec_l06Place.f (k : Nat) (l0 : List (S46)) (Ab : Int) (Ac : Int) (Ad : Int) (Ae : Int) (Af : Int) (Ag : Int) : Option (Int) := spec_l06Place.l0 k l0 0 (l0.length : Int) Ab Ac Ad Ae Af Ag
theorem spec_l06Place.calls (k : Nat) (A0 : Option Addr) (c0 : Nat) (l0 : List (S46)) (Ab : Int) (Ac : Int) (Ad : Int) (Ae : Int) (Af : Int) (Ag : Int) (r : Int) (w : World) (hr0 : Kd.C k46 w A0 l0.length l0) (hc0 : l0.length ≤ c0) (h : spec_l06Place.f k l0 Ab Ac Ad Ae Af Ag = some r) :
  Calls Tryz.prog 85 #[.slice A0 l0.length c0, .agg #[.int .i64 Ab, .int .i64 Ac, .int .i64 Ad, .int .i64 Ae, .int .i64 Af, .int .i64 Ag]] w fun e w' => e = .returned (.int .i64 r) ∧ Below w.heap.size w w' := by
 have hu46 := Tryz.underlying46
 have HR0 := Aside0.mk hr0
 have AM := Aside0.mk hc0
 clear hr0 hc0
 have HB := asd (Below.refl w.heap.size w)
 have H : (spec_l06Place.l0 k l0 0 (l0.length : Int) Ab Ac Ad Ae Af Ag) = some r := h
 clear h
 have H' := Aside0.mk H
 clear H
 go_enter Tryz.func85, Tryz.ntmps85
 go_wp2_with (first | ((with_reducible refine gd 3 rfl ?_); refine bx #[.int .i64 Ab, .int .i64 Ac, .int .i64 Ad, .int .i64 Ae, .int .i64 Af, .int .i64 Ag] 46 ?_; intro AF hg w3 Aa hb; have Aq := ngw0 hg HB; replace HB := bS0 HB hb; clear hb hg))
 go_loopg [5, 6] k (fun kq v5 v6 w' => ∃ (Ao : Int) (Ap : Int), v5 = .int .i64 Ao ∧ v6 = .int .i64 Ap ∧ Aside0 (spec_l06Place.l0 kq l0 Ao Ap Ab Ac Ad Ae Af Ag = some r) ∧ Aside0 (kq ≤ k) ∧ Aside0 (w'.heap[AF]? = some (.cells #[.int .i64 Ab, .int .i64 Ac, .int .i64 Ad, .int .i64 Ae, .int .i64 Af, .int .i64 Ag] 46 (0, 0))) ∧ Aside0 (Below w.heap.size w w'))
 case atStart => exact ⟨(0), ((l0.length : Int)), (by first | rfl | (simp; done) | (simp [*]; done)), (by first | rfl | (simp; done) | (simp [*]; done)), H', ⟨Nat.le_refl _⟩, ⟨bkp Aa⟩, ⟨bbw1 HB Aq⟩⟩
 case round =>
  clear H'
  obtain ⟨Ao, Ap, rfl, rfl, HA, AG, Aa, HB⟩ := hrel
  cases gk with
  | zero => exact absurd HA.out (by simp [spec_l06Place.l0])
  | succ k1 =>
   have H := HA.out
   clear HA
   simp only [spec_l06Place.l0] at H
   by_cases c4 : Ao < Ap
   rw [if_pos c4] at H
   have AH := decide_eq_true c4
   clear c4
   obtain ⟨Ah, Ar⟩ : ∃ j_ : Int, (wrap64 (Int.tdiv (wrap64 (Ao + Ap)) 2)) = j_ := ⟨_, rfl⟩
   replace H : (if 0 ≤ (Ah) then (if (Ah) < (l0.length : Int) then ((spec_l05Less.f k1 ((rd_T46 l0 (Ah)).f0.f0) ((rd_T46 l0 (Ah)).f0.f1) ((rd_T46 l0 (Ah)).f0.f2) ((rd_T46 l0 (Ah)).f0.f3) ((rd_T46 l0 (Ah)).f1.f0) ((rd_T46 l0 (Ah)).f1.f1) Ab Ac Ad Ae Af Ag).bind fun Ay => (if Ay = true then (spec_l06Place.l0 k1 l0 (wrap64 ((Ah) + 1)) Ap Ab Ac Ad Ae Af Ag) else (spec_l06Place.l0 k1 l0 Ao Ah Ab Ac Ad Ae Af Ag))) else (none)) else (none)) = some r := by first | (rw [Ar] at H; first | done | exact H) | (simp only [Ar] at H ⊢; exact H)
   have AI : (IntKind.i64.wrap (Int.tdiv (wrap64 (Ao + Ap)) 2)) = Ah := (i64_w _).trans Ar
   have AJ : (IntKind.i64.wrap (Int.tdiv (IntKind.i64.wrap (Ao + Ap)) 2)) = Ah := by simp only [i64_w]; exact Ar
   by_cases c6 : 0 ≤ (Ah)
   rw [if_pos c6] at H
   have AK := decide_eq_true c6
   clear c6
   by_cases c7 : (Ah) < (l0.length : Int)
   rw [if_pos c7] at H
   have AL := decide_eq_true c7
   clear c7
   obtain ⟨Ay, A8, H⟩ := ob H
   try dsimp only at H
   by_cases c9 : Ay = true
   subst c9
   replace H := ifT H
   have H' := Aside0.mk H
   clear H
   rotate_left
   replace c9 := Bool.eq_false_iff.mpr c9
   subst c9
   replace H := ifF H
   have H' := Aside0.mk H
   clear H
   rotate_left
   ·rw [if_neg c7] at H
    exact absurd H (by simp)
   ·rw [if_neg c6] at H
    exact absurd H (by simp)
   rw [if_neg c4] at H
   have AH := decide_eq_false c4
   clear c4
   obtain rfl := Option.some.inj H
   rotate_left
   rotate_left 2
   ·go_wp2
    go_ret
    exact er (bbw1 HB Aq)
   all_goals
    try go_wp2
    replace Aa := asd (blk_drew Aa.out)
    replace HB := asd (below_drew1 HB.out)
    obtain ⟨p218, q218, ad218, e218, As, At, Au, Av, Aw, Ax, Az, AA, AB, AC, AD, AE⟩ := at_T46w HR0.out HB (Ah)
    cases e218
    refine sh 6 (cb6 Aa (ex6 HB As At Au Av Aw Ax)) (fun hHeld => ?_)
    generalize wr.drew = AN at Aa HB Az AA AB AC AD AE hHeld ⊢
    refine pure_ (i := 0) (N := some 17) (v := ?_) (a' := ?_) (bT 6 1) rfl rfl (by kernel_rfl) (fun _ _ _ h => h) (Or.inl ⟨by rfl, ?_⟩) ?_ ?_
    rotate_left
    ·intro w'
     go_simp
     with_reducible rfl
    rotate_left
    ·simp only [Act.put, sA, sB, sC, i64_w, i32_w]
     rfl
    refine pure_ (i := 1) (N := some 18) (v := ?_) (a' := ?_) (bT 6 2) rfl rfl (by kernel_rfl) (fun _ _ _ h => h) (Or.inl ⟨by rfl, ?_⟩) ?_ ?_
    rotate_left
    ·intro w'
     go_simp
     with_reducible rfl
    rotate_left
    ·simp only [Act.put, sA, sB, sC, i64_w, i32_w]
     rfl
    refine pure_ (i := 2) (N := some 19) (v := ?_) (a' := ?_) (bT 6 3) rfl rfl (by kernel_rfl) (fun _ _ _ h => h) (Or.inl ⟨by rfl, ?_⟩) ?_ ?_
    rotate_left
    ·intro w'
     go_simp
     with_reducible rfl
    rotate_left
    ·simp only [Act.put, sA, sB, sC, i64_w, i32_w]
     rfl
    refine take_ (i := 3) (N := some 20) (v := ?_) (a' := ?_) (bT 6 4) rfl rfl (by kernel_rfl) (fun _ _ _ h => h) (Or.inl ⟨by rfl, ?_⟩) hHeld ?_ ?_
    rotate_left
    ·rintro w' ⟨s0, s1, s2, s3, s4, s5, s6, s7, s8, s9, s10, s11⟩
     go_simp
     with_reducible rfl
    rotate_left
    ·simp only [Act.put, sA, sB, sC, i64_w, i32_w]
     rfl
    refine take_ (i := 4) (N := some 21) (v := ?_) (a' := ?_) (bT 6 5) rfl rfl (by kernel_rfl) (fun _ _ _ h => h) (Or.inl ⟨by rfl, ?_⟩) hHeld ?_ ?_
    rotate_left
    ·rintro w' ⟨s0, s1, s2, s3, s4, s5, s6, s7, s8, s9, s10, s11⟩
     go_simp
     with_reducible rfl
    rotate_left
    ·simp only [Act.put, sA, sB, sC, i64_w, i32_w]
     rfl
    refine one_ (i := 5) (N := some 22) (bT 6 6) rfl rfl (by kernel_rfl) (by decide) (fun K hK => ?_)
    refine goes_ Tryz.func46 (by kernel_rfl) rfl #[.agg #[.int .i64 ((rd_T46 l0 (Ah)).f0.f0), .int .i64 ((rd_T46 l0 (Ah)).f0.f1), .int .i64 ((rd_T46 l0 (Ah)).f0.f2), .int .i64 ((rd_T46 l0 (Ah)).f0.f3), .int .i64 ((rd_T46 l0 (Ah)).f1.f0), .int .i64 ((rd_T46 l0 (Ah)).f1.f1)], .agg #[.int .i64 Ab, .int .i64 Ac, .int .i64 Ad, .int .i64 Ae, .int .i64 Af, .int .i64 Ag]] (by rfl) rfl rfl (by (try simp only [List.map_toArray, List.map_cons, List.map_nil]); first | done | (simp only [Ar]; rfl) | rfl | (simp only [List.length_drop, List.length_take]; rfl)) ?_
    with_reducible refine (spec_l05Less.calls _ _ _ _ _ _ _ _ _ _ _ _ _ _ _ A8.out).mono ?_
    rintro e AO ⟨rfl, hb⟩
    refine ⟨_, rfl, ?_⟩
    replace Aa := bB Aa hb
    replace HB := bS1 HB Aq hb
    (try clear hb)
    (try clear hb2)
    (try clear hk)
    (try clear hi)
    refine hK.out _ _ (cb6 Aa (ex6 HB As At Au Av Aw Ax)).out (fun hHeld => ?_)
    clear hK K
    refine norm_ (a' := ?_) ?_ ?_
    rotate_left
    ·show Act.put _ (some 22) _ = _
     simp only [Act.put, sA, sB, sC, i64_w, i32_w]
     rfl
    refine done_ (by kernel_rfl) ?_
    try go_wp2
    go_roundg k1
    case measure => have := AG.out; omega
   ·case rel => exact ⟨(wrap64 ((Ah) + 1)), (Ap), (by first | rfl | (simp; done) | (simp only [← Ar] <;> (first | rfl | simp)) | (simp [*]; done)), (by first | rfl | (simp; done) | (simp [*]; done)), H', ⟨by have := AG.out; omega⟩, ⟨bkp Aa⟩, ⟨bbw1 HB Aq⟩⟩
   ·case rel => exact ⟨(Ao), (Ah), (by first | rfl | (simp; done) | (simp [*]; done)), (by first | rfl | (simp; done) | (simp only [← Ar] <;> (first | rfl | simp)) | (simp [*]; done)), H', ⟨by have := AG.out; omega⟩, ⟨bkp Aa⟩, ⟨bbw1 HB Aq⟩⟩
def spec_l06Has.f (k : Nat) (l0 : List (S46)) (Ad : Int) (Ae : Int) (Af : Int) (Ag : Int) (Ah : Int) (Ai : Int) : Option (Bool) := (spec_l06Place.f k l0 Ad Ae Af Ag Ah Ai).bind fun Ab => (if Ab < (l0.length : Int) then (if 0 ≤ Ab then (some ((((rd_T46 l0 Ab).f0.f0) == Ad && (((rd_T46 l0 Ab).f0.f1) == Ae && (((rd_T46 l0 Ab).f0.f2) == Af && (((rd_T46 l0 Ab).f0.f3) == Ag)))) && ((((rd_T46 l0 Ab).f1.f0) == Ah && (((rd_T46 l0 Ab).f1.f1) == Ai))))) else (none)) else (some false))
theorem spec_l06Has.calls (k : Nat) (A0 : Option Addr) (c0 : Nat) (l0 : List (S46)) (Ad : Int) (Ae : Int) (Af : Int) (Ag : Int) (Ah : Int) (Ai : Int) (r : Bool) (w : World) (hr0 : Kd.C k46 w A0 l0.length l0) (hc0 : l0.length ≤ c0) (h : spec_l06Has.f k l0 Ad Ae Af Ag Ah Ai = some r) :
  Calls Tryz.prog 47 #[.slice A0 l0.length c0, .agg #[.int .i64 Ad, .int .i64 Ae, .int .i64 Af, .int .i64 Ag, .int .i64 Ah, .int .i64 Ai]] w fun e w' => e = .returned (.bool r) ∧ Below w.heap.size w w' := by
 have hu46 := Tryz.underlying46
 have HR0 := Aside0.mk hr0
 have A1 := Aside0.mk hc0
 clear hr0 hc0
 have HB := asd (Below.refl w.heap.size w)
 have H : ((spec_l06Place.f k l0 Ad Ae Af Ag Ah Ai).bind fun Ab => (if Ab < (l0.length : Int) then (if 0 ≤ Ab then (some ((((rd_T46 l0 Ab).f0.f0) == Ad && (((rd_T46 l0 Ab).f0.f1) == Ae && (((rd_T46 l0 Ab).f0.f2) == Af && (((rd_T46 l0 Ab).f0.f3) == Ag)))) && ((((rd_T46 l0 Ab).f1.f0) == Ah && (((rd_T46 l0 Ab).f1.f1) == Ai))))) else (none)) else (some false))) = some r := h
 clear h
 obtain ⟨Ab, A3, H⟩ := ob H
 try dsimp only at H
 by_cases c4 : Ab < (l0.length : Int)
 ·rw [if_pos c4] at H
  have A2 := decide_eq_true c4
  clear c4
  by_cases c5 : 0 ≤ Ab
  ·rw [if_pos c5] at H
   have A5 := decide_eq_true c5
   clear c5
   obtain rfl := Option.some.inj H
   go_enter Tryz.func47, Tryz.ntmps47
   go_wp2_with (first | ((with_reducible refine gd 3 rfl ?_); refine bx #[.int .i64 Ad, .int .i64 Ae, .int .i64 Af, .int .i64 Ag, .int .i64 Ah, .int .i64 Ai] 46 ?_; intro Aj hg w6 Aa hb; have Ac := ngw0 hg HB; replace HB := bS0 HB hb; clear hb hg; obtain ⟨AC, AD, AE, AF, AG, AH, AI, AJ, AK, AL, AM, AN⟩ := bz6 Aa) | (go_at_call 85; (with_reducible refine (spec_l06Place.calls _ _ _ _ _ _ _ _ _ _ _ _ ?side1 ?side2 A3.out).mono ?_); (case side1 => exact ks (Kd.C_below HR0.out HB.out)); (case side2 => exact A1.out); rintro e w8 ⟨rfl, hb⟩; replace Aa := bB Aa hb; replace HB := bS1 HB Ac hb; (try clear hb); obtain ⟨p222, q222, ad222, e222, Ak, Al, Am, An, Ao, Ap⟩ := at_T46x HR0.out HB Ab; cases e222; obtain ⟨AO, AP, AQ, AR, AS, AT, AU, AV, AW, AX, AY, AZ⟩ := bz6 Aa))
   repeat (go_quiet (first | ((with_reducible refine gd 3 rfl ?_); refine bx #[.int .i64 Ad, .int .i64 Ae, .int .i64 Af, .int .i64 Ag, .int .i64 Ah, .int .i64 Ai] 46 ?_; intro Aj hg w6 Aa hb; have Ac := ngw0 hg HB; replace HB := bS0 HB hb; clear hb hg; obtain ⟨AC, AD, AE, AF, AG, AH, AI, AJ, AK, AL, AM, AN⟩ := bz6 Aa) | (go_at_call 85; (with_reducible refine (spec_l06Place.calls _ _ _ _ _ _ _ _ _ _ _ _ ?side1 ?side2 A3.out).mono ?_); (case side1 => exact ks (Kd.C_below HR0.out HB.out)); (case side2 => exact A1.out); rintro e w8 ⟨rfl, hb⟩; replace Aa := bB Aa hb; replace HB := bS1 HB Ac hb; (try clear hb); obtain ⟨p222, q222, ad222, e222, Ak, Al, Am, An, Ao, Ap⟩ := at_T46x HR0.out HB Ab; cases e222; obtain ⟨AO, AP, AQ, AR, AS, AT, AU, AV, AW, AX, AY, AZ⟩ := bz6 Aa)); try go_wp2_with (first | ((with_reducible refine gd 3 rfl ?_); refine bx #[.int .i64 Ad, .int .i64 Ae, .int .i64 Af, .int .i64 Ag, .int .i64 Ah, .int .i64 Ai] 46 ?_; intro Aj hg w6 Aa hb; have Ac := ngw0 hg HB; replace HB := bS0 HB hb; clear hb hg; obtain ⟨AC, AD, AE, AF, AG, AH, AI, AJ, AK, AL, AM, AN⟩ := bz6 Aa) | (go_at_call 85; (with_reducible refine (spec_l06Place.calls _ _ _ _ _ _ _ _ _ _ _ _ ?side1 ?side2 A3.out).mono ?_); (case side1 => exact ks (Kd.C_below HR0.out HB.out)); (case side2 => exact A1.out); rintro e w8 ⟨rfl, hb⟩; replace Aa := bB Aa hb; replace HB := bS1 HB Ac hb; (try clear hb); obtain ⟨p222, q222, ad222, e222, Ak, Al, Am, An, Ao, Ap⟩ := at_T46x HR0.out HB Ab; cases e222; obtain ⟨AO, AP, AQ, AR, AS, AT, AU, AV, AW, AX, AY, AZ⟩ := bz6 Aa)))
   go_ret
   exact er (bbw1 HB Ac)
  ·rw [if_neg c5] at H
   exact absurd H (by simp)
 ·rw [if_neg c4] at H
  have A2 := decide_eq_false c4
  clear c4
  obtain rfl := Option.some.inj H
  go_enter Tryz.func47, Tryz.ntmps47
  go_wp2_with (first | ((with_reducible refine gd 3 rfl ?_); refine bx #[.int .i64 Ad, .int .i64 Ae, .int .i64 Af, .int .i64 Ag, .int .i64 Ah, .int .i64 Ai] 46 ?_; intro Aj hg A4 Aa hb; have Ac := ngw0 hg HB; replace HB := bS0 HB hb; clear hb hg; obtain ⟨Aq, Ar, As, At, Au, Av, Aw, Ax, Ay, Az, AA, AB⟩ := bz6 Aa) | (go_at_call 85; (with_reducible refine (spec_l06Place.calls _ _ _ _ _ _ _ _ _ _ _ _ ?side1 ?side2 A3.out).mono ?_); (case side1 => exact ks (Kd.C_below HR0.out HB.out)); (case side2 => exact A1.out); rintro e w12 ⟨rfl, hb⟩; replace Aa := bB Aa hb; replace HB := bS1 HB Ac hb; (try clear hb)))
  repeat (go_quiet (first | ((with_reducible refine gd 3 rfl ?_); refine bx #[.int .i64 Ad, .int .i64 Ae, .int .i64 Af, .int .i64 Ag, .int .i64 Ah, .int .i64 Ai] 46 ?_; intro Aj hg A4 Aa hb; have Ac := ngw0 hg HB; replace HB := bS0 HB hb; clear hb hg; obtain ⟨Aq, Ar, As, At, Au, Av, Aw, Ax, Ay, Az, AA, AB⟩ := bz6 Aa) | (go_at_call 85; (with_reducible refine (spec_l06Place.calls _ _ _ _ _ _ _ _ _ _ _ _ ?side1 ?side2 A3.out).mono ?_); (case side1 => exact ks (Kd.C_below HR0.out HB.out)); (case side2 => exact A1.out); rintro e w12 ⟨rfl, hb⟩; replace Aa := bB Aa hb; replace HB := bS1 HB Ac hb; (try clear hb))); try go_wp2_with (first | ((with_reducible refine gd 3 rfl ?_); refine bx #[.int .i64 Ad, .int .i64 Ae, .int .i64 Af, .int .i64 Ag, .int .i64 Ah, .int .i64 Ai] 46 ?_; intro Aj hg A4 Aa hb; have Ac := ngw0 hg HB; replace HB := bS0 HB hb; clear hb hg; obtain ⟨Aq, Ar, As, At, Au, Av, Aw, Ax, Ay, Az, AA, AB⟩ := bz6 Aa) | (go_at_call 85; (with_reducible refine (spec_l06Place.calls _ _ _ _ _ _ _ _ _ _ _ _ ?side1 ?side2 A3.out).mono ?_); (case side1 => exact ks (Kd.C_below HR0.out HB.out)); (case side2 => exact A1.out); rintro e w12 ⟨rfl, hb⟩; replace Aa := bB Aa hb; replace HB := bS1 HB Ac hb; (try clear hb))))
  go_ret
  exact er (bbw1 HB Ac)
def spec_l02Unit.f  : Option (Int × Int × Int × Int) := some (1, 0, 0, 1)
theorem spec_l02Unit.calls  (r1 : Int) (r2 : Int) (r3 : Int) (r4 : Int) (w : World) (h : spec_l02Unit.f  = some (r1, r2, r3, r4)) :
  Calls Tryz.prog 20 #[] w fun e w' => e = .returned (.agg #[.int .i64 r1, .int .i64 r2, .int .i64 r3, .int .i64 r4]) ∧ Below w.heap.size w w' := by
 have hu42 := Tryz.underlying42
 have HB := asd (Below.refl w.heap.size w)
 have H : (some (1, 0, 0, 1)) = some (r1, r2, r3, r4) := h
 clear h
 simp only [Option.some.injEq, Prod.mk.injEq] at H
 obtain ⟨rfl, rfl, rfl, rfl⟩ := H
 go_enter Tryz.func20, Tryz.ntmps20
 go_wp2_with (first | ((with_reducible refine gd 0 rfl ?_); refine bx #[.int .i64 0, .int .i64 0, .int .i64 0, .int .i64 0] 42 ?_; intro Ab hg w1 Aa hb; have Ac := ngw0 hg HB; replace HB := bS0 HB hb; clear hb hg; obtain ⟨Ad, Ae, Af, Ag, Ah, Ai, Aj, Ak⟩ := bz4 Aa))
 refine bodyPost_ret (results_cell_row rfl _ _ Ab 42 #[.int .i64 1, .int .i64 0, .int .i64 0, .int .i64 1] (0, 0) _ rfl (bq0 Aa) Tryz.underlying42 rfl (by kernel_rfl)) rfl ?_
 exact er (bbw1 HB Ac)
def spec_l06Unit.f  : Option (Int × Int × Int × Int × Int × Int) := (spec_l02Unit.f).bind fun Aa => (some (Aa.1, Aa.2.1, Aa.2.2.1, Aa.2.2.2, 0, 0))
theorem spec_l06Unit.calls  (r1 : Int) (r2 : Int) (r3 : Int) (r4 : Int) (r5 : Int) (r6 : Int) (w : World) (h : spec_l06Unit.f  = some (r1, r2, r3, r4, r5, r6)) :
  Calls Tryz.prog 48 #[] w fun e w' => e = .returned (.agg #[.int .i64 r1, .int .i64 r2, .int .i64 r3, .int .i64 r4, .int .i64 r5, .int .i64 r6]) ∧ Below w.heap.size w w' := by
 have hu46 := Tryz.underlying46
 have HB := asd (Below.refl w.heap.size w)
 have H : ((spec_l02Unit.f).bind fun Aa => (some (Aa.1, Aa.2.1, Aa.2.2.1, Aa.2.2.2, 0, 0))) = some (r1, r2, r3, r4, r5, r6) := h
 clear h
 obtain ⟨⟨Ae, Af, Ag, Ah⟩, A1, H⟩ := ob H
 try dsimp only at H
 simp only [Option.some.injEq, Prod.mk.injEq] at H
 obtain ⟨rfl, rfl, rfl, rfl, rfl, rfl⟩ := H
 go_enter Tryz.func48, Tryz.ntmps48
 go_wp2_with (first | ((with_reducible refine gd 0 rfl ?_); refine bx #[.int .i64 0, .int .i64 0, .int .i64 0, .int .i64 0, .int .i64 0, .int .i64 0] 46 ?_; intro Ad hg w2 Ab hb; have Ac := ngw0 hg HB; replace HB := bS0 HB hb; clear hb hg) | ((with_reducible refine gate_callee (f := 20) rfl ?_); refine gl 1 Tryz.func20 #[] ?_; (with_reducible refine (spec_l02Unit.calls _ _ _ _ _ A1.out).mono ?_); rintro e w3 ⟨rfl, hb⟩; refine ⟨_, rfl, ?_⟩; replace Ab := bB Ab hb; replace HB := bS1 HB Ac hb; (try clear hb); obtain ⟨Ai, Aj, Ak, Al, Am, An, Ao, Ap, Aq, Ar, As, At⟩ := bz6 Ab))
 refine bodyPost_ret (results_cell_row rfl _ _ Ad 46 #[.int .i64 Ae, .int .i64 Af, .int .i64 Ag, .int .i64 Ah, .int .i64 0, .int .i64 0] (0, 0) _ rfl (bq0 Ab) Tryz.underlying46 rfl (by kernel_rfl)) rfl ?_
 exact er (bbw1 HB Ac)
def spec_l02Multiply.f (Ab : Int) (Ac : Int) (Ad : Int) (Ae : Int) (Af : Int) (Ag : Int) (Ah : Int) (Ai : Int) : Option (Int × Int × Int × Int) := some (wrap64 ((wrap64 (Ab * Af)) + (wrap64 (Ac * Ah))), wrap64 ((wrap64 (Ab * Ag)) + (wrap64 (Ac * Ai))), wrap64 ((wrap64 (Ad * Af)) + (wrap64 (Ae * Ah))), wrap64 ((wrap64 (Ad * Ag)) + (wrap64 (Ae * Ai))))
theorem spec_l02Multiply.calls (Ab : Int) (Ac : Int) (Ad : Int) (Ae : Int) (Af : Int) (Ag : Int) (Ah : Int) (Ai : Int) (r1 : Int) (r2 : Int) (r3 : Int) (r4 : Int) (w : World) (h : spec_l02Multiply.f Ab Ac Ad Ae Af Ag Ah Ai = some (r1, r2, r3, r4)) :
  Calls Tryz.prog 50 #[.agg #[.int .i64 Ab, .int .i64 Ac, .int .i64 Ad, .int .i64 Ae], .agg #[.int .i64 Af, .int .i64 Ag, .int .i64 Ah, .int .i64 Ai]] w fun e w' => e = .returned (.agg #[.int .i64 r1, .int .i64 r2, .int .i64 r3, .int .i64 r4]) ∧ Below w.heap.size w w' := by
 have hu42 := Tryz.underlying42
 have HB := asd (Below.refl w.heap.size w)
 have H : (some (wrap64 ((wrap64 (Ab * Af)) + (wrap64 (Ac * Ah))), wrap64 ((wrap64 (Ab * Ag)) + (wrap64 (Ac * Ai))), wrap64 ((wrap64 (Ad * Af)) + (wrap64 (Ae * Ah))), wrap64 ((wrap64 (Ad * Ag)) + (wrap64 (Ae * Ai))))) = some (r1, r2, r3, r4) := h
 clear h
 simp only [Option.some.injEq, Prod.mk.injEq] at H
 obtain ⟨rfl, rfl, rfl, rfl⟩ := H
 go_enter Tryz.func50, Tryz.ntmps50
 go_wp2_with (first | ((with_reducible refine gd 2 rfl ?_); refine bx #[.int .i64 Ab, .int .i64 Ac, .int .i64 Ad, .int .i64 Ae] 42 ?_; intro AT hg w3 Aa hb; have Aj := ngw0 hg HB; replace HB := bS0 HB hb; clear hb hg) | ((with_reducible refine gd 3 rfl ?_); refine bx #[.int .i64 Af, .int .i64 Ag, .int .i64 Ah, .int .i64 Ai] 42 ?_; intro AU hg w4 Ak hb; have Ar := ngw1 hg HB Aj; replace HB := bS1 HB Aj hb; have Al := nlt hg Aa; have Am := nsy (nlt hg Aa); replace Aa := bB Aa hb; clear hb hg) | ((with_reducible refine gd 4 rfl ?_); refine bx #[.int .i64 0, .int .i64 0, .int .i64 0, .int .i64 0] 42 ?_; intro At hg w5 As hb; have Au := ngw2 hg HB Aj Ar; replace HB := bS2 HB Aj Ar hb; have An := nlt hg Aa; have Ao := nsy (nlt hg Aa); replace Aa := bB Aa hb; have Ap := nlt hg Ak; have Aq := nsy (nlt hg Ak); replace Ak := bB Ak hb; clear hb hg; have AV := Al.out; have AW := Am.out; have AX := An.out; have AY := Ao.out; obtain ⟨AL, AM, AN, AO, AP, AQ, AR, AS⟩ := bz4 Aa; have AZ := Ap.out; have A0 := Aq.out; obtain ⟨Av, Aw, Ax, Ay, Az, AA, AB, AC⟩ := bz4 Ak; obtain ⟨AD, AE, AF, AG, AH, AI, AJ, AK⟩ := bz4 As))
 refine bodyPost_ret (results_cell_row rfl _ _ At 42 #[.int .i64 (wrap64 ((wrap64 (Ab * Af)) + (wrap64 (Ac * Ah)))), .int .i64 (wrap64 ((wrap64 (Ab * Ag)) + (wrap64 (Ac * Ai)))), .int .i64 (wrap64 ((wrap64 (Ad * Af)) + (wrap64 (Ae * Ah)))), .int .i64 (wrap64 ((wrap64 (Ad * Ag)) + (wrap64 (Ae * Ai))))] (0, 0) _ rfl (bq0 As) Tryz.underlying42 rfl (by kernel_rfl)) rfl ?_
 exact er (bbw3 HB Aj Ar Au)
def spec_l05Compose.f (Ak : Int) (Al : Int) (Am : Int) (An : Int) (Ar : Int) (As : Int) (At : Int) (Au : Int) (Av : Int) (Aw : Int) (Ax : Int) (Ay : Int) : Option (Int × Int × Int × Int × Int × Int) := (spec_l02Multiply.f Ak Al Am An At Au Av Aw).bind fun Ah => ((spec_l02Apply.f Ak Al Am An Ax Ay).bind fun Ap => ((spec_l01Add.f Ap.1 Ap.2 Ar As).bind fun Aq => (some (Ah.1, Ah.2.1, Ah.2.2.1, Ah.2.2.2, Aq.1, Aq.2))))
def spec_l05Compose.T1 : Bool × List (List Nat × List Nat) := (true, [([], []), ([0], [0]), ([], []), ([2], [2]), ([1, 3], [1, 3]), ([], []), ([5], [5]), ([], []), ([7], [7]), ([6, 8, 4], [6, 8]), ([], []), ([10], [10]), ([9, 11, 9], [9, 11]), ([4, 12], [4, 12]), ([13, 12, 0, 1, 2, 3, 4, 5, 6, 7, 8, 9, 10, 11, 12, 13], [13])])
def spec_l05Compose.B1 : List Nat := [0, 1, 0, 4, 15, 0, 32, 0, 128, 511, 0, 1024, 4095, 8191, 16383]
theorem spec_l05Compose.tab1 : rtab .any (opsOf Tryz.f49 1) = spec_l05Compose.T1 := by kernel_rfl
theorem spec_l05Compose.bits1 : waitsOk spec_l05Compose.T1.2 spec_l05Compose.B1 = true := by kernel_rfl
theorem spec_l05Compose.calls (Ak : Int) (Al : Int) (Am : Int) (An : Int) (Ar : Int) (As : Int) (At : Int) (Au : Int) (Av : Int) (Aw : Int) (Ax : Int) (Ay : Int) (r1 : Int) (r2 : Int) (r3 : Int) (r4 : Int) (r5 : Int) (r6 : Int) (w : World) (h : spec_l05Compose.f Ak Al Am An Ar As At Au Av Aw Ax Ay = some (r1, r2, r3, r4, r5, r6)) :
  Calls Tryz.prog 49 #[.agg #[.int .i64 Ak, .int .i64 Al, .int .i64 Am, .int .i64 An, .int .i64 Ar, .int .i64 As], .agg #[.int .i64 At, .int .i64 Au, .int .i64 Av, .int .i64 Aw, .int .i64 Ax, .int .i64 Ay]] w fun e w' => e = .returned (.agg #[.int .i64 r1, .int .i64 r2, .int .i64 r3, .int .i64 r4, .int .i64 r5, .int .i64 r6]) ∧ Below w.heap.size w w' := by
 have hu46 := Tryz.underlying46
 have hu42 := Tryz.underlying42
 have hu44 := Tryz.underlying44
 have HB := asd (Below.refl w.heap.size w)
 have H : ((spec_l02Multiply.f Ak Al Am An At Au Av Aw).bind fun Ah => ((spec_l02Apply.f Ak Al Am An Ax Ay).bind fun Ap => ((spec_l01Add.f Ap.1 Ap.2 Ar As).bind fun Aq => (some (Ah.1, Ah.2.1, Ah.2.2.1, Ah.2.2.2, Aq.1, Aq.2))))) = some (r1, r2, r3, r4, r5, r6) := h
 clear h
 obtain ⟨⟨A0, A1, A2, A6⟩, A3, H⟩ := ob H
 try dsimp only at H
 obtain ⟨⟨A7, A8⟩, A4, H⟩ := ob H
 try dsimp only at H
 obtain ⟨⟨A9, Ba⟩, A5, H⟩ := ob H
 try dsimp only at H
 simp only [Option.some.injEq, Prod.mk.injEq] at H
 obtain ⟨rfl, rfl, rfl, rfl, rfl, rfl⟩ := H
 go_enter Tryz.func49, Tryz.ntmps49
 try go_wp2_with (first | ((with_reducible refine gd 2 rfl ?_); refine bx #[.int .i64 Ak, .int .i64 Al, .int .i64 Am, .int .i64 An, .int .i64 Ar, .int .i64 As] 46 ?_; intro Bb hg w6 Ad hb; have Ai := ngw0 hg HB; replace HB := bS0 HB hb; clear hb hg) | ((with_reducible refine gd 3 rfl ?_); refine bx #[.int .i64 At, .int .i64 Au, .int .i64 Av, .int .i64 Aw, .int .i64 Ax, .int .i64 Ay] 46 ?_; intro Bc hg w7 Ae hb; have Ao := ngw1 hg HB Ai; replace HB := bS1 HB Ai hb; have AA := nlt hg Ad; have AB := nsy (nlt hg Ad); replace Ad := bB Ad hb; clear hb hg) | ((with_reducible refine gd 4 rfl ?_); refine bx #[.int .i64 0, .int .i64 0, .int .i64 0, .int .i64 0, .int .i64 0, .int .i64 0] 46 ?_; intro Aj hg w8 Ac hb; have Az := ngw2 hg HB Ai Ao; replace HB := bS2 HB Ai Ao hb; have Aa := nlt hg Ad; have Af := nsy (nlt hg Ad); replace Ad := bB Ad hb; have Ab := nlt hg Ae; have Ag := nsy (nlt hg Ae); replace Ae := bB Ae hb; clear hb hg))
 replace Ad := asd (blk_drew Ad.out)
 replace Ae := asd (blk_drew Ae.out)
 replace Ac := asd (blk_drew Ac.out)
 replace HB := asd (below_drew1 HB.out)
 refine sh 15 (cb6 Ad (eb6 Ae)) (fun hHeld => ?_); refine with_tabW spec_l05Compose.tab1 spec_l05Compose.bits1 (fun HT_ HW_ => ?_)
 generalize w8.drew = w9 at Ad Ae Ac HB hHeld ⊢
 refine pu 0 (some 5) (bT 15 1) HT_ ?_
 refine pu 2 (some 7) (bs 15 5) HT_ ?_
 refine pu 5 (some 10) (bs 15 37) HT_ ?_
 refine pu 7 (some 12) (bs 15 165) HT_ ?_
 refine pu 10 (some 15) (bs 15 1189) HT_ ?_
 refine ta 1 (some 6) (bs 15 1191) HT_ HW_ hHeld ?_
 refine ta 3 (some 8) (bs 15 1199) HT_ HW_ hHeld ?_
 refine ta 6 (some 11) (bs 15 1263) HT_ HW_ hHeld ?_
 refine ta 8 (some 13) (bs 15 1519) HT_ HW_ hHeld ?_
 refine ta 11 (some 16) (bs 15 3567) HT_ HW_ hHeld ?_
 refine ro 4 (some 9) (bs 15 3583) HT_ (fun K hK => ?_)
 refine gs Tryz.func50 #[.agg #[.int .i64 Ak, .int .i64 Al, .int .i64 Am, .int .i64 An], .agg #[.int .i64 At, .int .i64 Au, .int .i64 Av, .int .i64 Aw]] ?_
 with_reducible refine (spec_l02Multiply.calls _ _ _ _ _ _ _ _ _ _ _ _ _ A3.out).mono ?_
 rintro e Bd ⟨rfl, hb⟩
 refine ⟨_, rfl, ?_⟩
 replace Ad := bB Ad hb
 replace Ae := bB Ae hb
 replace Ac := bB Ac hb
 replace HB := bS3 HB Ai Ao Az hb
 (try clear hb)
 (try clear hb2)
 (try clear hk)
 (try clear hi)
 refine hK.out _ _ (cb6 Ad (eb6 Ae)).out (fun hHeld => ?_)
 clear hK K
 refine norm_ (a' := ?_) ?_ ?_
 rotate_left
 ·show Act.put _ (some 9) _ = _
  simp only [Act.put, sA, sB, sC, i64_w, i32_w]
  rfl
 refine ro 9 (some 14) (bT 15 12) HT_ (fun K hK => ?_)
 refine gs Tryz.func87 #[.agg #[.int .i64 Ak, .int .i64 Al, .int .i64 Am, .int .i64 An], .agg #[.int .i64 Ax, .int .i64 Ay]] ?_
 with_reducible refine (spec_l02Apply.calls _ _ _ _ _ _ _ _ _ A4.out).mono ?_
 rintro e Be ⟨rfl, hb⟩
 refine ⟨_, rfl, ?_⟩
 replace Ad := bB Ad hb
 replace Ae := bB Ae hb
 replace Ac := bB Ac hb
 replace HB := bS3 HB Ai Ao Az hb
 (try clear hb)
 (try clear hb2)
 (try clear hk)
 (try clear hi)
 refine hK.out _ _ (cb6 Ad (eb6 Ae)).out (fun hHeld => ?_)
 clear hK K
 refine norm_ (a' := ?_) ?_ ?_
 rotate_left
 ·show Act.put _ (some 14) _ = _
  simp only [Act.put, sA, sB, sC, i64_w, i32_w]
  rfl
 refine ro 12 (some 17) (bT 15 13) HT_ (fun K hK => ?_)
 refine gs Tryz.func86 #[.agg #[.int .i64 A7, .int .i64 A8], .agg #[.int .i64 Ar, .int .i64 As]] ?_
 with_reducible refine (spec_l01Add.calls _ _ _ _ _ _ _ A5.out).mono ?_
 rintro e w12 ⟨rfl, hb⟩
 refine ⟨_, rfl, ?_⟩
 replace Ad := bB Ad hb
 replace Ae := bB Ae hb
 replace Ac := bB Ac hb
 replace HB := bS3 HB Ai Ao Az hb
 (try clear hb)
 (try clear hb2)
 (try clear hk)
 (try clear hi)
 refine hK.out _ _ (cb6 Ad (eb6 Ae)).out (fun hHeld => ?_)
 clear hK K
 refine norm_ (a' := ?_) ?_ ?_
 rotate_left
 ·show Act.put _ (some 17) _ = _
  simp only [Act.put, sA, sB, sC, i64_w, i32_w]
  rfl
 refine pu 13 (some 18) (bT 15 14) HT_ ?_
 refine ro 14 (none) (bT 15 15) HT_ (fun K hK => ?_)
 have hs13 : w12.cell? ⟨Aj, 0, none⟩ = some (.int .i64 0) := bcl Ac 0
 have hfs13 := blk_frozen Ac.out 0
 have AC := Aa.out
 have AD := Ab.out
 have AE := Af.out
 have AF := Ag.out
 have hs14 : w12.cell? ⟨Aj, 1, none⟩ = some (.int .i64 0) := bcl Ac 1
 have hfs14 := blk_frozen Ac.out 1
 have AG := Aa.out
 have AH := Ab.out
 have AI := Af.out
 have AJ := Ag.out
 have hs15 : w12.cell? ⟨Aj, 2, none⟩ = some (.int .i64 0) := bcl Ac 2
 have hfs15 := blk_frozen Ac.out 2
 have AK := Aa.out
 have AL := Ab.out
 have AM := Af.out
 have AN := Ag.out
 have hs16 : w12.cell? ⟨Aj, 3, none⟩ = some (.int .i64 0) := bcl Ac 3
 have hfs16 := blk_frozen Ac.out 3
 have AO := Aa.out
 have AP := Ab.out
 have AQ := Af.out
 have AR := Ag.out
 have hs17 : w12.cell? ⟨Aj, 4, none⟩ = some (.int .i64 0) := bcl Ac 4
 have hfs17 := blk_frozen Ac.out 4
 have AS := Aa.out
 have AT := Ab.out
 have AU := Af.out
 have AV := Ag.out
 have hs18 : w12.cell? ⟨Aj, 5, none⟩ = some (.int .i64 0) := bcl Ac 5
 have hfs18 := blk_frozen Ac.out 5
 have AW := Aa.out
 have AX := Ab.out
 have AY := Af.out
 have AZ := Ag.out
 refine skip_ (w1 := ?_) (by rfl) rfl ?_ ?_
 rotate_left
 ·go_simp
  rfl
 refine hK.out _ _ ⟨(cf6 Aa (hHeld.1)), (cf6 Aa (hHeld.2.1)), (cf6 Aa (hHeld.2.2.1)), (cf6 Aa (hHeld.2.2.2.1)), (cf6 Aa (hHeld.2.2.2.2.1)), (cf6 Aa (hHeld.2.2.2.2.2.1)), (cf6 Ab (hHeld.2.2.2.2.2.2.1)), (cf6 Ab (hHeld.2.2.2.2.2.2.2.1)), (cf6 Ab (hHeld.2.2.2.2.2.2.2.2.1)), (cf6 Ab (hHeld.2.2.2.2.2.2.2.2.2.1)), (cf6 Ab (hHeld.2.2.2.2.2.2.2.2.2.2.1)), (cf6 Ab (hHeld.2.2.2.2.2.2.2.2.2.2.2))⟩ (fun hHeld => ?_)
 clear hK K
 refine done_ (done_of HT_.out (by kernel_rfl)) ?_
 try go_wp2
 refine bodyPost_ret (results_cell_row rfl _ _ Aj 46 #[.int .i64 A0, .int .i64 A1, .int .i64 A2, .int .i64 A6, .int .i64 A9, .int .i64 Ba] (0, 0) _ rfl (bq0 Ac) Tryz.underlying46 rfl (by kernel_rfl)) rfl ?_
 exact er (bbw3 HB Ai Ao Az)
end Go.Proofs.YtfmjboloeabjmaaGreat.PA
