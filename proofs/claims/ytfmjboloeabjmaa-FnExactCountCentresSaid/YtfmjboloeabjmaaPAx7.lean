/- Walks written by program: each Go function that the law reaches comes to the plain function beside it. -/
import Derived.Test.YtfmjboloeabjmaaPAx0
import Derived.Test.YtfmjboloeabjmaaPAx2
import Derived.Test.YtfmjboloeabjmaaPAx4
import Derived.Test.YtfmjboloeabjmaaPAx5
import Derived.Test.YtfmjboloeabjmaaPAx6
namespace Go.Proofs.Ytfmjboloeabjmaa.PA
open Go.RowKit Go.Proofs.YtfmjboloeabjmaaW.PrintWords Go.Proofs.YtfmjboloeabjmaaW.PrintLast Go.Proofs.YtfmjboloeabjmaaW.PrintMore
attribute [local go_sem] max2_int min2_int max_two min_two max_three min_three max_four min_four   -- for this text's walks alone
set_option linter.unusedVariables false
set_option linter.unusedSimpArgs false

attribute [local go_sem high] eqA40
/-! ### spec_l06Reduce: function 43 -/
def spec_l06Reduce.f (a0_0 : Int) (a0_1 : Int) (a0_2 : Int) (a1_0 : Int) (a1_1 : Int) (a1_2 : Int) (a1_3 : Int) (a1_4 : Int) (a1_5 : Int) : Option (Int × Int × Int × Int × Int × Int) := (spec_l03Reduce.f a0_0 a0_1 a0_2 a1_4 a1_5).bind fun bt192 => (some (a1_0, a1_1, a1_2, a1_3, bt192.1, bt192.2))
def spec_l06Reduce.T1 : Bool × List (List Nat × List Nat) := (true, [([], []), ([0], [0]), ([], []), ([], []), ([3], [3]), ([2, 4], [2, 4]), ([1, 5], [1, 5]), ([6, 5, 0, 1, 2, 3, 4, 5, 6], [6])])
def spec_l06Reduce.B1 : List Nat := [0, 1, 0, 0, 8, 28, 63, 127]
theorem spec_l06Reduce.tab1 : rtab .any (opsOf Try.f43 1) = spec_l06Reduce.T1 := by kernel_rfl
theorem spec_l06Reduce.bits1 : waitsOk spec_l06Reduce.T1.2 spec_l06Reduce.B1 = true := by kernel_rfl
set_option maxHeartbeats 8000000 in
set_option maxRecDepth 100000 in
theorem spec_l06Reduce.calls (a0_0 : Int) (a0_1 : Int) (a0_2 : Int) (a1_0 : Int) (a1_1 : Int) (a1_2 : Int) (a1_3 : Int) (a1_4 : Int) (a1_5 : Int) (r1 : Int) (r2 : Int) (r3 : Int) (r4 : Int) (r5 : Int) (r6 : Int) (w : World) (h : spec_l06Reduce.f a0_0 a0_1 a0_2 a1_0 a1_1 a1_2 a1_3 a1_4 a1_5 = some (r1, r2, r3, r4, r5, r6)) :
  Calls Try.prog 43 #[.agg #[.int .i64 a0_0, .int .i64 a0_1, .int .i64 a0_2], .agg #[.int .i64 a1_0, .int .i64 a1_1, .int .i64 a1_2, .int .i64 a1_3, .int .i64 a1_4, .int .i64 a1_5]] w fun e w' => e = .returned (.agg #[.int .i64 r1, .int .i64 r2, .int .i64 r3, .int .i64 r4, .int .i64 r5, .int .i64 r6]) ∧ Below w.heap.size w w' := by
 have hu28 := Try.underlying28
 have hu44 := Try.underlying44
 have hu40 := Try.underlying40
 have hu42 := Try.underlying42
 have HB := asd (Below.refl w.heap.size w)
 have H : ((spec_l03Reduce.f a0_0 a0_1 a0_2 a1_4 a1_5).bind fun bt192 => (some (a1_0, a1_1, a1_2, a1_3, bt192.1, bt192.2))) = some (r1, r2, r3, r4, r5, r6) := h
 clear h
 obtain ⟨⟨t192, t193⟩, A3, H⟩ := ob H
 try dsimp only at H
 simp only [Option.some.injEq, Prod.mk.injEq] at H
 obtain ⟨rfl, rfl, rfl, rfl, rfl, rfl⟩ := H
 go_enter Try.func43, Try.ntmps43
 try go_wp2_with (first | ((with_reducible refine gd 2 rfl ?_); refine bx #[.int .i64 a0_0, .int .i64 a0_1, .int .i64 a0_2] 28 ?_; intro gb189 hg w4 BK189 hb; have GE189 := ngw0 hg HB; replace HB := bS0 HB hb; clear hb hg) | ((with_reducible refine gd 3 rfl ?_); refine bx #[.int .i64 a1_0, .int .i64 a1_1, .int .i64 a1_2, .int .i64 a1_3, .int .i64 a1_4, .int .i64 a1_5] 44 ?_; intro gb190 hg w5 BK190 hb; have GE190 := ngw1 hg HB GE189; replace HB := bS1 HB GE189 hb; have NB189_190 := nlt hg BK189; have NB190_189 := nsy (nlt hg BK189); replace BK189 := bB BK189 hb; clear hb hg) | ((with_reducible refine gd 4 rfl ?_); refine bx #[.int .i64 0, .int .i64 0, .int .i64 0, .int .i64 0, .int .i64 0, .int .i64 0] 44 ?_; intro gb191 hg w6 BK191 hb; have GE191 := ngw2 hg HB GE189 GE190; replace HB := bS2 HB GE189 GE190 hb; have NB189_191 := nlt hg BK189; have NB191_189 := nsy (nlt hg BK189); replace BK189 := bB BK189 hb; have NB190_191 := nlt hg BK190; have NB191_190 := nsy (nlt hg BK190); replace BK190 := bB BK190 hb; clear hb hg))
 replace BK189 := asd (blk_drew BK189.out)
 replace BK190 := asd (blk_drew BK190.out)
 replace BK191 := asd (blk_drew BK191.out)
 replace HB := asd (below_drew1 HB.out)
 refine sh 8 (cb6 BK190 (eb3 BK189)) (fun hHeld => ?_); refine with_tabW spec_l06Reduce.tab1 spec_l06Reduce.bits1 (fun HT_ HW_ => ?_)
 generalize w6.drew = w7 at BK189 BK190 BK191 HB hHeld ⊢
 refine pu 0 (some 5) (bT 8 1) HT_ ?_
 refine pu 3 (some 8) (bs 8 9) HT_ ?_
 refine ta 1 (some 6) (bs 8 11) HT_ HW_ hHeld ?_
 refine ta 2 (some 7) (bT 8 4) HT_ HW_ hHeld ?_
 refine ta 4 (some 9) (bT 8 5) HT_ HW_ hHeld ?_
 refine ro 5 (some 10) (bT 8 6) HT_ (fun K hK => ?_)
 refine gs Try.func66 #[.agg #[.int .i64 a0_0, .int .i64 a0_1, .int .i64 a0_2], .agg #[.int .i64 a1_4, .int .i64 a1_5]] ?_
 with_reducible refine (spec_l03Reduce.calls _ _ _ _ _ _ _ _ A3.out).mono ?_
 rintro e w8 ⟨rfl, hb⟩
 refine ⟨_, rfl, ?_⟩
 replace BK189 := bB BK189 hb
 replace BK190 := bB BK190 hb
 replace BK191 := bB BK191 hb
 replace HB := bS3 HB GE189 GE190 GE191 hb
 (try clear hb)
 (try clear hb2)
 (try clear hk)
 (try clear hi)
 refine hK.out _ _ (cb6 BK190 (eb3 BK189)).out (fun hHeld => ?_)
 clear hK K
 refine norm_ (a' := ?_) ?_ ?_
 rotate_left
 ·show Act.put _ (some 10) _ = _
  simp only [Act.put, sA, sB, sC, i64_w, i32_w]
  rfl
 refine pu 6 (some 11) (bT 8 7) HT_ ?_
 refine ro 7 (none) (bT 8 8) HT_ (fun K hK => ?_)
 have hs9 : w8.cell? ⟨gb191, 0, none⟩ = some (.int .i64 0) := bcl BK191 0
 have hfs9 := blk_frozen BK191.out 0
 have hns9_0 := NB189_191.out
 have hns9_1 := NB190_191.out
 have hms9_0 := NB191_189.out
 have hms9_1 := NB191_190.out
 have hs10 : w8.cell? ⟨gb191, 1, none⟩ = some (.int .i64 0) := bcl BK191 1
 have hfs10 := blk_frozen BK191.out 1
 have hns10_0 := NB189_191.out
 have hns10_1 := NB190_191.out
 have hms10_0 := NB191_189.out
 have hms10_1 := NB191_190.out
 have hs11 : w8.cell? ⟨gb191, 2, none⟩ = some (.int .i64 0) := bcl BK191 2
 have hfs11 := blk_frozen BK191.out 2
 have hns11_0 := NB189_191.out
 have hns11_1 := NB190_191.out
 have hms11_0 := NB191_189.out
 have hms11_1 := NB191_190.out
 have hs12 : w8.cell? ⟨gb191, 3, none⟩ = some (.int .i64 0) := bcl BK191 3
 have hfs12 := blk_frozen BK191.out 3
 have hns12_0 := NB189_191.out
 have hns12_1 := NB190_191.out
 have hms12_0 := NB191_189.out
 have hms12_1 := NB191_190.out
 have hs13 : w8.cell? ⟨gb191, 4, none⟩ = some (.int .i64 0) := bcl BK191 4
 have hfs13 := blk_frozen BK191.out 4
 have hns13_0 := NB189_191.out
 have hns13_1 := NB190_191.out
 have hms13_0 := NB191_189.out
 have hms13_1 := NB191_190.out
 have hs14 : w8.cell? ⟨gb191, 5, none⟩ = some (.int .i64 0) := bcl BK191 5
 have hfs14 := blk_frozen BK191.out 5
 have hns14_0 := NB189_191.out
 have hns14_1 := NB190_191.out
 have hms14_0 := NB191_189.out
 have hms14_1 := NB191_190.out
 refine skip_ (w1 := ?_) (by rfl) rfl ?_ ?_
 rotate_left
 ·go_simp
  rfl
 refine hK.out _ _ ⟨(cf6 NB190_191 (hHeld.1)), (cf6 NB190_191 (hHeld.2.1)), (cf6 NB190_191 (hHeld.2.2.1)), (cf6 NB190_191 (hHeld.2.2.2.1)), (cf6 NB190_191 (hHeld.2.2.2.2.1)), (cf6 NB190_191 (hHeld.2.2.2.2.2.1)), (cf6 NB189_191 (hHeld.2.2.2.2.2.2.1)), (cf6 NB189_191 (hHeld.2.2.2.2.2.2.2.1)), (cf6 NB189_191 (hHeld.2.2.2.2.2.2.2.2))⟩ (fun hHeld => ?_)
 clear hK K
 refine done_ (done_of HT_.out (by kernel_rfl)) ?_
 try go_wp2
 refine bodyPost_ret (results_cell_row rfl _ _ gb191 44 #[.int .i64 a1_0, .int .i64 a1_1, .int .i64 a1_2, .int .i64 a1_3, .int .i64 t192, .int .i64 t193] (0, 0) _ rfl (bq0 BK191) Try.underlying44 rfl (by kernel_rfl)) rfl ?_
 exact er (bbw3 HB GE189 GE190 GE191)
/-! ### spec_l01Less: function 51 -/
def spec_l01Less.f (a0_0 : Int) (a0_1 : Int) (a1_0 : Int) (a1_1 : Int) : Option (Bool) := if a0_0 < a1_0 then (some true) else (if a0_0 = a1_0 then (some (decide (a0_1 < a1_1))) else (some false))
set_option maxHeartbeats 8000000 in
set_option maxRecDepth 100000 in
theorem spec_l01Less.calls (a0_0 : Int) (a0_1 : Int) (a1_0 : Int) (a1_1 : Int) (r : Bool) (w : World) (h : spec_l01Less.f a0_0 a0_1 a1_0 a1_1 = some r) :
  Calls Try.prog 51 #[.agg #[.int .i64 a0_0, .int .i64 a0_1], .agg #[.int .i64 a1_0, .int .i64 a1_1]] w fun e w' => e = .returned (.bool r) ∧ Below w.heap.size w w' := by
 have hu42 := Try.underlying42
 have HB := asd (Below.refl w.heap.size w)
 have H : (if a0_0 < a1_0 then (some true) else (if a0_0 = a1_0 then (some (decide (a0_1 < a1_1))) else (some false))) = some r := h
 clear h
 by_cases c3 : a0_0 < a1_0
 rw [if_pos c3] at H
 have c3b0 := decide_eq_true c3
 clear c3
 obtain rfl := Option.some.inj H
 rotate_left
 rw [if_neg c3] at H
 have c3b0 := decide_eq_false c3
 clear c3
 by_cases c9 : a0_0 = a1_0
 rw [if_pos c9] at H
 have c9b0 : (a0_0 == a1_0) = true := beq_iff_eq.mpr c9
 have c9b1 : (a0_0 != a1_0) = false := bne_eq_false_iff_eq.mpr c9
 clear c9
 obtain rfl := Option.some.inj H
 rotate_left
 rw [if_neg c9] at H
 have c9b0 : (a0_0 == a1_0) = false := beq_eq_false_iff_ne.mpr c9
 have c9b1 : (a0_0 != a1_0) = true := bne_iff_ne.mpr c9
 obtain rfl := Option.some.inj H
 rotate_left
 all_goals
  go_enter Try.func51, Try.ntmps51
  go_wp2_with (first | ((with_reducible refine gd 2 rfl ?_); refine bx #[.int .i64 a0_0, .int .i64 a0_1] 42 ?_; intro gb194 hg w4 BK194 hb; have GE194 := ngw0 hg HB; replace HB := bS0 HB hb; clear hb hg) | ((with_reducible refine gd 3 rfl ?_); refine bx #[.int .i64 a1_0, .int .i64 a1_1] 42 ?_; intro gb195 hg w5 BK195 hb; have GE195 := ngw1 hg HB GE194; replace HB := bS1 HB GE194 hb; have NB194_195 := nlt hg BK194; have NB195_194 := nsy (nlt hg BK194); replace BK194 := bB BK194 hb; clear hb hg; have hnb6 := NB194_195.out; have hnc6 := NB195_194.out; obtain ⟨hcz7_0, hcz7_1, hfz7_0, hfz7_1⟩ := bz2 BK194; obtain ⟨hcz8_0, hcz8_1, hfz8_0, hfz8_1⟩ := bz2 BK195))
  go_ret
  exact er (bbw2 HB GE194 GE195)
/-! ### spec_l01LessList: function 86 -/
mutual
def spec_l01LessList.l0 : Nat → List Int → List Int → Int → Option (Bool)
 | 0, _, _, _ => none
 | k + 1, x0, x1, x5 => if x5 < (x0.length : Int) then (spec_l01LessList.j1 k x0 x1 x5 (decide (x5 < (x1.length : Int)))) else (spec_l01LessList.j1 k x0 x1 x5 false)
def spec_l01LessList.j1 : Nat → List Int → List Int → Int → Bool → Option (Bool)
 | 0, _, _, _, _ => none
 | k + 1, x0, x1, x5, x15 => if x15 = true then (if 0 ≤ x5 then (if x5 < (x0.length : Int) then (if x5 < (x1.length : Int) then (if (rd x0 x5) = (rd x1 x5) then (spec_l01LessList.l0 k x0 x1 (wrap64 (x5 + 1))) else (some (decide ((rd x0 x5) < (rd x1 x5))))) else (none)) else (none)) else (none)) else (some (decide ((x0.length : Int) < (x1.length : Int))))
end
def spec_l01LessList.f (k : Nat) (l0 : List Int) (l1 : List Int) : Option (Bool) := spec_l01LessList.l0 k l0 l1 0
set_option maxHeartbeats 8000000 in
set_option maxRecDepth 100000 in
theorem spec_l01LessList.calls (k : Nat) (A0 : Option Addr) (c0 : Nat) (l0 : List Int) (A1 : Option Addr) (c1 : Nat) (l1 : List Int) (r : Bool) (w : World) (hr0 : Kd.C (Kd.int .i64) w A0 l0.length l0) (hc0 : l0.length ≤ c0) (hr1 : Kd.C (Kd.int .i64) w A1 l1.length l1) (hc1 : l1.length ≤ c1) (h : spec_l01LessList.f k l0 l1 = some r) :
  Calls Try.prog 86 #[.slice A0 l0.length c0, .slice A1 l1.length c1] w fun e w' => e = .returned (.bool r) ∧ Drawn0 w w' := by
 have HR0 := Aside0.mk hr0
 have HC0 := Aside0.mk hc0
 clear hr0 hc0
 have HR1 := Aside0.mk hr1
 have HC1 := Aside0.mk hc1
 clear hr1 hc1
 have H : (spec_l01LessList.l0 k l0 l1 0) = some r := h
 clear h
 have H' := Aside0.mk H
 clear H
 go_enter Try.func86, Try.ntmps86
 go_wp2
 repeat (go_quiet (fail); try go_wp2)
 go_loopg [5] k (fun kq v5 w' => ∃ (x5_1 : Int), v5 = .int .i64 x5_1 ∧ Aside0 (spec_l01LessList.l0 kq l0 l1 x5_1 = some r) ∧ Aside0 (kq ≤ k) ∧ Drawn0 w w')
 case atStart => exact ⟨(0), (by first | rfl | (simp; done) | (simp [*]; done)), H', ⟨Nat.le_refl _⟩, by repeat (first | exact Drawn0.refl _ | apply Drawn0.step)⟩
 case round =>
  clear H'
  try clear c1
  try clear p2
  obtain ⟨x5_1, rfl, HA, HK1, ⟨m1, rfl⟩⟩ := hrel
  cases gk with
  | zero => exact absurd HA.out (by simp [spec_l01LessList.l0])
  | succ k1 =>
   have H := HA.out
   clear HA
   simp only [spec_l01LessList.l0] at H
   have HC3 := Aside0.mk H
   clear H
   go_upto_region 2 with (fail)
   repeat (go_quiet (fail); go_upto_region 2 with (fail))
   go_cut [15] (fun v15 wc => ∃ (kq : Nat) (x15_2 : Bool), v15 = .bool x15_2 ∧ Aside0 (spec_l01LessList.j1 kq l0 l1 x5_1 x15_2 = some r) ∧ Aside0 (kq ≤ k1) ∧ Drawn0 w wc)
   case first =>
    have H := HC3.out
    clear HC3
    by_cases c4 : x5_1 < (l0.length : Int)
    ·rw [if_pos c4] at H
     have c4b0 := decide_eq_true c4
     clear c4
     (first | rw [c4b0] | (simp only [i64_w, i32_w]; rw [c4b0]) | skip)
     have H' := Aside0.mk H
     clear H
     go_wp2
     repeat (go_quiet (fail); try go_wp2)
     go_meet
     case rel => exact ⟨_, (decide (x5_1 < (l1.length : Int))), (by first | rfl | (simp; done) | (simp [*]; done)), H', ⟨by have := HK1.out; first | omega | exact Nat.le_refl _⟩, by repeat (first | exact Drawn0.refl _ | apply Drawn0.step)⟩
    ·rw [if_neg c4] at H
     have c4b0 := decide_eq_false c4
     clear c4
     (first | rw [c4b0] | (simp only [i64_w, i32_w]; rw [c4b0]) | skip)
     have H' := Aside0.mk H
     clear H
     go_wp2
     repeat (go_quiet (fail); try go_wp2)
     go_meet
     case rel => exact ⟨_, (false), (by first | rfl | (simp; done) | (simp [*]; done)), H', ⟨by have := HK1.out; first | omega | exact Nat.le_refl _⟩, by repeat (first | exact Drawn0.refl _ | apply Drawn0.step)⟩
   case rest =>
    clear HC3
    try clear c1
    try clear p2
    try clear c4
    try clear c4b0
    try clear p2
    obtain ⟨kq, x15_2, rfl, HA, HJ2, ⟨mc2, rfl⟩⟩ := hcut
    cases kq with
    | zero => exact absurd HA.out (by simp [spec_l01LessList.j1])
    | succ kj2 =>
     have H := HA.out
     clear HA
     simp only [spec_l01LessList.j1] at H
     by_cases c5 : x15_2 = true
     subst c5
     replace H := ifT H
     by_cases c6 : 0 ≤ x5_1
     rw [if_pos c6] at H
     have c6b0 := decide_eq_true c6
     clear c6
     by_cases c7 : x5_1 < (l0.length : Int)
     rw [if_pos c7] at H
     have c7b0 := decide_eq_true c7
     clear c7
     by_cases c8 : x5_1 < (l1.length : Int)
     rw [if_pos c8] at H
     have c8b0 := decide_eq_true c8
     clear c8
     by_cases c9 : (rd l0 x5_1) = (rd l1 x5_1)
     rw [if_pos c9] at H
     have c9b0 : ((rd l0 x5_1) == (rd l1 x5_1)) = true := beq_iff_eq.mpr c9
     have c9b1 : ((rd l0 x5_1) != (rd l1 x5_1)) = false := bne_eq_false_iff_eq.mpr c9
     clear c9
     have H' := Aside0.mk H
     clear H
     rotate_left
     rw [if_neg c9] at H
     have c9b0 : ((rd l0 x5_1) == (rd l1 x5_1)) = false := beq_eq_false_iff_ne.mpr c9
     have c9b1 : ((rd l0 x5_1) != (rd l1 x5_1)) = true := bne_iff_ne.mpr c9
     obtain rfl := Option.some.inj H
     rotate_left
     ·rw [if_neg c8] at H
      exact absurd H (by simp)
     ·rw [if_neg c7] at H
      exact absurd H (by simp)
     ·rw [if_neg c6] at H
      exact absurd H (by simp)
     replace c5 := Bool.eq_false_iff.mpr c5
     subst c5
     replace H := ifF H
     obtain rfl := Option.some.inj H
     rotate_left
     rotate_left 2
     ·go_wp2
      repeat (go_quiet (fail); try go_wp2)
      go_ret
      exact ⟨by first | rfl | (simp; done) | (simp [*]; done), by repeat (first | exact Drawn0.refl _ | apply Drawn0.step)⟩
     all_goals
      have p196 : 0 ≤ (x5_1 : Int) := od
      have q196 : x5_1 < (l0.length : Int) := od
      obtain ⟨ad196, e196, hx196_0⟩ := Kd.at_int HR0.out x5_1 p196 q196
      cases e196
      replace p196 := eq_true p196
      replace q196 := eq_true q196
      have p197 : 0 ≤ (x5_1 : Int) := od
      have q197 : x5_1 < (l1.length : Int) := od
      obtain ⟨ad197, e197, hx197_0⟩ := Kd.at_int HR1.out x5_1 p197 q197
      cases e197
      replace p197 := eq_true p197
      replace q197 := eq_true q197
     ·go_wp2
      repeat (go_quiet (fail); try go_wp2)
      go_roundg kj2
      case measure => have := HK1.out; have := HJ2.out; omega
      case rel => exact ⟨(wrap64 (x5_1 + 1)), (by first | rfl | (simp; done) | (simp [*]; done)), H', ⟨by have := HK1.out; have := HJ2.out; omega⟩, by repeat (first | exact Drawn0.refl _ | apply Drawn0.step)⟩
     ·have p198 : 0 ≤ (x5_1 : Int) := od
      have q198 : x5_1 < (l0.length : Int) := od
      obtain ⟨ad198, e198, hx198_0⟩ := Kd.at_int HR0.out x5_1 p198 q198
      obtain rfl : ad196 = ad198 := (by injection e198)
      replace p198 := eq_true p198
      replace q198 := eq_true q198
      have p199 : 0 ≤ (x5_1 : Int) := od
      have q199 : x5_1 < (l1.length : Int) := od
      obtain ⟨ad199, e199, hx199_0⟩ := Kd.at_int HR1.out x5_1 p199 q199
      obtain rfl : ad197 = ad199 := (by injection e199)
      replace p199 := eq_true p199
      replace q199 := eq_true q199
      go_wp2
      repeat (go_quiet (fail); try go_wp2)
      go_ret
      exact ⟨by first | rfl | (simp; done) | (simp [*]; done), by repeat (first | exact Drawn0.refl _ | apply Drawn0.step)⟩
/-! ### spec_l02Numbers: function 87 -/
def spec_l02Numbers.f (a0_0 : Int) (a0_1 : Int) (a0_2 : Int) (a0_3 : Int) : Option (List Int) := some (([a0_0, a0_1, a0_2, a0_3] : List Int))
set_option maxHeartbeats 8000000 in
set_option maxRecDepth 100000 in
theorem spec_l02Numbers.calls (a0_0 : Int) (a0_1 : Int) (a0_2 : Int) (a0_3 : Int) (r : List Int) (w : World) (h : spec_l02Numbers.f a0_0 a0_1 a0_2 a0_3 = some r) :
  Calls Try.prog 87 #[.agg #[.int .i64 a0_0, .int .i64 a0_1, .int .i64 a0_2, .int .i64 a0_3]] w fun e w' => ∃ v0_ : Value, e = .returned (v0_) ∧ Kd.R (Kd.int .i64) 2 w' w.heap.size (fun _ => True) v0_ r ∧ Below w.heap.size w w' := by
 have hu40 := Try.underlying40
 have HB := asd (Below.refl w.heap.size w)
 have H : (some (([a0_0, a0_1, a0_2, a0_3] : List Int))) = some r := h
 clear h
 obtain ⟨y201, hy201⟩ : ∃ y_ : List Int, y_ = (([a0_0, a0_1, a0_2, a0_3] : List Int)) := ⟨_, rfl⟩
 replace H : (some y201) = some r := by first | (rw [hy201]; with_reducible exact H) | (have H2_ := (Option.bind_some _ _).symm.trans H; rw [hy201]; with_reducible exact H2_) | (have H2_ := (Option.bind_some _ _).symm.trans H; with_reducible exact H2_) | with_reducible exact H | (rw [hy201]; exact H) | exact H
 have Ny201 := Aside0.mk hy201
 clear hy201
 obtain rfl := Option.some.inj H
 go_enter Try.func87, Try.ntmps87
 go_wp2_with (first | ((with_reducible refine gd 1 rfl ?_); refine bx #[.int .i64 a0_0, .int .i64 a0_1, .int .i64 a0_2, .int .i64 a0_3] 40 ?_; intro gb200 hg w2 BK200 hb; have GE200 := ngw0 hg HB; replace HB := bS0 HB hb; clear hb hg; obtain ⟨hcz3_0, hcz3_1, hcz3_2, hcz3_3, hfz3_0, hfz3_1, hfz3_2, hfz3_3⟩ := bz4 BK200) | ((with_reducible refine gd 11 rfl ?_); refine Kd.R_lit (Kd.int .i64) _ 2 ?hg (N := 11) ?hd (xs := ([a0_0, a0_1, a0_2, a0_3] : List Int)) (inner := [.int .i64 a0_0, .int .i64 a0_1, .int .i64 a0_2, .int .i64 a0_3]) (ok := fun _ => True) (okp := fun _ => True) ?hr ?hp (fun _ hk => hk) trivial (Below.refl _ _) (Nat.le_refl _) (by simp) ?_; (case hd => rfl); (case hg => rfl); (case hr => first | (go_simp; done) | (go_simp; rfl)); (case hp => exact (Reps.one (show Kd.M (Kd.int .i64) _ _ _ a0_0 [.int .i64 a0_0] from rfl) (Reps.one (show Kd.M (Kd.int .i64) _ _ _ a0_1 [.int .i64 a0_1] from rfl) (Reps.one (show Kd.M (Kd.int .i64) _ _ _ a0_2 [.int .i64 a0_2] from rfl) (Reps.one (show Kd.M (Kd.int .i64) _ _ _ a0_3 [.int .i64 a0_3] from rfl) (Reps.none _ _)))))); intro v202 w4 ho5 hb hg_ hnew_; clear hg_ hnew_; (first | rw [← Ny201.out] at ho5 | (simp only [Int.reduceToNat] at ho5; rw [← Ny201.out] at ho5)); have HO203 := asd (Kd.R_lower ho5 (bsz1 HB GE200)); replace BK200 := bB BK200 hb; replace HB := bS1 HB GE200 hb; clear hb ho5))
 go_ret
 exact ⟨_, by first | rfl | (simp [errW_none, errW_some] <;> rfl) | (simp [*, errW_none, errW_some] <;> rfl), by (with_reducible repeat (first | apply Kd.R_alloc | apply Kd.R_drewN | apply Kd.R_drew)); exact HO203.out, bbw1 HB GE200⟩
/-! ### spec_l02Less: function 67 -/
def spec_l02Less.f (k : Nat) (a0_0 : Int) (a0_1 : Int) (a0_2 : Int) (a0_3 : Int) (a1_0 : Int) (a1_1 : Int) (a1_2 : Int) (a1_3 : Int) : Option (Bool) := (spec_l02Numbers.f a0_0 a0_1 a0_2 a0_3).bind fun t206 => ((spec_l02Numbers.f a1_0 a1_1 a1_2 a1_3).bind fun t209 => ((spec_l01LessList.f k t206 t209).bind fun t212 => (some t212)))
set_option maxHeartbeats 8000000 in
set_option maxRecDepth 100000 in
theorem spec_l02Less.calls (k : Nat) (a0_0 : Int) (a0_1 : Int) (a0_2 : Int) (a0_3 : Int) (a1_0 : Int) (a1_1 : Int) (a1_2 : Int) (a1_3 : Int) (r : Bool) (w : World) (h : spec_l02Less.f k a0_0 a0_1 a0_2 a0_3 a1_0 a1_1 a1_2 a1_3 = some r) :
  Calls Try.prog 67 #[.agg #[.int .i64 a0_0, .int .i64 a0_1, .int .i64 a0_2, .int .i64 a0_3], .agg #[.int .i64 a1_0, .int .i64 a1_1, .int .i64 a1_2, .int .i64 a1_3]] w fun e w' => e = .returned (.bool r) ∧ Below w.heap.size w w' := by
 have hu40 := Try.underlying40
 have HB := asd (Below.refl w.heap.size w)
 have H : ((spec_l02Numbers.f a0_0 a0_1 a0_2 a0_3).bind fun t206 => ((spec_l02Numbers.f a1_0 a1_1 a1_2 a1_3).bind fun t209 => ((spec_l01LessList.f k t206 t209).bind fun t212 => (some t212)))) = some r := h
 clear h
 obtain ⟨t206, A3, H⟩ := ob H
 try dsimp only at H
 obtain ⟨t209, A4, H⟩ := ob H
 try dsimp only at H
 obtain ⟨t212, A5, H⟩ := ob H
 try dsimp only at H
 obtain rfl := Option.some.inj H
 go_enter Try.func67, Try.ntmps67
 try go_wp2_with (first | ((with_reducible refine gd 2 rfl ?_); refine bx #[.int .i64 a0_0, .int .i64 a0_1, .int .i64 a0_2, .int .i64 a0_3] 40 ?_; intro gb204 hg w6 BK204 hb; have GE204 := ngw0 hg HB; replace HB := bS0 HB hb; clear hb hg) | ((with_reducible refine gd 3 rfl ?_); refine bx #[.int .i64 a1_0, .int .i64 a1_1, .int .i64 a1_2, .int .i64 a1_3] 40 ?_; intro gb205 hg w7 BK205 hb; have GE205 := ngw1 hg HB GE204; replace HB := bS1 HB GE204 hb; have NB204_205 := nlt hg BK204; have NB205_204 := nsy (nlt hg BK204); replace BK204 := bB BK204 hb; clear hb hg))
 replace BK204 := asd (blk_drew BK204.out)
 replace BK205 := asd (blk_drew BK205.out)
 replace HB := asd (below_drew1 HB.out)
 refine sh 6 (cb4 BK204 (eb4 BK205)) (fun hHeld => ?_)
 generalize w7.drew = w8 at BK204 BK205 HB hHeld ⊢
 refine take_ (i := 0) (N := some 5) (v := ?_) (a' := ?_) (bT 6 1) rfl rfl (by kernel_rfl) (fun _ _ _ h => h) (Or.inl ⟨by rfl, ?_⟩) hHeld ?_ ?_
 rotate_left
 ·rintro w' ⟨s0, s1, s2, s3, s4, s5, s6, s7⟩
  go_simp
  with_reducible rfl
 rotate_left
 ·simp only [Act.put, sA, sB, sC, i64_w, i32_w]
  rfl
 refine take_ (i := 2) (N := some 7) (v := ?_) (a' := ?_) (bs 6 5) rfl rfl (by kernel_rfl) (fun _ _ _ h => h) (Or.inl ⟨by rfl, ?_⟩) hHeld ?_ ?_
 rotate_left
 ·rintro w' ⟨s0, s1, s2, s3, s4, s5, s6, s7⟩
  go_simp
  with_reducible rfl
 rotate_left
 ·simp only [Act.put, sA, sB, sC, i64_w, i32_w]
  rfl
 refine one_ (i := 1) (N := some 6) (bT 6 3) rfl rfl (by kernel_rfl) (by decide) (fun K hK => ?_)
 refine gs Try.func87 #[.agg #[.int .i64 a0_0, .int .i64 a0_1, .int .i64 a0_2, .int .i64 a0_3]] ?_
 with_reducible refine (spec_l02Numbers.calls _ _ _ _ _ _ A3.out).mono ?_
 rintro e w9 ⟨v207, rfl, ho0, hb⟩
 refine ⟨_, rfl, ?_⟩
 have HO208 := asd (Kd.R_lower ho0 (bsz2 HB GE204 GE205))
 replace BK204 := bB BK204 hb
 replace BK205 := bB BK205 hb
 replace HB := bS2 HB GE204 GE205 hb
 (try clear hb)
 (try clear hb2)
 (try clear hk)
 (try clear hi)
 (try clear ho0)
 refine hK.out _ _ (cb4 BK204 (eb4 BK205)).out (fun hHeld => ?_)
 clear hK K
 refine norm_ (a' := ?_) ?_ ?_
 rotate_left
 ·show Act.put _ (some 6) _ = _
  simp only [Act.put, sA, sB, sC, i64_w, i32_w]
  rfl
 refine one_ (i := 3) (N := some 8) (bT 6 4) rfl rfl (by kernel_rfl) (by decide) (fun K hK => ?_)
 refine gs Try.func87 #[.agg #[.int .i64 a1_0, .int .i64 a1_1, .int .i64 a1_2, .int .i64 a1_3]] ?_
 with_reducible refine (spec_l02Numbers.calls _ _ _ _ _ _ A4.out).mono ?_
 rintro e w10 ⟨v210, rfl, ho0, hb⟩
 refine ⟨_, rfl, ?_⟩
 have HO211 := asd (Kd.R_lower (Kd.R_new' ho0 (Kd.R_lt (kr HO208))) (bsz2 HB GE204 GE205))
 replace HO208 := asd (Kd.R_elder' (kr HO208) (Kd.R_base ho0) hb)
 replace BK204 := bB BK204 hb
 replace BK205 := bB BK205 hb
 replace HB := bS2 HB GE204 GE205 hb
 (try clear hb)
 (try clear hb2)
 (try clear hk)
 (try clear hi)
 (try clear ho0)
 obtain ⟨Ao11, co11, eo11⟩ := Kd.R_slice HO208.out
 (first | subst eo11 | (injection eo11 with f1_ f2_ f3_; have f4_ := f1_.symm; have f5_ := f3_.symm; clear f1_ f2_ f3_; subst f4_; subst f5_))
 obtain ⟨Ao12, co12, eo12⟩ := Kd.R_slice HO211.out
 (first | subst eo12 | (injection eo12 with f1_ f2_ f3_; have f4_ := f1_.symm; have f5_ := f3_.symm; clear f1_ f2_ f3_; subst f4_; subst f5_))
 refine hK.out _ _ (cb4 BK204 (eb4 BK205)).out (fun hHeld => ?_)
 clear hK K
 refine norm_ (a' := ?_) ?_ ?_
 rotate_left
 ·show Act.put _ (some 8) _ = _
  simp only [Act.put, sA, sB, sC, i64_w, i32_w]
  rfl
 refine one_ (i := 4) (N := some 9) (bT 6 5) rfl rfl (by kernel_rfl) (by decide) (fun K hK => ?_)
 refine gs Try.func86 #[.slice Ao11 t206.length co11, .slice Ao12 t209.length co12] ?_
 with_reducible refine (spec_l01LessList.calls _ _ _ _ _ _ _ _ _ ?side1 ?side2 ?side3 ?side4 A5.out).mono ?_
 (case side1 => exact ks (Kd.R_reads' HO208.out).2.2)
 (case side2 => exact (Kd.R_reads' HO208.out).2.1)
 (case side3 => exact ks (Kd.R_reads' HO211.out).2.2)
 (case side4 => exact (Kd.R_reads' HO211.out).2.1)
 rintro e w' ⟨rfl, ⟨nd, rfl⟩⟩
 refine ⟨_, rfl, ?_⟩
 refine hK.out _ _ (cb4 BK204 (eb4 BK205)).out (fun hHeld => ?_)
 clear hK K
 refine norm_ (a' := ?_) ?_ ?_
 rotate_left
 ·show Act.put _ (some 9) _ = _
  simp only [Act.put, sA, sB, sC, i64_w, i32_w]
  rfl
 refine pure_ (i := 5) (N := some 4) (v := ?_) (a' := ?_) (bT 6 6) rfl rfl (by kernel_rfl) (fun _ _ _ h => h) (Or.inl ⟨by rfl, ?_⟩) ?_ ?_
 rotate_left
 ·intro w'
  go_simp
  with_reducible rfl
 rotate_left
 ·simp only [Act.put, sA, sB, sC, i64_w, i32_w]
  rfl
 refine done_ (by kernel_rfl) ?_
 try go_wp2
 go_ret
 exact er (bbw2 HB GE204 GE205)
/-! ### spec_l05Less: function 44 -/
def spec_l05Less.f (k : Nat) (a0_0 : Int) (a0_1 : Int) (a0_2 : Int) (a0_3 : Int) (a0_4 : Int) (a0_5 : Int) (a1_0 : Int) (a1_1 : Int) (a1_2 : Int) (a1_3 : Int) (a1_4 : Int) (a1_5 : Int) : Option (Bool) := if (!(a0_0 == a1_0) || (!(a0_1 == a1_1) || (!(a0_2 == a1_2) || (!(a0_3 == a1_3))))) = true then ((spec_l02Less.f k a0_0 a0_1 a0_2 a0_3 a1_0 a1_1 a1_2 a1_3).bind fun t215 => (some t215)) else ((spec_l01Less.f a0_4 a0_5 a1_4 a1_5).bind fun t216 => (some t216))
set_option maxHeartbeats 8000000 in
set_option maxRecDepth 100000 in
theorem spec_l05Less.calls (k : Nat) (a0_0 : Int) (a0_1 : Int) (a0_2 : Int) (a0_3 : Int) (a0_4 : Int) (a0_5 : Int) (a1_0 : Int) (a1_1 : Int) (a1_2 : Int) (a1_3 : Int) (a1_4 : Int) (a1_5 : Int) (r : Bool) (w : World) (h : spec_l05Less.f k a0_0 a0_1 a0_2 a0_3 a0_4 a0_5 a1_0 a1_1 a1_2 a1_3 a1_4 a1_5 = some r) :
  Calls Try.prog 44 #[.agg #[.int .i64 a0_0, .int .i64 a0_1, .int .i64 a0_2, .int .i64 a0_3, .int .i64 a0_4, .int .i64 a0_5], .agg #[.int .i64 a1_0, .int .i64 a1_1, .int .i64 a1_2, .int .i64 a1_3, .int .i64 a1_4, .int .i64 a1_5]] w fun e w' => e = .returned (.bool r) ∧ Below w.heap.size w w' := by
 have hu44 := Try.underlying44
 have hu40 := Try.underlying40
 have hu42 := Try.underlying42
 have HB := asd (Below.refl w.heap.size w)
 have H : (if (!(a0_0 == a1_0) || (!(a0_1 == a1_1) || (!(a0_2 == a1_2) || (!(a0_3 == a1_3))))) = true then ((spec_l02Less.f k a0_0 a0_1 a0_2 a0_3 a1_0 a1_1 a1_2 a1_3).bind fun t215 => (some t215)) else ((spec_l01Less.f a0_4 a0_5 a1_4 a1_5).bind fun t216 => (some t216))) = some r := h
 clear h
 by_cases c3 : (!(a0_0 == a1_0) || (!(a0_1 == a1_1) || (!(a0_2 == a1_2) || (!(a0_3 == a1_3))))) = true
 rw [if_pos c3] at H
 have c3b0 := c3
 clear c3
 obtain ⟨t215, A4, H⟩ := ob H
 try dsimp only at H
 obtain rfl := Option.some.inj H
 rotate_left
 rw [if_neg c3] at H
 have c3b0 : (!(a0_0 == a1_0) || (!(a0_1 == a1_1) || (!(a0_2 == a1_2) || (!(a0_3 == a1_3))))) = false := by simpa using c3
 clear c3
 obtain ⟨t216, A11, H⟩ := ob H
 try dsimp only at H
 obtain rfl := Option.some.inj H
 rotate_left
 all_goals
  go_enter Try.func44, Try.ntmps44
  go_wp2_with (first | ((with_reducible refine gd 2 rfl ?_); refine bx #[.int .i64 a0_0, .int .i64 a0_1, .int .i64 a0_2, .int .i64 a0_3, .int .i64 a0_4, .int .i64 a0_5] 44 ?_; intro gb213 hg w5 BK213 hb; have GE213 := ngw0 hg HB; replace HB := bS0 HB hb; clear hb hg) | ((with_reducible refine gd 3 rfl ?_); refine bx #[.int .i64 a1_0, .int .i64 a1_1, .int .i64 a1_2, .int .i64 a1_3, .int .i64 a1_4, .int .i64 a1_5] 44 ?_; intro gb214 hg w6 BK214 hb; have GE214 := ngw1 hg HB GE213; replace HB := bS1 HB GE213 hb; have NB213_214 := nlt hg BK213; have NB214_213 := nsy (nlt hg BK213); replace BK213 := bB BK213 hb; clear hb hg; have hnb7 := NB213_214.out; have hnc7 := NB214_213.out; obtain ⟨hcz8_0, hcz8_1, hcz8_2, hcz8_3, hcz8_4, hcz8_5, hfz8_0, hfz8_1, hfz8_2, hfz8_3, hfz8_4, hfz8_5⟩ := bz6 BK213; obtain ⟨hcz9_0, hcz9_1, hcz9_2, hcz9_3, hcz9_4, hcz9_5, hfz9_0, hfz9_1, hfz9_2, hfz9_3, hfz9_4, hfz9_5⟩ := bz6 BK214) | ((with_reducible refine gate_callee (f := 67) rfl ?_); refine gl 14 Try.func67 #[.agg #[.int .i64 a0_0, .int .i64 a0_1, .int .i64 a0_2, .int .i64 a0_3], .agg #[.int .i64 a1_0, .int .i64 a1_1, .int .i64 a1_2, .int .i64 a1_3]] ?_; (with_reducible refine (spec_l02Less.calls _ _ _ _ _ _ _ _ _ _ _ A4.out).mono ?_); rintro e w10 ⟨rfl, hb⟩; refine ⟨_, rfl, ?_⟩; replace BK213 := bB BK213 hb; replace BK214 := bB BK214 hb; replace HB := bS2 HB GE213 GE214 hb; (try clear hb)) | ((with_reducible refine gate_callee (f := 51) rfl ?_); refine gl 19 Try.func51 #[.agg #[.int .i64 a0_4, .int .i64 a0_5], .agg #[.int .i64 a1_4, .int .i64 a1_5]] ?_; (with_reducible refine (spec_l01Less.calls _ _ _ _ _ _ A11.out).mono ?_); rintro e w17 ⟨rfl, hb⟩; refine ⟨_, rfl, ?_⟩; replace BK213 := bB BK213 hb; replace BK214 := bB BK214 hb; replace HB := bS2 HB GE213 GE214 hb; (try clear hb)))
  go_ret
  exact er (bbw2 HB GE213 GE214)

attribute [local go_sem high] eqA44
/-! ### spec_l06Place: function 68 -/
def spec_l06Place.l0 : Nat → List (S44) → Int → Int → Int → Int → Int → Int → Int → Int → Option (Int)
 | 0, _, _, _, _, _, _, _, _, _ => none
 | k + 1, x0, x5, x6, x218000, x218001, x218002, x218003, x218004, x218005 => if x5 < x6 then (if 0 ≤ (wrap64 (Int.tdiv (wrap64 (x5 + x6)) 2)) then (if (wrap64 (Int.tdiv (wrap64 (x5 + x6)) 2)) < (x0.length : Int) then ((spec_l05Less.f k ((rd_T44 x0 (wrap64 (Int.tdiv (wrap64 (x5 + x6)) 2))).f0.f0) ((rd_T44 x0 (wrap64 (Int.tdiv (wrap64 (x5 + x6)) 2))).f0.f1) ((rd_T44 x0 (wrap64 (Int.tdiv (wrap64 (x5 + x6)) 2))).f0.f2) ((rd_T44 x0 (wrap64 (Int.tdiv (wrap64 (x5 + x6)) 2))).f0.f3) ((rd_T44 x0 (wrap64 (Int.tdiv (wrap64 (x5 + x6)) 2))).f1.f0) ((rd_T44 x0 (wrap64 (Int.tdiv (wrap64 (x5 + x6)) 2))).f1.f1) x218000 x218001 x218002 x218003 x218004 x218005).bind fun t219 => (if t219 = true then (spec_l06Place.l0 k x0 (wrap64 ((wrap64 (Int.tdiv (wrap64 (x5 + x6)) 2)) + 1)) x6 x218000 x218001 x218002 x218003 x218004 x218005) else (spec_l06Place.l0 k x0 x5 (wrap64 (Int.tdiv (wrap64 (x5 + x6)) 2)) x218000 x218001 x218002 x218003 x218004 x218005))) else (none)) else (none)) else (some x5)
def spec_l06Place.f (k : Nat) (l0 : List (S44)) (a1_0 : Int) (a1_1 : Int) (a1_2 : Int) (a1_3 : Int) (a1_4 : Int) (a1_5 : Int) : Option (Int) := spec_l06Place.l0 k l0 0 (l0.length : Int) a1_0 a1_1 a1_2 a1_3 a1_4 a1_5
set_option maxHeartbeats 8000000 in
set_option maxRecDepth 100000 in
theorem spec_l06Place.calls (k : Nat) (A0 : Option Addr) (c0 : Nat) (l0 : List (S44)) (a1_0 : Int) (a1_1 : Int) (a1_2 : Int) (a1_3 : Int) (a1_4 : Int) (a1_5 : Int) (r : Int) (w : World) (hr0 : Kd.C k44 w A0 l0.length l0) (hc0 : l0.length ≤ c0) (h : spec_l06Place.f k l0 a1_0 a1_1 a1_2 a1_3 a1_4 a1_5 = some r) :
  Calls Try.prog 68 #[.slice A0 l0.length c0, .agg #[.int .i64 a1_0, .int .i64 a1_1, .int .i64 a1_2, .int .i64 a1_3, .int .i64 a1_4, .int .i64 a1_5]] w fun e w' => e = .returned (.int .i64 r) ∧ Below w.heap.size w w' := by
 have hu44 := Try.underlying44
 have HR0 := Aside0.mk hr0
 have HC0 := Aside0.mk hc0
 clear hr0 hc0
 have HB := asd (Below.refl w.heap.size w)
 have H : (spec_l06Place.l0 k l0 0 (l0.length : Int) a1_0 a1_1 a1_2 a1_3 a1_4 a1_5) = some r := h
 clear h
 have H' := Aside0.mk H
 clear H
 go_enter Try.func68, Try.ntmps68
 go_wp2_with (first | ((with_reducible refine gd 3 rfl ?_); refine bx #[.int .i64 a1_0, .int .i64 a1_1, .int .i64 a1_2, .int .i64 a1_3, .int .i64 a1_4, .int .i64 a1_5] 44 ?_; intro gb217 hg w3 BK217 hb; have GE217 := ngw0 hg HB; replace HB := bS0 HB hb; clear hb hg))
 go_loopg [5, 6] k (fun kq v5 v6 w' => ∃ (x5_1 : Int) (x6_1 : Int), v5 = .int .i64 x5_1 ∧ v6 = .int .i64 x6_1 ∧ Aside0 (spec_l06Place.l0 kq l0 x5_1 x6_1 a1_0 a1_1 a1_2 a1_3 a1_4 a1_5 = some r) ∧ Aside0 (kq ≤ k) ∧ Aside0 (w'.heap[gb217]? = some (.cells #[.int .i64 a1_0, .int .i64 a1_1, .int .i64 a1_2, .int .i64 a1_3, .int .i64 a1_4, .int .i64 a1_5] 44 (0, 0))) ∧ Aside0 (Below w.heap.size w w'))
 case atStart => exact ⟨(0), ((l0.length : Int)), (by first | rfl | (simp; done) | (simp [*]; done)), (by first | rfl | (simp; done) | (simp [*]; done)), H', ⟨Nat.le_refl _⟩, ⟨bkp BK217⟩, ⟨bbw1 HB GE217⟩⟩
 case round =>
  clear H'
  try clear p2
  obtain ⟨x5_1, x6_1, rfl, rfl, HA, HK1, BK217, HB⟩ := hrel
  cases gk with
  | zero => exact absurd HA.out (by simp [spec_l06Place.l0])
  | succ k1 =>
   have H := HA.out
   clear HA
   simp only [spec_l06Place.l0] at H
   by_cases c4 : x5_1 < x6_1
   rw [if_pos c4] at H
   have c4b0 := decide_eq_true c4
   clear c4
   obtain ⟨ji5, hji5⟩ : ∃ j_ : Int, (wrap64 (Int.tdiv (wrap64 (x5_1 + x6_1)) 2)) = j_ := ⟨_, rfl⟩
   replace H : (if 0 ≤ (ji5) then (if (ji5) < (l0.length : Int) then ((spec_l05Less.f k1 ((rd_T44 l0 (ji5)).f0.f0) ((rd_T44 l0 (ji5)).f0.f1) ((rd_T44 l0 (ji5)).f0.f2) ((rd_T44 l0 (ji5)).f0.f3) ((rd_T44 l0 (ji5)).f1.f0) ((rd_T44 l0 (ji5)).f1.f1) a1_0 a1_1 a1_2 a1_3 a1_4 a1_5).bind fun t219 => (if t219 = true then (spec_l06Place.l0 k1 l0 (wrap64 ((ji5) + 1)) x6_1 a1_0 a1_1 a1_2 a1_3 a1_4 a1_5) else (spec_l06Place.l0 k1 l0 x5_1 ji5 a1_0 a1_1 a1_2 a1_3 a1_4 a1_5))) else (none)) else (none)) = some r := by first | (rw [hji5] at H; first | done | exact H) | (simp only [hji5] at H ⊢; exact H)
   have hji5w : (IntKind.i64.wrap (Int.tdiv (wrap64 (x5_1 + x6_1)) 2)) = ji5 := (i64_w _).trans hji5
   have hji5x : (IntKind.i64.wrap (Int.tdiv (IntKind.i64.wrap (x5_1 + x6_1)) 2)) = ji5 := by simp only [i64_w]; exact hji5
   by_cases c6 : 0 ≤ (ji5)
   rw [if_pos c6] at H
   have c6b0 := decide_eq_true c6
   clear c6
   by_cases c7 : (ji5) < (l0.length : Int)
   rw [if_pos c7] at H
   have c7b0 := decide_eq_true c7
   clear c7
   obtain ⟨t219, A8, H⟩ := ob H
   try dsimp only at H
   by_cases c9 : t219 = true
   subst c9
   replace H := ifT H
   have H' := Aside0.mk H
   clear H
   rotate_left
   replace c9 := Bool.eq_false_iff.mpr c9
   subst c9
   replace H := ifF H
   have H' := Aside0.mk H
   clear H
   rotate_left
   ·rw [if_neg c7] at H
    exact absurd H (by simp)
   ·rw [if_neg c6] at H
    exact absurd H (by simp)
   rw [if_neg c4] at H
   have c4b0 := decide_eq_false c4
   clear c4
   obtain rfl := Option.some.inj H
   rotate_left
   rotate_left 2
   ·go_wp2
    go_ret
    exact er (bbw1 HB GE217)
   all_goals
    try go_wp2
    replace BK217 := asd (blk_drew BK217.out)
    replace HB := asd (below_drew1 HB.out)
    obtain ⟨p218, q218, ad218, e218, hw218_0, hw218_1, hw218_2, hw218_3, hw218_4, hw218_5, hx218_0, hx218_1, hx218_2, hx218_3, hx218_4, hx218_5⟩ := at_T44w HR0.out HB (ji5)
    cases e218
    refine sh 6 (cb6 BK217 (ex6 HB hw218_0 hw218_1 hw218_2 hw218_3 hw218_4 hw218_5)) (fun hHeld => ?_)
    generalize wr.drew = w10 at BK217 HB hx218_0 hx218_1 hx218_2 hx218_3 hx218_4 hx218_5 hHeld ⊢
    refine pure_ (i := 0) (N := some 17) (v := ?_) (a' := ?_) (bT 6 1) rfl rfl (by kernel_rfl) (fun _ _ _ h => h) (Or.inl ⟨by rfl, ?_⟩) ?_ ?_
    rotate_left
    ·intro w'
     go_simp
     with_reducible rfl
    rotate_left
    ·simp only [Act.put, sA, sB, sC, i64_w, i32_w]
     rfl
    refine pure_ (i := 1) (N := some 18) (v := ?_) (a' := ?_) (bT 6 2) rfl rfl (by kernel_rfl) (fun _ _ _ h => h) (Or.inl ⟨by rfl, ?_⟩) ?_ ?_
    rotate_left
    ·intro w'
     go_simp
     with_reducible rfl
    rotate_left
    ·simp only [Act.put, sA, sB, sC, i64_w, i32_w]
     rfl
    refine pure_ (i := 2) (N := some 19) (v := ?_) (a' := ?_) (bT 6 3) rfl rfl (by kernel_rfl) (fun _ _ _ h => h) (Or.inl ⟨by rfl, ?_⟩) ?_ ?_
    rotate_left
    ·intro w'
     go_simp
     with_reducible rfl
    rotate_left
    ·simp only [Act.put, sA, sB, sC, i64_w, i32_w]
     rfl
    refine take_ (i := 3) (N := some 20) (v := ?_) (a' := ?_) (bT 6 4) rfl rfl (by kernel_rfl) (fun _ _ _ h => h) (Or.inl ⟨by rfl, ?_⟩) hHeld ?_ ?_
    rotate_left
    ·rintro w' ⟨s0, s1, s2, s3, s4, s5, s6, s7, s8, s9, s10, s11⟩
     go_simp
     with_reducible rfl
    rotate_left
    ·simp only [Act.put, sA, sB, sC, i64_w, i32_w]
     rfl
    refine take_ (i := 4) (N := some 21) (v := ?_) (a' := ?_) (bT 6 5) rfl rfl (by kernel_rfl) (fun _ _ _ h => h) (Or.inl ⟨by rfl, ?_⟩) hHeld ?_ ?_
    rotate_left
    ·rintro w' ⟨s0, s1, s2, s3, s4, s5, s6, s7, s8, s9, s10, s11⟩
     go_simp
     with_reducible rfl
    rotate_left
    ·simp only [Act.put, sA, sB, sC, i64_w, i32_w]
     rfl
    refine one_ (i := 5) (N := some 22) (bT 6 6) rfl rfl (by kernel_rfl) (by decide) (fun K hK => ?_)
    refine goes_ Try.func44 (by kernel_rfl) rfl #[.agg #[.int .i64 ((rd_T44 l0 (ji5)).f0.f0), .int .i64 ((rd_T44 l0 (ji5)).f0.f1), .int .i64 ((rd_T44 l0 (ji5)).f0.f2), .int .i64 ((rd_T44 l0 (ji5)).f0.f3), .int .i64 ((rd_T44 l0 (ji5)).f1.f0), .int .i64 ((rd_T44 l0 (ji5)).f1.f1)], .agg #[.int .i64 a1_0, .int .i64 a1_1, .int .i64 a1_2, .int .i64 a1_3, .int .i64 a1_4, .int .i64 a1_5]] (by rfl) rfl rfl (by (try simp only [List.map_toArray, List.map_cons, List.map_nil]); first | done | (simp only [hji5]; rfl) | rfl | (simp only [List.length_drop, List.length_take]; rfl)) ?_
    with_reducible refine (spec_l05Less.calls _ _ _ _ _ _ _ _ _ _ _ _ _ _ _ A8.out).mono ?_
    rintro e w11 ⟨rfl, hb⟩
    refine ⟨_, rfl, ?_⟩
    replace BK217 := bB BK217 hb
    replace HB := bS1 HB GE217 hb
    (try clear hb)
    (try clear hb2)
    (try clear hk)
    (try clear hi)
    refine hK.out _ _ (cb6 BK217 (ex6 HB hw218_0 hw218_1 hw218_2 hw218_3 hw218_4 hw218_5)).out (fun hHeld => ?_)
    clear hK K
    refine norm_ (a' := ?_) ?_ ?_
    rotate_left
    ·show Act.put _ (some 22) _ = _
     simp only [Act.put, sA, sB, sC, i64_w, i32_w]
     rfl
    refine done_ (by kernel_rfl) ?_
    try go_wp2
    go_roundg k1
    case measure => have := HK1.out; omega
   ·case rel => exact ⟨(wrap64 ((ji5) + 1)), (x6_1), (by first | rfl | (simp; done) | (simp only [← hji5] <;> (first | rfl | simp)) | (simp [*]; done)), (by first | rfl | (simp; done) | (simp [*]; done)), H', ⟨by have := HK1.out; omega⟩, ⟨bkp BK217⟩, ⟨bbw1 HB GE217⟩⟩
   ·case rel => exact ⟨(x5_1), (ji5), (by first | rfl | (simp; done) | (simp [*]; done)), (by first | rfl | (simp; done) | (simp only [← hji5] <;> (first | rfl | simp)) | (simp [*]; done)), H', ⟨by have := HK1.out; omega⟩, ⟨bkp BK217⟩, ⟨bbw1 HB GE217⟩⟩
/-! ### spec_l06Has: function 45 -/
def spec_l06Has.f (k : Nat) (l0 : List (S44)) (a1_0 : Int) (a1_1 : Int) (a1_2 : Int) (a1_3 : Int) (a1_4 : Int) (a1_5 : Int) : Option (Bool) := (spec_l06Place.f k l0 a1_0 a1_1 a1_2 a1_3 a1_4 a1_5).bind fun t221 => (if t221 < (l0.length : Int) then (if 0 ≤ t221 then (some ((((rd_T44 l0 t221).f0.f0) == a1_0 && (((rd_T44 l0 t221).f0.f1) == a1_1 && (((rd_T44 l0 t221).f0.f2) == a1_2 && (((rd_T44 l0 t221).f0.f3) == a1_3)))) && ((((rd_T44 l0 t221).f1.f0) == a1_4 && (((rd_T44 l0 t221).f1.f1) == a1_5))))) else (none)) else (some false))
set_option maxHeartbeats 8000000 in
set_option maxRecDepth 100000 in
theorem spec_l06Has.calls (k : Nat) (A0 : Option Addr) (c0 : Nat) (l0 : List (S44)) (a1_0 : Int) (a1_1 : Int) (a1_2 : Int) (a1_3 : Int) (a1_4 : Int) (a1_5 : Int) (r : Bool) (w : World) (hr0 : Kd.C k44 w A0 l0.length l0) (hc0 : l0.length ≤ c0) (h : spec_l06Has.f k l0 a1_0 a1_1 a1_2 a1_3 a1_4 a1_5 = some r) :
  Calls Try.prog 45 #[.slice A0 l0.length c0, .agg #[.int .i64 a1_0, .int .i64 a1_1, .int .i64 a1_2, .int .i64 a1_3, .int .i64 a1_4, .int .i64 a1_5]] w fun e w' => e = .returned (.bool r) ∧ Below w.heap.size w w' := by
 have hu44 := Try.underlying44
 have HR0 := Aside0.mk hr0
 have HC0 := Aside0.mk hc0
 clear hr0 hc0
 have HB := asd (Below.refl w.heap.size w)
 have H : ((spec_l06Place.f k l0 a1_0 a1_1 a1_2 a1_3 a1_4 a1_5).bind fun t221 => (if t221 < (l0.length : Int) then (if 0 ≤ t221 then (some ((((rd_T44 l0 t221).f0.f0) == a1_0 && (((rd_T44 l0 t221).f0.f1) == a1_1 && (((rd_T44 l0 t221).f0.f2) == a1_2 && (((rd_T44 l0 t221).f0.f3) == a1_3)))) && ((((rd_T44 l0 t221).f1.f0) == a1_4 && (((rd_T44 l0 t221).f1.f1) == a1_5))))) else (none)) else (some false))) = some r := h
 clear h
 obtain ⟨t221, A3, H⟩ := ob H
 try dsimp only at H
 by_cases c4 : t221 < (l0.length : Int)
 ·rw [if_pos c4] at H
  have c4b0 := decide_eq_true c4
  clear c4
  by_cases c5 : 0 ≤ t221
  ·rw [if_pos c5] at H
   have c5b0 := decide_eq_true c5
   clear c5
   obtain rfl := Option.some.inj H
   go_enter Try.func45, Try.ntmps45
   go_wp2_with (first | ((with_reducible refine gd 3 rfl ?_); refine bx #[.int .i64 a1_0, .int .i64 a1_1, .int .i64 a1_2, .int .i64 a1_3, .int .i64 a1_4, .int .i64 a1_5] 44 ?_; intro gb220 hg w6 BK220 hb; have GE220 := ngw0 hg HB; replace HB := bS0 HB hb; clear hb hg; obtain ⟨hcz7_0, hcz7_1, hcz7_2, hcz7_3, hcz7_4, hcz7_5, hfz7_0, hfz7_1, hfz7_2, hfz7_3, hfz7_4, hfz7_5⟩ := bz6 BK220) | (go_at_call 68; (with_reducible refine (spec_l06Place.calls _ _ _ _ _ _ _ _ _ _ _ _ ?side1 ?side2 A3.out).mono ?_); (case side1 => exact ks (Kd.C_below HR0.out HB.out)); (case side2 => exact HC0.out); rintro e w8 ⟨rfl, hb⟩; replace BK220 := bB BK220 hb; replace HB := bS1 HB GE220 hb; (try clear hb); obtain ⟨p222, q222, ad222, e222, hx222_0, hx222_1, hx222_2, hx222_3, hx222_4, hx222_5⟩ := at_T44x HR0.out HB t221; cases e222; obtain ⟨hcz9_0, hcz9_1, hcz9_2, hcz9_3, hcz9_4, hcz9_5, hfz9_0, hfz9_1, hfz9_2, hfz9_3, hfz9_4, hfz9_5⟩ := bz6 BK220))
   repeat (go_quiet (first | ((with_reducible refine gd 3 rfl ?_); refine bx #[.int .i64 a1_0, .int .i64 a1_1, .int .i64 a1_2, .int .i64 a1_3, .int .i64 a1_4, .int .i64 a1_5] 44 ?_; intro gb220 hg w6 BK220 hb; have GE220 := ngw0 hg HB; replace HB := bS0 HB hb; clear hb hg; obtain ⟨hcz7_0, hcz7_1, hcz7_2, hcz7_3, hcz7_4, hcz7_5, hfz7_0, hfz7_1, hfz7_2, hfz7_3, hfz7_4, hfz7_5⟩ := bz6 BK220) | (go_at_call 68; (with_reducible refine (spec_l06Place.calls _ _ _ _ _ _ _ _ _ _ _ _ ?side1 ?side2 A3.out).mono ?_); (case side1 => exact ks (Kd.C_below HR0.out HB.out)); (case side2 => exact HC0.out); rintro e w8 ⟨rfl, hb⟩; replace BK220 := bB BK220 hb; replace HB := bS1 HB GE220 hb; (try clear hb); obtain ⟨p222, q222, ad222, e222, hx222_0, hx222_1, hx222_2, hx222_3, hx222_4, hx222_5⟩ := at_T44x HR0.out HB t221; cases e222; obtain ⟨hcz9_0, hcz9_1, hcz9_2, hcz9_3, hcz9_4, hcz9_5, hfz9_0, hfz9_1, hfz9_2, hfz9_3, hfz9_4, hfz9_5⟩ := bz6 BK220)); try go_wp2_with (first | ((with_reducible refine gd 3 rfl ?_); refine bx #[.int .i64 a1_0, .int .i64 a1_1, .int .i64 a1_2, .int .i64 a1_3, .int .i64 a1_4, .int .i64 a1_5] 44 ?_; intro gb220 hg w6 BK220 hb; have GE220 := ngw0 hg HB; replace HB := bS0 HB hb; clear hb hg; obtain ⟨hcz7_0, hcz7_1, hcz7_2, hcz7_3, hcz7_4, hcz7_5, hfz7_0, hfz7_1, hfz7_2, hfz7_3, hfz7_4, hfz7_5⟩ := bz6 BK220) | (go_at_call 68; (with_reducible refine (spec_l06Place.calls _ _ _ _ _ _ _ _ _ _ _ _ ?side1 ?side2 A3.out).mono ?_); (case side1 => exact ks (Kd.C_below HR0.out HB.out)); (case side2 => exact HC0.out); rintro e w8 ⟨rfl, hb⟩; replace BK220 := bB BK220 hb; replace HB := bS1 HB GE220 hb; (try clear hb); obtain ⟨p222, q222, ad222, e222, hx222_0, hx222_1, hx222_2, hx222_3, hx222_4, hx222_5⟩ := at_T44x HR0.out HB t221; cases e222; obtain ⟨hcz9_0, hcz9_1, hcz9_2, hcz9_3, hcz9_4, hcz9_5, hfz9_0, hfz9_1, hfz9_2, hfz9_3, hfz9_4, hfz9_5⟩ := bz6 BK220)))
   go_ret
   exact er (bbw1 HB GE220)
  ·rw [if_neg c5] at H
   exact absurd H (by simp)
 ·rw [if_neg c4] at H
  have c4b0 := decide_eq_false c4
  clear c4
  obtain rfl := Option.some.inj H
  go_enter Try.func45, Try.ntmps45
  go_wp2_with (first | ((with_reducible refine gd 3 rfl ?_); refine bx #[.int .i64 a1_0, .int .i64 a1_1, .int .i64 a1_2, .int .i64 a1_3, .int .i64 a1_4, .int .i64 a1_5] 44 ?_; intro gb220 hg w10 BK220 hb; have GE220 := ngw0 hg HB; replace HB := bS0 HB hb; clear hb hg; obtain ⟨hcz11_0, hcz11_1, hcz11_2, hcz11_3, hcz11_4, hcz11_5, hfz11_0, hfz11_1, hfz11_2, hfz11_3, hfz11_4, hfz11_5⟩ := bz6 BK220) | (go_at_call 68; (with_reducible refine (spec_l06Place.calls _ _ _ _ _ _ _ _ _ _ _ _ ?side1 ?side2 A3.out).mono ?_); (case side1 => exact ks (Kd.C_below HR0.out HB.out)); (case side2 => exact HC0.out); rintro e w12 ⟨rfl, hb⟩; replace BK220 := bB BK220 hb; replace HB := bS1 HB GE220 hb; (try clear hb)))
  repeat (go_quiet (first | ((with_reducible refine gd 3 rfl ?_); refine bx #[.int .i64 a1_0, .int .i64 a1_1, .int .i64 a1_2, .int .i64 a1_3, .int .i64 a1_4, .int .i64 a1_5] 44 ?_; intro gb220 hg w10 BK220 hb; have GE220 := ngw0 hg HB; replace HB := bS0 HB hb; clear hb hg; obtain ⟨hcz11_0, hcz11_1, hcz11_2, hcz11_3, hcz11_4, hcz11_5, hfz11_0, hfz11_1, hfz11_2, hfz11_3, hfz11_4, hfz11_5⟩ := bz6 BK220) | (go_at_call 68; (with_reducible refine (spec_l06Place.calls _ _ _ _ _ _ _ _ _ _ _ _ ?side1 ?side2 A3.out).mono ?_); (case side1 => exact ks (Kd.C_below HR0.out HB.out)); (case side2 => exact HC0.out); rintro e w12 ⟨rfl, hb⟩; replace BK220 := bB BK220 hb; replace HB := bS1 HB GE220 hb; (try clear hb))); try go_wp2_with (first | ((with_reducible refine gd 3 rfl ?_); refine bx #[.int .i64 a1_0, .int .i64 a1_1, .int .i64 a1_2, .int .i64 a1_3, .int .i64 a1_4, .int .i64 a1_5] 44 ?_; intro gb220 hg w10 BK220 hb; have GE220 := ngw0 hg HB; replace HB := bS0 HB hb; clear hb hg; obtain ⟨hcz11_0, hcz11_1, hcz11_2, hcz11_3, hcz11_4, hcz11_5, hfz11_0, hfz11_1, hfz11_2, hfz11_3, hfz11_4, hfz11_5⟩ := bz6 BK220) | (go_at_call 68; (with_reducible refine (spec_l06Place.calls _ _ _ _ _ _ _ _ _ _ _ _ ?side1 ?side2 A3.out).mono ?_); (case side1 => exact ks (Kd.C_below HR0.out HB.out)); (case side2 => exact HC0.out); rintro e w12 ⟨rfl, hb⟩; replace BK220 := bB BK220 hb; replace HB := bS1 HB GE220 hb; (try clear hb))))
  go_ret
  exact er (bbw1 HB GE220)
/-! ### spec_l02Unit: function 48 -/
def spec_l02Unit.f  : Option (Int × Int × Int × Int) := some (1, 0, 0, 1)
set_option maxHeartbeats 8000000 in
set_option maxRecDepth 100000 in
theorem spec_l02Unit.calls  (r1 : Int) (r2 : Int) (r3 : Int) (r4 : Int) (w : World) (h : spec_l02Unit.f  = some (r1, r2, r3, r4)) :
  Calls Try.prog 48 #[] w fun e w' => e = .returned (.agg #[.int .i64 r1, .int .i64 r2, .int .i64 r3, .int .i64 r4]) ∧ Below w.heap.size w w' := by
 have hu40 := Try.underlying40
 have HB := asd (Below.refl w.heap.size w)
 have H : (some (1, 0, 0, 1)) = some (r1, r2, r3, r4) := h
 clear h
 simp only [Option.some.injEq, Prod.mk.injEq] at H
 obtain ⟨rfl, rfl, rfl, rfl⟩ := H
 go_enter Try.func48, Try.ntmps48
 go_wp2_with (first | ((with_reducible refine gd 0 rfl ?_); refine bx #[.int .i64 0, .int .i64 0, .int .i64 0, .int .i64 0] 40 ?_; intro gb223 hg w1 BK223 hb; have GE223 := ngw0 hg HB; replace HB := bS0 HB hb; clear hb hg; obtain ⟨hcz2_0, hcz2_1, hcz2_2, hcz2_3, hfz2_0, hfz2_1, hfz2_2, hfz2_3⟩ := bz4 BK223))
 refine bodyPost_ret (results_cell_row rfl _ _ gb223 40 #[.int .i64 1, .int .i64 0, .int .i64 0, .int .i64 1] (0, 0) _ rfl (bq0 BK223) Try.underlying40 rfl (by kernel_rfl)) rfl ?_
 exact er (bbw1 HB GE223)
/-! ### spec_l06Unit: function 46 -/
def spec_l06Unit.f  : Option (Int × Int × Int × Int × Int × Int) := (spec_l02Unit.f).bind fun bt225 => (some (bt225.1, bt225.2.1, bt225.2.2.1, bt225.2.2.2, 0, 0))
set_option maxHeartbeats 8000000 in
set_option maxRecDepth 100000 in
theorem spec_l06Unit.calls  (r1 : Int) (r2 : Int) (r3 : Int) (r4 : Int) (r5 : Int) (r6 : Int) (w : World) (h : spec_l06Unit.f  = some (r1, r2, r3, r4, r5, r6)) :
  Calls Try.prog 46 #[] w fun e w' => e = .returned (.agg #[.int .i64 r1, .int .i64 r2, .int .i64 r3, .int .i64 r4, .int .i64 r5, .int .i64 r6]) ∧ Below w.heap.size w w' := by
 have hu44 := Try.underlying44
 have HB := asd (Below.refl w.heap.size w)
 have H : ((spec_l02Unit.f).bind fun bt225 => (some (bt225.1, bt225.2.1, bt225.2.2.1, bt225.2.2.2, 0, 0))) = some (r1, r2, r3, r4, r5, r6) := h
 clear h
 obtain ⟨⟨t225, t226, t227, t228⟩, A1, H⟩ := ob H
 try dsimp only at H
 simp only [Option.some.injEq, Prod.mk.injEq] at H
 obtain ⟨rfl, rfl, rfl, rfl, rfl, rfl⟩ := H
 go_enter Try.func46, Try.ntmps46
 go_wp2_with (first | ((with_reducible refine gd 0 rfl ?_); refine bx #[.int .i64 0, .int .i64 0, .int .i64 0, .int .i64 0, .int .i64 0, .int .i64 0] 44 ?_; intro gb224 hg w2 BK224 hb; have GE224 := ngw0 hg HB; replace HB := bS0 HB hb; clear hb hg) | ((with_reducible refine gate_callee (f := 48) rfl ?_); refine gl 1 Try.func48 #[] ?_; (with_reducible refine (spec_l02Unit.calls _ _ _ _ _ A1.out).mono ?_); rintro e w3 ⟨rfl, hb⟩; refine ⟨_, rfl, ?_⟩; replace BK224 := bB BK224 hb; replace HB := bS1 HB GE224 hb; (try clear hb); obtain ⟨hcz4_0, hcz4_1, hcz4_2, hcz4_3, hcz4_4, hcz4_5, hfz4_0, hfz4_1, hfz4_2, hfz4_3, hfz4_4, hfz4_5⟩ := bz6 BK224))
 refine bodyPost_ret (results_cell_row rfl _ _ gb224 44 #[.int .i64 t225, .int .i64 t226, .int .i64 t227, .int .i64 t228, .int .i64 0, .int .i64 0] (0, 0) _ rfl (bq0 BK224) Try.underlying44 rfl (by kernel_rfl)) rfl ?_
 exact er (bbw1 HB GE224)
/-! ### spec_l02Multiply: function 49 -/
def spec_l02Multiply.f (a0_0 : Int) (a0_1 : Int) (a0_2 : Int) (a0_3 : Int) (a1_0 : Int) (a1_1 : Int) (a1_2 : Int) (a1_3 : Int) : Option (Int × Int × Int × Int) := some (wrap64 ((wrap64 (a0_0 * a1_0)) + (wrap64 (a0_1 * a1_2))), wrap64 ((wrap64 (a0_0 * a1_1)) + (wrap64 (a0_1 * a1_3))), wrap64 ((wrap64 (a0_2 * a1_0)) + (wrap64 (a0_3 * a1_2))), wrap64 ((wrap64 (a0_2 * a1_1)) + (wrap64 (a0_3 * a1_3))))
set_option maxHeartbeats 8000000 in
set_option maxRecDepth 100000 in
theorem spec_l02Multiply.calls (a0_0 : Int) (a0_1 : Int) (a0_2 : Int) (a0_3 : Int) (a1_0 : Int) (a1_1 : Int) (a1_2 : Int) (a1_3 : Int) (r1 : Int) (r2 : Int) (r3 : Int) (r4 : Int) (w : World) (h : spec_l02Multiply.f a0_0 a0_1 a0_2 a0_3 a1_0 a1_1 a1_2 a1_3 = some (r1, r2, r3, r4)) :
  Calls Try.prog 49 #[.agg #[.int .i64 a0_0, .int .i64 a0_1, .int .i64 a0_2, .int .i64 a0_3], .agg #[.int .i64 a1_0, .int .i64 a1_1, .int .i64 a1_2, .int .i64 a1_3]] w fun e w' => e = .returned (.agg #[.int .i64 r1, .int .i64 r2, .int .i64 r3, .int .i64 r4]) ∧ Below w.heap.size w w' := by
 have hu40 := Try.underlying40
 have HB := asd (Below.refl w.heap.size w)
 have H : (some (wrap64 ((wrap64 (a0_0 * a1_0)) + (wrap64 (a0_1 * a1_2))), wrap64 ((wrap64 (a0_0 * a1_1)) + (wrap64 (a0_1 * a1_3))), wrap64 ((wrap64 (a0_2 * a1_0)) + (wrap64 (a0_3 * a1_2))), wrap64 ((wrap64 (a0_2 * a1_1)) + (wrap64 (a0_3 * a1_3))))) = some (r1, r2, r3, r4) := h
 clear h
 simp only [Option.some.injEq, Prod.mk.injEq] at H
 obtain ⟨rfl, rfl, rfl, rfl⟩ := H
 go_enter Try.func49, Try.ntmps49
 go_wp2_with (first | ((with_reducible refine gd 2 rfl ?_); refine bx #[.int .i64 a0_0, .int .i64 a0_1, .int .i64 a0_2, .int .i64 a0_3] 40 ?_; intro gb229 hg w3 BK229 hb; have GE229 := ngw0 hg HB; replace HB := bS0 HB hb; clear hb hg) | ((with_reducible refine gd 3 rfl ?_); refine bx #[.int .i64 a1_0, .int .i64 a1_1, .int .i64 a1_2, .int .i64 a1_3] 40 ?_; intro gb230 hg w4 BK230 hb; have GE230 := ngw1 hg HB GE229; replace HB := bS1 HB GE229 hb; have NB229_230 := nlt hg BK229; have NB230_229 := nsy (nlt hg BK229); replace BK229 := bB BK229 hb; clear hb hg) | ((with_reducible refine gd 4 rfl ?_); refine bx #[.int .i64 0, .int .i64 0, .int .i64 0, .int .i64 0] 40 ?_; intro gb231 hg w5 BK231 hb; have GE231 := ngw2 hg HB GE229 GE230; replace HB := bS2 HB GE229 GE230 hb; have NB229_231 := nlt hg BK229; have NB231_229 := nsy (nlt hg BK229); replace BK229 := bB BK229 hb; have NB230_231 := nlt hg BK230; have NB231_230 := nsy (nlt hg BK230); replace BK230 := bB BK230 hb; clear hb hg; have hnb6 := NB229_230.out; have hnc6 := NB230_229.out; have hnb7 := NB229_231.out; have hnc7 := NB231_229.out; obtain ⟨hcz8_0, hcz8_1, hcz8_2, hcz8_3, hfz8_0, hfz8_1, hfz8_2, hfz8_3⟩ := bz4 BK229; have hnb9 := NB230_231.out; have hnc9 := NB231_230.out; obtain ⟨hcz10_0, hcz10_1, hcz10_2, hcz10_3, hfz10_0, hfz10_1, hfz10_2, hfz10_3⟩ := bz4 BK230; obtain ⟨hcz11_0, hcz11_1, hcz11_2, hcz11_3, hfz11_0, hfz11_1, hfz11_2, hfz11_3⟩ := bz4 BK231))
 refine bodyPost_ret (results_cell_row rfl _ _ gb231 40 #[.int .i64 (wrap64 ((wrap64 (a0_0 * a1_0)) + (wrap64 (a0_1 * a1_2)))), .int .i64 (wrap64 ((wrap64 (a0_0 * a1_1)) + (wrap64 (a0_1 * a1_3)))), .int .i64 (wrap64 ((wrap64 (a0_2 * a1_0)) + (wrap64 (a0_3 * a1_2)))), .int .i64 (wrap64 ((wrap64 (a0_2 * a1_1)) + (wrap64 (a0_3 * a1_3))))] (0, 0) _ rfl (bq0 BK231) Try.underlying40 rfl (by kernel_rfl)) rfl ?_
 exact er (bbw3 HB GE229 GE230 GE231)
/-! ### spec_l05Compose: function 47 -/
def spec_l05Compose.f (a0_0 : Int) (a0_1 : Int) (a0_2 : Int) (a0_3 : Int) (a0_4 : Int) (a0_5 : Int) (a1_0 : Int) (a1_1 : Int) (a1_2 : Int) (a1_3 : Int) (a1_4 : Int) (a1_5 : Int) : Option (Int × Int × Int × Int × Int × Int) := (spec_l02Multiply.f a0_0 a0_1 a0_2 a0_3 a1_0 a1_1 a1_2 a1_3).bind fun bt235 => ((spec_l02Apply.f a0_0 a0_1 a0_2 a0_3 a1_4 a1_5).bind fun bt239 => ((spec_l01Add.f bt239.1 bt239.2 a0_4 a0_5).bind fun bt241 => (some (bt235.1, bt235.2.1, bt235.2.2.1, bt235.2.2.2, bt241.1, bt241.2))))
def spec_l05Compose.T1 : Bool × List (List Nat × List Nat) := (true, [([], []), ([0], [0]), ([], []), ([2], [2]), ([1, 3], [1, 3]), ([], []), ([5], [5]), ([], []), ([7], [7]), ([6, 8, 4], [6, 8]), ([], []), ([10], [10]), ([9, 11, 9], [9, 11]), ([4, 12], [4, 12]), ([13, 12, 0, 1, 2, 3, 4, 5, 6, 7, 8, 9, 10, 11, 12, 13], [13])])
def spec_l05Compose.B1 : List Nat := [0, 1, 0, 4, 15, 0, 32, 0, 128, 511, 0, 1024, 4095, 8191, 16383]
theorem spec_l05Compose.tab1 : rtab .any (opsOf Try.f47 1) = spec_l05Compose.T1 := by kernel_rfl
theorem spec_l05Compose.bits1 : waitsOk spec_l05Compose.T1.2 spec_l05Compose.B1 = true := by kernel_rfl
set_option maxHeartbeats 8000000 in
set_option maxRecDepth 100000 in
theorem spec_l05Compose.calls (a0_0 : Int) (a0_1 : Int) (a0_2 : Int) (a0_3 : Int) (a0_4 : Int) (a0_5 : Int) (a1_0 : Int) (a1_1 : Int) (a1_2 : Int) (a1_3 : Int) (a1_4 : Int) (a1_5 : Int) (r1 : Int) (r2 : Int) (r3 : Int) (r4 : Int) (r5 : Int) (r6 : Int) (w : World) (h : spec_l05Compose.f a0_0 a0_1 a0_2 a0_3 a0_4 a0_5 a1_0 a1_1 a1_2 a1_3 a1_4 a1_5 = some (r1, r2, r3, r4, r5, r6)) :
  Calls Try.prog 47 #[.agg #[.int .i64 a0_0, .int .i64 a0_1, .int .i64 a0_2, .int .i64 a0_3, .int .i64 a0_4, .int .i64 a0_5], .agg #[.int .i64 a1_0, .int .i64 a1_1, .int .i64 a1_2, .int .i64 a1_3, .int .i64 a1_4, .int .i64 a1_5]] w fun e w' => e = .returned (.agg #[.int .i64 r1, .int .i64 r2, .int .i64 r3, .int .i64 r4, .int .i64 r5, .int .i64 r6]) ∧ Below w.heap.size w w' := by
 have hu44 := Try.underlying44
 have hu40 := Try.underlying40
 have hu42 := Try.underlying42
 have HB := asd (Below.refl w.heap.size w)
 have H : ((spec_l02Multiply.f a0_0 a0_1 a0_2 a0_3 a1_0 a1_1 a1_2 a1_3).bind fun bt235 => ((spec_l02Apply.f a0_0 a0_1 a0_2 a0_3 a1_4 a1_5).bind fun bt239 => ((spec_l01Add.f bt239.1 bt239.2 a0_4 a0_5).bind fun bt241 => (some (bt235.1, bt235.2.1, bt235.2.2.1, bt235.2.2.2, bt241.1, bt241.2))))) = some (r1, r2, r3, r4, r5, r6) := h
 clear h
 obtain ⟨⟨t235, t236, t237, t238⟩, A3, H⟩ := ob H
 try dsimp only at H
 obtain ⟨⟨t239, t240⟩, A4, H⟩ := ob H
 try dsimp only at H
 obtain ⟨⟨t241, t242⟩, A5, H⟩ := ob H
 try dsimp only at H
 simp only [Option.some.injEq, Prod.mk.injEq] at H
 obtain ⟨rfl, rfl, rfl, rfl, rfl, rfl⟩ := H
 go_enter Try.func47, Try.ntmps47
 try go_wp2_with (first | ((with_reducible refine gd 2 rfl ?_); refine bx #[.int .i64 a0_0, .int .i64 a0_1, .int .i64 a0_2, .int .i64 a0_3, .int .i64 a0_4, .int .i64 a0_5] 44 ?_; intro gb232 hg w6 BK232 hb; have GE232 := ngw0 hg HB; replace HB := bS0 HB hb; clear hb hg) | ((with_reducible refine gd 3 rfl ?_); refine bx #[.int .i64 a1_0, .int .i64 a1_1, .int .i64 a1_2, .int .i64 a1_3, .int .i64 a1_4, .int .i64 a1_5] 44 ?_; intro gb233 hg w7 BK233 hb; have GE233 := ngw1 hg HB GE232; replace HB := bS1 HB GE232 hb; have NB232_233 := nlt hg BK232; have NB233_232 := nsy (nlt hg BK232); replace BK232 := bB BK232 hb; clear hb hg) | ((with_reducible refine gd 4 rfl ?_); refine bx #[.int .i64 0, .int .i64 0, .int .i64 0, .int .i64 0, .int .i64 0, .int .i64 0] 44 ?_; intro gb234 hg w8 BK234 hb; have GE234 := ngw2 hg HB GE232 GE233; replace HB := bS2 HB GE232 GE233 hb; have NB232_234 := nlt hg BK232; have NB234_232 := nsy (nlt hg BK232); replace BK232 := bB BK232 hb; have NB233_234 := nlt hg BK233; have NB234_233 := nsy (nlt hg BK233); replace BK233 := bB BK233 hb; clear hb hg))
 replace BK232 := asd (blk_drew BK232.out)
 replace BK233 := asd (blk_drew BK233.out)
 replace BK234 := asd (blk_drew BK234.out)
 replace HB := asd (below_drew1 HB.out)
 refine sh 15 (cb6 BK232 (eb6 BK233)) (fun hHeld => ?_); refine with_tabW spec_l05Compose.tab1 spec_l05Compose.bits1 (fun HT_ HW_ => ?_)
 generalize w8.drew = w9 at BK232 BK233 BK234 HB hHeld ⊢
 refine pu 0 (some 5) (bT 15 1) HT_ ?_
 refine pu 2 (some 7) (bs 15 5) HT_ ?_
 refine pu 5 (some 10) (bs 15 37) HT_ ?_
 refine pu 7 (some 12) (bs 15 165) HT_ ?_
 refine pu 10 (some 15) (bs 15 1189) HT_ ?_
 refine ta 1 (some 6) (bs 15 1191) HT_ HW_ hHeld ?_
 refine ta 3 (some 8) (bs 15 1199) HT_ HW_ hHeld ?_
 refine ta 6 (some 11) (bs 15 1263) HT_ HW_ hHeld ?_
 refine ta 8 (some 13) (bs 15 1519) HT_ HW_ hHeld ?_
 refine ta 11 (some 16) (bs 15 3567) HT_ HW_ hHeld ?_
 refine ro 4 (some 9) (bs 15 3583) HT_ (fun K hK => ?_)
 refine gs Try.func49 #[.agg #[.int .i64 a0_0, .int .i64 a0_1, .int .i64 a0_2, .int .i64 a0_3], .agg #[.int .i64 a1_0, .int .i64 a1_1, .int .i64 a1_2, .int .i64 a1_3]] ?_
 with_reducible refine (spec_l02Multiply.calls _ _ _ _ _ _ _ _ _ _ _ _ _ A3.out).mono ?_
 rintro e w10 ⟨rfl, hb⟩
 refine ⟨_, rfl, ?_⟩
 replace BK232 := bB BK232 hb
 replace BK233 := bB BK233 hb
 replace BK234 := bB BK234 hb
 replace HB := bS3 HB GE232 GE233 GE234 hb
 (try clear hb)
 (try clear hb2)
 (try clear hk)
 (try clear hi)
 refine hK.out _ _ (cb6 BK232 (eb6 BK233)).out (fun hHeld => ?_)
 clear hK K
 refine norm_ (a' := ?_) ?_ ?_
 rotate_left
 ·show Act.put _ (some 9) _ = _
  simp only [Act.put, sA, sB, sC, i64_w, i32_w]
  rfl
 refine ro 9 (some 14) (bT 15 12) HT_ (fun K hK => ?_)
 refine gs Try.func69 #[.agg #[.int .i64 a0_0, .int .i64 a0_1, .int .i64 a0_2, .int .i64 a0_3], .agg #[.int .i64 a1_4, .int .i64 a1_5]] ?_
 with_reducible refine (spec_l02Apply.calls _ _ _ _ _ _ _ _ _ A4.out).mono ?_
 rintro e w11 ⟨rfl, hb⟩
 refine ⟨_, rfl, ?_⟩
 replace BK232 := bB BK232 hb
 replace BK233 := bB BK233 hb
 replace BK234 := bB BK234 hb
 replace HB := bS3 HB GE232 GE233 GE234 hb
 (try clear hb)
 (try clear hb2)
 (try clear hk)
 (try clear hi)
 refine hK.out _ _ (cb6 BK232 (eb6 BK233)).out (fun hHeld => ?_)
 clear hK K
 refine norm_ (a' := ?_) ?_ ?_
 rotate_left
 ·show Act.put _ (some 14) _ = _
  simp only [Act.put, sA, sB, sC, i64_w, i32_w]
  rfl
 refine ro 12 (some 17) (bT 15 13) HT_ (fun K hK => ?_)
 refine gs Try.func28 #[.agg #[.int .i64 t239, .int .i64 t240], .agg #[.int .i64 a0_4, .int .i64 a0_5]] ?_
 with_reducible refine (spec_l01Add.calls _ _ _ _ _ _ _ A5.out).mono ?_
 rintro e w12 ⟨rfl, hb⟩
 refine ⟨_, rfl, ?_⟩
 replace BK232 := bB BK232 hb
 replace BK233 := bB BK233 hb
 replace BK234 := bB BK234 hb
 replace HB := bS3 HB GE232 GE233 GE234 hb
 (try clear hb)
 (try clear hb2)
 (try clear hk)
 (try clear hi)
 refine hK.out _ _ (cb6 BK232 (eb6 BK233)).out (fun hHeld => ?_)
 clear hK K
 refine norm_ (a' := ?_) ?_ ?_
 rotate_left
 ·show Act.put _ (some 17) _ = _
  simp only [Act.put, sA, sB, sC, i64_w, i32_w]
  rfl
 refine pu 13 (some 18) (bT 15 14) HT_ ?_
 refine ro 14 (none) (bT 15 15) HT_ (fun K hK => ?_)
 have hs13 : w12.cell? ⟨gb234, 0, none⟩ = some (.int .i64 0) := bcl BK234 0
 have hfs13 := blk_frozen BK234.out 0
 have hns13_0 := NB232_234.out
 have hns13_1 := NB233_234.out
 have hms13_0 := NB234_232.out
 have hms13_1 := NB234_233.out
 have hs14 : w12.cell? ⟨gb234, 1, none⟩ = some (.int .i64 0) := bcl BK234 1
 have hfs14 := blk_frozen BK234.out 1
 have hns14_0 := NB232_234.out
 have hns14_1 := NB233_234.out
 have hms14_0 := NB234_232.out
 have hms14_1 := NB234_233.out
 have hs15 : w12.cell? ⟨gb234, 2, none⟩ = some (.int .i64 0) := bcl BK234 2
 have hfs15 := blk_frozen BK234.out 2
 have hns15_0 := NB232_234.out
 have hns15_1 := NB233_234.out
 have hms15_0 := NB234_232.out
 have hms15_1 := NB234_233.out
 have hs16 : w12.cell? ⟨gb234, 3, none⟩ = some (.int .i64 0) := bcl BK234 3
 have hfs16 := blk_frozen BK234.out 3
 have hns16_0 := NB232_234.out
 have hns16_1 := NB233_234.out
 have hms16_0 := NB234_232.out
 have hms16_1 := NB234_233.out
 have hs17 : w12.cell? ⟨gb234, 4, none⟩ = some (.int .i64 0) := bcl BK234 4
 have hfs17 := blk_frozen BK234.out 4
 have hns17_0 := NB232_234.out
 have hns17_1 := NB233_234.out
 have hms17_0 := NB234_232.out
 have hms17_1 := NB234_233.out
 have hs18 : w12.cell? ⟨gb234, 5, none⟩ = some (.int .i64 0) := bcl BK234 5
 have hfs18 := blk_frozen BK234.out 5
 have hns18_0 := NB232_234.out
 have hns18_1 := NB233_234.out
 have hms18_0 := NB234_232.out
 have hms18_1 := NB234_233.out
 refine skip_ (w1 := ?_) (by rfl) rfl ?_ ?_
 rotate_left
 ·go_simp
  rfl
 refine hK.out _ _ ⟨(cf6 NB232_234 (hHeld.1)), (cf6 NB232_234 (hHeld.2.1)), (cf6 NB232_234 (hHeld.2.2.1)), (cf6 NB232_234 (hHeld.2.2.2.1)), (cf6 NB232_234 (hHeld.2.2.2.2.1)), (cf6 NB232_234 (hHeld.2.2.2.2.2.1)), (cf6 NB233_234 (hHeld.2.2.2.2.2.2.1)), (cf6 NB233_234 (hHeld.2.2.2.2.2.2.2.1)), (cf6 NB233_234 (hHeld.2.2.2.2.2.2.2.2.1)), (cf6 NB233_234 (hHeld.2.2.2.2.2.2.2.2.2.1)), (cf6 NB233_234 (hHeld.2.2.2.2.2.2.2.2.2.2.1)), (cf6 NB233_234 (hHeld.2.2.2.2.2.2.2.2.2.2.2))⟩ (fun hHeld => ?_)
 clear hK K
 refine done_ (done_of HT_.out (by kernel_rfl)) ?_
 try go_wp2
 refine bodyPost_ret (results_cell_row rfl _ _ gb234 44 #[.int .i64 t235, .int .i64 t236, .int .i64 t237, .int .i64 t238, .int .i64 t241, .int .i64 t242] (0, 0) _ rfl (bq0 BK234) Try.underlying44 rfl (by kernel_rfl)) rfl ?_
 exact er (bbw3 HB GE232 GE233 GE234)

end Go.Proofs.Ytfmjboloeabjmaa.PA
