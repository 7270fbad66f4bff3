import Derived.Test.YtfmjboloeabjmaaGreatPAx0
import Derived.Test.YtfmjboloeabjmaaGreatPAx3
import Derived.Test.YtfmjboloeabjmaaGreatPAx5
import Derived.Test.YtfmjboloeabjmaaGreatPAx6
import Derived.Test.YtfmjboloeabjmaaGreatPAx7
import Derived.Test.YtfmjboloeabjmaaGreatPAx9
namespace Go.Proofs.YtfmjboloeabjmaaGreat.PA
open Go.RowKit Go.Proofs.YtfmjboloeabjmaaGreatW.PrintWords Go.Proofs.YtfmjboloeabjmaaGreatW.PrintLast Go.Proofs.YtfmjboloeabjmaaGreatW.PrintMore
attribute [local go_sem] max2_int min2_int max_two min_two max_three min_three max_four min_four   -- for this text's walks alone
set_option linter.unusedVariables false
set_option maxHeartbeats 8000000
set_option maxRecDepth 100000
set_option linter.unusedSimpArgs false
mutual
def spec_l04Shortest.l0 : Nat → Int → List (S44) → Int → Int → Int → Int → Int → Option ((List (S44)))
 | 0, _, _, _, _, _, _, _ => none
 | k + 1, x0, x5, x6, x7, Af, Ag, Ah => if x7 < (x5.length : Int) then (if 0 ≤ x7 then ((spec_l04Norm.f x0 ((rd_T44 x5 x7).f0) ((rd_T44 x5 x7).f1)).bind fun Aq => (if Aq > 0 then (if Aq < x6 then ((spec_l03Has.f Af Ag Ah ((rd_T44 x5 x7).f0) ((rd_T44 x5 x7).f1)).bind fun AG => (if AG = true then (spec_l04Shortest.l0 k x0 x5 Aq (wrap64 (x7 + 1)) Af Ag Ah) else (spec_l04Shortest.l0 k x0 x5 x6 (wrap64 (x7 + 1)) Af Ag Ah))) else (spec_l04Shortest.l0 k x0 x5 x6 (wrap64 (x7 + 1)) Af Ag Ah)) else (spec_l04Shortest.l0 k x0 x5 x6 (wrap64 (x7 + 1)) Af Ag Ah))) else (none)) else (spec_l04Shortest.l1 k x0 x5 x6 (([] : List (S44))) 0 Af Ag Ah)
def spec_l04Shortest.l1 : Nat → Int → List (S44) → Int → List (S44) → Int → Int → Int → Int → Option ((List (S44)))
 | 0, _, _, _, _, _, _, _, _ => none
 | k + 1, x0, x5, x6, x9, AB, Af, Ag, Ah => if AB < (x5.length : Int) then (if 0 ≤ AB then ((spec_l04Norm.f x0 ((rd_T44 x5 AB).f0) ((rd_T44 x5 AB).f1)).bind fun Au => (if Au = x6 then ((spec_l03Has.f Af Ag Ah ((rd_T44 x5 AB).f0) ((rd_T44 x5 AB).f1)).bind fun AH => (if AH = true then (if x9.length < 8796093022208 then (spec_l04Shortest.l1 k x0 x5 x6 (x9 ++ [(⟨(rd_T44 x5 AB).f0, (rd_T44 x5 AB).f1⟩ : S44)]) (wrap64 (AB + 1)) Af Ag Ah) else (none)) else (spec_l04Shortest.l1 k x0 x5 x6 x9 (wrap64 (AB + 1)) Af Ag Ah))) else (spec_l04Shortest.l1 k x0 x5 x6 x9 (wrap64 (AB + 1)) Af Ag Ah))) else (none)) else (some x9)
end
def spec_l04Shortest.f (k : Nat) (a0 : Int) (Ai : Int) (Al : Int) (Am : Int) : Option ((List (S44))) := (spec_l04Near.f k a0 (wrap64 (Ai * Ai)) 128).bind fun Ad => (spec_l04Shortest.l0 k a0 Ad (wrap64 (Ai * Ai)) 0 Ai Al Am)
def spec_l04Shortest.T7 : Bool × List (List Nat × List Nat) := (true, [([], []), ([0], [0]), ([1], [1]), ([2], [2]), ([2], [2]), ([3, 4, 2], [2, 3, 4]), ([2, 5], [2, 5]), ([6, 2], [6]), ([7], [7]), ([7], [7]), ([7], [7]), ([9, 10, 7], [7, 9, 10]), ([11, 7], [7, 11]), ([8, 12, 7, 7], [7, 8, 12]), ([7, 13], [7, 13])])
def spec_l04Shortest.B7 : List Nat := [0, 1, 3, 7, 7, 31, 63, 127, 255, 255, 255, 1791, 3839, 8191, 16383]
theorem spec_l04Shortest.tab7 : rtab .any (opsOf Tryz.f24 7) = spec_l04Shortest.T7 := by kernel_rfl
theorem spec_l04Shortest.bits7 : waitsOk spec_l04Shortest.T7.2 spec_l04Shortest.B7 = true := by kernel_rfl
def spec_l04Shortest.T13 : Bool × List (List Nat × List Nat) := (true, [([], []), ([], []), ([], []), ([1, 2], [1, 2]), ([3], [3]), ([0, 4], [0, 4]), ([], []), ([5, 6], [5, 6]), ([7, 5], [7]), ([8], [8]), ([8], [8]), ([8], [8]), ([10, 11, 8], [8, 10, 11]), ([12, 8], [8, 12]), ([9, 13, 8, 8], [8, 9, 13]), ([8, 14], [8, 14])])
def spec_l04Shortest.B13 : List Nat := [0, 0, 0, 6, 14, 31, 0, 127, 255, 511, 511, 511, 3583, 7679, 16383, 32767]
theorem spec_l04Shortest.tab13 : rtab .any (opsOf Tryz.f24 13) = spec_l04Shortest.T13 := by kernel_rfl
theorem spec_l04Shortest.bits13 : waitsOk spec_l04Shortest.T13.2 spec_l04Shortest.B13 = true := by kernel_rfl
theorem spec_l04Shortest.calls (k : Nat) (a0 : Int) (Ai : Int) (Al : Int) (Am : Int) (r : List (S44)) (w : World) (h : spec_l04Shortest.f k a0 Ai Al Am = some r) :
  Calls Tryz.prog 24 #[.int .i64 a0, .agg #[.int .i64 Ai, .int .i64 Al, .int .i64 Am]] w fun e w' => ∃ v0_ : Value, e = .returned (v0_) ∧ Kd.R k44 44 w' w.heap.size (fun _ => True) v0_ r ∧ Below w.heap.size w w' := by
 have hu30 := Tryz.underlying30
 have hu44 := Tryz.underlying44
 have HB := asd (Below.refl w.heap.size w)
 have H : ((spec_l04Near.f k a0 (wrap64 (Ai * Ai)) 128).bind fun Ad => (spec_l04Shortest.l0 k a0 Ad (wrap64 (Ai * Ai)) 0 Ai Al Am)) = some r := h
 clear h
 obtain ⟨Ad, A3, H⟩ := ob H
 try dsimp only at H
 have H' := Aside0.mk H
 clear H
 go_enter Tryz.func24, Tryz.ntmps24
 go_wp2_with (first | ((with_reducible refine gd 3 rfl ?_); refine bx #[.int .i64 Ai, .int .i64 Al, .int .i64 Am] 30 ?_; intro AC hg w4 Aa hb; have Ae := ngw0 hg HB; replace HB := bS0 HB hb; clear hb hg; obtain ⟨AI, AJ, AK, AL, AM, AN⟩ := bz3 Aa) | ((with_reducible refine gate_callee (f := 52) rfl ?_); refine gl 17 Tryz.func52 #[.int .i64 a0, .int .i64 (wrap64 (Ai * Ai)), .int .i64 128] ?_; (with_reducible refine (spec_l04Near.calls _ _ _ _ _ _ A3.out).mono ?_); rintro e w6 ⟨v325, rfl, Bk, hb⟩; refine ⟨_, rfl, ?_⟩; have AY := asd (Kd.R_lower Bk (bsz1 HB Ae)); replace Aa := bB Aa hb; replace HB := bS1 HB Ae hb; (try clear hb); (try clear hb2); (try clear hk); (try clear hi); (try clear Bk); obtain ⟨AO, AP, AQ, AR, AS, AT⟩ := bz3 Aa))
 go_loopg [6, 7] k (fun kq v6 v7 w' => ∃ (An : Int) (Aj : Int), v6 = .int .i64 An ∧ v7 = .int .i64 Aj ∧ Aside0 (spec_l04Shortest.l0 kq a0 Ad An Aj Ai Al Am = some r) ∧ Aside0 (kq ≤ k) ∧ Aside0 (Kd.R k44 44 w' w.heap.size (fun _ => True) v325 Ad) ∧ Aside0 (w'.heap[AC]? = some (.cells #[.int .i64 Ai, .int .i64 Al, .int .i64 Am] 30 (0, 0))) ∧ Aside0 (Below w.heap.size w w'))
 case atStart => exact ⟨(wrap64 (Ai * Ai)), (0), (by first | rfl | (simp; done) | (simp [*]; done)), (by first | rfl | (simp; done) | (simp [*]; done)), H', ⟨Nat.le_refl _⟩, ⟨by (with_reducible repeat (first | apply Kd.R_alloc | apply Kd.R_drewN | apply Kd.R_drew)); exact AY.out⟩, ⟨bkp Aa⟩, ⟨bbw1 HB Ae⟩⟩
 case round =>
  clear H'
  try clear AI
  try clear AJ
  try clear AK
  try clear AO
  try clear AP
  try clear AQ
  try clear AL
  try clear AM
  try clear AN
  try clear AR
  try clear AS
  try clear AT
  obtain ⟨An, Aj, rfl, rfl, HA, AA, Ac, Aa, HB⟩ := hrel
  cases gk with
  | zero => exact absurd HA.out (by simp [spec_l04Shortest.l0])
  | succ k1 =>
   have H := HA.out
   clear HA
   simp only [spec_l04Shortest.l0] at H
   by_cases c8 : Aj < (Ad.length : Int)
   rw [if_pos c8] at H
   have AZ := decide_eq_true c8
   clear c8
   by_cases c9 : 0 ≤ Aj
   rw [if_pos c9] at H
   have Br := decide_eq_true c9
   clear c9
   obtain ⟨Aq, Bs, H⟩ := ob H
   try dsimp only at H
   by_cases AU : Aq > 0
   rw [if_pos AU] at H
   have AD : decide (0 < Aq) = true := decide_eq_true AU
   clear AU
   by_cases AV : Aq < An
   rw [if_pos AV] at H
   have AE := decide_eq_true AV
   clear AV
   obtain ⟨AG, Bt, H⟩ := ob H
   try dsimp only at H
   by_cases A0 : AG = true
   subst A0
   replace H := ifT H
   have H' := Aside0.mk H
   clear H
   rotate_left
   replace A0 := Bool.eq_false_iff.mpr A0
   subst A0
   replace H := ifF H
   have H' := Aside0.mk H
   clear H
   rotate_left
   rw [if_neg AV] at H
   have AE := decide_eq_false AV
   clear AV
   have H' := Aside0.mk H
   clear H
   rotate_left
   rw [if_neg AU] at H
   have AD : decide (0 < Aq) = false := decide_eq_false AU
   clear AU
   have H' := Aside0.mk H
   clear H
   rotate_left
   ·rw [if_neg c9] at H
    exact absurd H (by simp)
   rw [if_neg c8] at H
   have AZ := decide_eq_false c8
   clear c8
   obtain ⟨A1, Ar⟩ : ∃ y_ : List (S44), y_ = (([] : List (S44))) := ⟨_, rfl⟩
   replace H : (spec_l04Shortest.l1 k1 a0 Ad An A1 0 Ai Al Am) = some r := by first | (rw [Ar]; with_reducible exact H) | (have H2_ := (Option.bind_some _ _).symm.trans H; rw [Ar]; with_reducible exact H2_) | (have H2_ := (Option.bind_some _ _).symm.trans H; with_reducible exact H2_) | with_reducible exact H | (rw [Ar]; exact H) | exact H
   have AF := Aside0.mk Ar
   clear Ar
   have H' := Aside0.mk H
   clear H
   rotate_left
   all_goals
    obtain ⟨Ao15, co15, eo15⟩ := Kd.R_slice Ac.out
    subst eo15
   rotate_left 4
   ·go_wp2_with (first | ((with_reducible refine gd 51 rfl ?_); refine Kd.R_lit k44 _ 44 ?hg (N := 51) ?hd (xs := ([] : List (S44))) (inner := []) (ok := fun _ => True) (okp := fun _ => True) ?hr ?hp (fun _ hk => hk) trivial (Below.refl _ _) (Nat.le_refl _) (by simp) ?_; (case hd => rfl); (case hg => rfl); (case hr => first | (go_simp; done) | (go_simp; rfl)); (case hp => exact (Reps.none _ _)); intro v332 Bv Az hb hg_ hnew_; clear hg_ hnew_; (first | rw [← AF.out] at Az | (simp only [Int.reduceToNat] at Az; rw [← AF.out] at Az)); have A2 := asd (Kd.R_lower (Kd.R_new' Az (Kd.R_lt (kr Ac))) (bsz1 HB Ae)); replace Ac := asd (Kd.R_elder' (kr Ac) (Kd.R_base Az) hb); replace Aa := bB Aa hb; replace HB := bS1 HB Ae hb; clear hb Az))
    go_loopg [9, 10] k1 (fun kq v9 v10 w' => ∃ (As : List (S44)) (Ab : Int), v10 = .int .i64 Ab ∧ Aside0 (spec_l04Shortest.l1 kq a0 Ad An As Ab Ai Al Am = some r) ∧ Aside0 (kq ≤ k1) ∧ Aside0 (Kd.R k44 44 w' w.heap.size (fun k_ => some k_ ≠ (v9 : Value).ownBlock) (.slice Ao15 Ad.length co15) Ad) ∧ Aside0 (Kd.R k44 44 w' w.heap.size (fun k_ => some k_ ≠ ((.slice Ao15 Ad.length co15) : Value).ownBlock) v9 As) ∧ Aside0 (w'.heap[AC]? = some (.cells #[.int .i64 Ai, .int .i64 Al, .int .i64 Am] 30 (0, 0))) ∧ Aside0 (Below w.heap.size w w'))
    case atStart => exact ⟨(A1), (0), (by first | rfl | (simp; done) | (simp [*]; done)), H', ⟨Nat.le_refl _⟩, ⟨by (with_reducible repeat (first | apply Kd.R_alloc | apply Kd.R_drewN | apply Kd.R_drew)); exact Kd.R_mono Ac.out (fun _ hk => hk.2)⟩, ⟨by (with_reducible repeat (first | apply Kd.R_alloc | apply Kd.R_drewN | apply Kd.R_drew)); exact Kd.R_mono A2.out (fun _ hk => hk.2)⟩, ⟨bkp Aa⟩, ⟨bbw1 HB Ae⟩⟩
    case round =>
     clear H'
     try clear c8
     try clear AZ
     try clear c9
     try clear AU
     try clear AD
     try clear AV
     try clear AE
     try clear A0
     obtain ⟨As, Ab, rfl, HA, A4, Ac, Ak, Aa, HB⟩ := hrel
     cases gk with
     | zero => exact absurd HA.out (by simp [spec_l04Shortest.l1])
     | succ k2 =>
      have H := HA.out
      clear HA
      simp only [spec_l04Shortest.l1] at H
      by_cases AX : Ab < (Ad.length : Int)
      rw [if_pos AX] at H
      have A5 := decide_eq_true AX
      clear AX
      by_cases Bc : 0 ≤ Ab
      rw [if_pos Bc] at H
      have Bl := decide_eq_true Bc
      clear Bc
      obtain ⟨Au, Bm, H⟩ := ob H
      try dsimp only at H
      by_cases AW : Au = An
      rw [if_pos AW] at H
      have A6 : (Au == An) = true := beq_iff_eq.mpr AW
      have A7 : (Au != An) = false := bne_eq_false_iff_eq.mpr AW
      clear AW
      obtain ⟨AH, Bu, H⟩ := ob H
      try dsimp only at H
      by_cases Bd : AH = true
      subst Bd
      replace H := ifT H
      by_cases Be : As.length < 8796093022208
      rw [if_pos Be] at H
      have A8 := Aside0.mk Be
      clear Be
      obtain ⟨A9, At⟩ : ∃ y_ : List (S44), y_ = (As ++ [(⟨(rd_T44 Ad Ab).f0, (rd_T44 Ad Ab).f1⟩ : S44)]) := ⟨_, rfl⟩
      replace H : (spec_l04Shortest.l1 k2 a0 Ad An A9 (wrap64 (Ab + 1)) Ai Al Am) = some r := by first | (rw [At]; with_reducible exact H) | (have H2_ := (Option.bind_some _ _).symm.trans H; rw [At]; with_reducible exact H2_) | (have H2_ := (Option.bind_some _ _).symm.trans H; with_reducible exact H2_) | with_reducible exact H | (rw [At]; exact H) | exact H
      have Ba := Aside0.mk At
      clear At
      have H' := Aside0.mk H
      clear H
      rotate_left
      ·rw [if_neg Be] at H
       exact absurd H (by simp)
      replace Bd := Bool.eq_false_iff.mpr Bd
      subst Bd
      replace H := ifF H
      have H' := Aside0.mk H
      clear H
      rotate_left
      rw [if_neg AW] at H
      have A6 : (Au == An) = false := beq_eq_false_iff_ne.mpr AW
      have A7 : (Au != An) = true := bne_iff_ne.mpr AW
      have H' := Aside0.mk H
      clear H
      rotate_left
      ·rw [if_neg Bc] at H
       exact absurd H (by simp)
      rw [if_neg AX] at H
      have A5 := decide_eq_false AX
      clear AX
      obtain rfl := Option.some.inj H
      rotate_left
      rotate_left 3
      ·go_wp2
       go_ret
       exact ⟨_, by first | rfl | (simp [errW_none, errW_some] <;> rfl) | (simp [*, errW_none, errW_some] <;> rfl), by (with_reducible repeat (first | apply Kd.R_alloc | apply Kd.R_drewN | apply Kd.R_drew)); exact Kd.R_mono Ak.out (fun _ hk => trivial), bbw1 HB Ae⟩
      all_goals
       try go_wp2
       replace Ac := asd (Kd.R_drew Ac.out)
       replace Ak := asd (Kd.R_drew Ak.out)
       replace Aa := asd (blk_drew Aa.out)
       replace HB := asd (below_drew1 HB.out)
       have p334 : 0 ≤ (Ab : Int) := od
       have q334 : Ab < (Ad.length : Int) := od
       obtain ⟨ad334, e334, Ao, Ap⟩ := at_T44 (Kd.R_reads' Ac.out).2.2 Ab p334 q334
       cases e334
       replace p334 := eq_true p334
       replace q334 := eq_true q334
      rotate_left 2
      ·refine sh 16 (c1 Ao (e1 Ap)) (fun hHeld => ?_); refine with_tabW spec_l04Shortest.tab13 spec_l04Shortest.bits13 (fun HT_ HW_ => ?_)
       generalize wr.drew = Bw at Ac Ak Aa HB Ao Ap hHeld ⊢
       refine pu 0 (some 58) (bT 16 1) HT_ ?_
       refine pu 1 (some 59) (bT 16 2) HT_ ?_
       refine pu 2 (some 60) (bT 16 3) HT_ ?_
       refine pu 3 (some 61) (bT 16 4) HT_ ?_
       refine pu 6 (some 64) (bs 16 79) HT_ ?_
       refine ta 4 (some 62) (bs 16 95) HT_ HW_ hHeld ?_
       refine ro 5 (some 63) (bT 16 7) HT_ (fun K hK => ?_)
       refine gs Tryz.func23 #[.int .i64 a0, .agg #[.int .i64 ((rd_T44 Ad Ab).f0), .int .i64 ((rd_T44 Ad Ab).f1)]] ?_
       with_reducible refine (spec_l04Norm.calls _ _ _ _ _ Bm.out).mono ?_
       rintro e Bx ⟨rfl, hb⟩
       have HS0_ := hbc hb (hHeld.1)
       have HS1_ := hbc hb (hHeld.2)
       refine ⟨_, rfl, ?_⟩
       replace Ac := asd (Kd.R_below (kr Ac) hb)
       replace Ak := asd (Kd.R_below (kr Ak) hb)
       replace Aa := bB Aa hb
       replace HB := bS1 HB Ae hb
       (try clear hb)
       (try clear hb2)
       (try clear hk)
       (try clear hi)
       refine hK.out _ _ ⟨HS0_, HS1_⟩ (fun hHeld => ?_)
       clear hK K
       refine norm_ (a' := ?_) ?_ ?_
       rotate_left
       ·show Act.put _ (some 63) _ = _
        simp only [Act.put, sA, sB, sC, i64_w, i32_w]
        rfl
       refine pu 7 (some 65) (bT 16 8) HT_ ?_
       refine pu 8 (some 66) (bT 16 9) HT_ ?_
       refine pf 9 (some 67) (bT 16 10) HT_ ?_
       refine pf 10 (some 68) (bT 16 11) HT_ ?_
       refine pf 11 (some 69) (bT 16 12) HT_ ?_
       refine pf 12 (some 70) (bT 16 13) HT_ ?_
       refine pf 13 (some 71) (bT 16 14) HT_ ?_
       refine pf 14 (some 72) (bT 16 15) HT_ ?_
       refine pu 15 (some 73) (bT 16 16) HT_ ?_
       refine done_ (done_of HT_.out (by kernel_rfl)) ?_
       try go_wp2
       go_roundg k2
       case measure => have := AA.out; have := A4.out; omega
       case rel => exact ⟨(As), (wrap64 (Ab + 1)), (by first | rfl | (simp; done) | (simp [*]; done)), H', ⟨by have := AA.out; have := A4.out; omega⟩, ⟨by (with_reducible repeat (first | apply Kd.R_alloc | apply Kd.R_drewN | apply Kd.R_drew)); exact Ac.out⟩, ⟨by (with_reducible repeat (first | apply Kd.R_alloc | apply Kd.R_drewN | apply Kd.R_drew)); exact Ak.out⟩, ⟨bkp Aa⟩, ⟨bbw1 HB Ae⟩⟩
      all_goals
       have p336 : 0 ≤ (Ab : Int) := od
       have q336 : Ab < (Ad.length : Int) := od
       obtain ⟨ad336, e336, Av, Aw⟩ := at_T44 (Kd.R_reads' Ac.out).2.2 Ab p336 q336
       obtain rfl : ad334 = ad336 := (by injection e336)
       replace p336 := eq_true p336
       replace q336 := eq_true q336
       refine sh 16 (cb3 Aa (c1 Ao (c1 Ap (c1 Av (e1 Aw))))) (fun hHeld => ?_); refine with_tabW spec_l04Shortest.tab13 spec_l04Shortest.bits13 (fun HT_ HW_ => ?_)
       generalize wr.drew = By at Ac Ak Aa HB Ao Ap Av Aw hHeld ⊢
       refine pu 0 (some 58) (bT 16 1) HT_ ?_
       refine pu 1 (some 59) (bT 16 2) HT_ ?_
       refine pu 2 (some 60) (bT 16 3) HT_ ?_
       refine pu 3 (some 61) (bT 16 4) HT_ ?_
       refine pu 6 (some 64) (bs 16 79) HT_ ?_
       refine ta 4 (some 62) (bs 16 95) HT_ HW_ hHeld ?_
       refine ro 5 (some 63) (bT 16 7) HT_ (fun K hK => ?_)
       refine gs Tryz.func23 #[.int .i64 a0, .agg #[.int .i64 ((rd_T44 Ad Ab).f0), .int .i64 ((rd_T44 Ad Ab).f1)]] ?_
       with_reducible refine (spec_l04Norm.calls _ _ _ _ _ Bm.out).mono ?_
       rintro e Bz ⟨rfl, hb⟩
       have HS3_ := hbc hb (hHeld.2.2.2.1)
       have HS4_ := hbc hb (hHeld.2.2.2.2.1)
       have HS5_ := hbc hb (hHeld.2.2.2.2.2.1)
       have HS6_ := hbc hb (hHeld.2.2.2.2.2.2)
       refine ⟨_, rfl, ?_⟩
       replace Ac := asd (Kd.R_below (kr Ac) hb)
       replace Ak := asd (Kd.R_below (kr Ak) hb)
       replace Aa := bB Aa hb
       replace HB := bS1 HB Ae hb
       (try clear hb)
       (try clear hb2)
       (try clear hk)
       (try clear hi)
       refine hK.out _ _ ⟨bcl Aa 0, bcl Aa 1, bcl Aa 2, HS3_, HS4_, HS5_, HS6_⟩ (fun hHeld => ?_)
       clear hK K
       refine norm_ (a' := ?_) ?_ ?_
       rotate_left
       ·show Act.put _ (some 63) _ = _
        simp only [Act.put, sA, sB, sC, i64_w, i32_w]
        rfl
       refine pu 7 (some 65) (bT 16 8) HT_ ?_
       refine pu 8 (some 66) (bT 16 9) HT_ ?_
       refine pu 10 (some 68) (bs 16 1535) HT_ ?_
       refine pu 11 (some 69) (bs 16 3583) HT_ ?_
       refine pu 12 (some 70) (bs 16 7679) HT_ ?_
       refine ta 9 (some 67) (bT 16 13) HT_ HW_ hHeld ?_
       refine ta 13 (some 71) (bT 16 14) HT_ HW_ hHeld ?_
       refine ro 14 (some 72) (bT 16 15) HT_ (fun K hK => ?_)
       refine gs Tryz.func53 #[.agg #[.int .i64 Ai, .int .i64 Al, .int .i64 Am], .agg #[.int .i64 ((rd_T44 Ad Ab).f0), .int .i64 ((rd_T44 Ad Ab).f1)]] ?_
       with_reducible refine (spec_l03Has.calls _ _ _ _ _ _ _ Bu.out).mono ?_
       rintro e BA ⟨rfl, hb⟩
       have HS3_ := hbc hb (hHeld.2.2.2.1)
       have HS4_ := hbc hb (hHeld.2.2.2.2.1)
       have HS5_ := hbc hb (hHeld.2.2.2.2.2.1)
       have HS6_ := hbc hb (hHeld.2.2.2.2.2.2)
       refine ⟨_, rfl, ?_⟩
       replace Ac := asd (Kd.R_below (kr Ac) hb)
       replace Ak := asd (Kd.R_below (kr Ak) hb)
       replace Aa := bB Aa hb
       replace HB := bS1 HB Ae hb
       (try clear hb)
       (try clear hb2)
       (try clear hk)
       (try clear hi)
       refine hK.out _ _ ⟨bcl Aa 0, bcl Aa 1, bcl Aa 2, HS3_, HS4_, HS5_, HS6_⟩ (fun hHeld => ?_)
       clear hK K
       refine norm_ (a' := ?_) ?_ ?_
       rotate_left
       ·show Act.put _ (some 72) _ = _
        simp only [Act.put, sA, sB, sC, i64_w, i32_w]
        rfl
       refine pu 15 (some 73) (bT 16 16) HT_ ?_
       refine done_ (done_of HT_.out (by kernel_rfl)) ?_
      have p338 : 0 ≤ (Ab : Int) := od
      have q338 : Ab < (Ad.length : Int) := od
      obtain ⟨ad338, e338, Bf, Bg⟩ := at_T44 (Kd.R_reads' Ac.out).2.2 Ab p338 q338
      obtain rfl : ad334 = ad338 := (by injection e338)
      replace p338 := eq_true p338
      replace q338 := eq_true q338
      try go_wp2_with (first | ((with_reducible refine gate_builtin (b := .append) (xs := #[.tmp 74, .tmp 79]) rfl ?_); at_builtin; refine Kd.R_append k44 (w0 := w) w.heap.size rfl (.tmp 74) (.tmp 79) 38 44 (.agg #[(.int .i64 0), (.int .i64 0)]) 16 rfl Tryz.underlying38 info44 rfl (by decide) (by omega) u9 As (⟨(rd_T44 Ad Ab).f0, (rd_T44 Ad Ab).f1⟩ : S44) [.int .i64 ((rd_T44 Ad Ab).f0), .int .i64 ((rd_T44 Ad Ab).f1)] (fun k_ => some k_ ≠ (.slice (some ad334) Ad.length co15 : Value).ownBlock) (fun _ => False) rfl rfl ?aP (fun _ hk => hk.elim) ?aF ?aO ?aB ?aS ?aL ?_; (case aP => exact k44_mkM _ _ _ (⟨(rd_T44 Ad Ab).f0, (rd_T44 Ad Ab).f1⟩ : S44)); (case aB => exact (bbw1 HB Ae)); (case aF => exact (fun k_ hk => Kd.fresh' (Kd.R_lt (kr Ac)) k_ hk)); (case aO => exact (kr Ak)); (case aS => exact (bsz1 HB Ae)); (case aL => have := A8.out; omega); intro v340 BB ho hb hg hat; rw [← Ba.out] at ho; have Bn := asd (Kd.R_after (ok := (fun _ => True)) (by (with_reducible repeat (first | apply Kd.R_alloc | apply Kd.R_drewN | apply Kd.R_drew)); exact Kd.R_mono Ac.out (fun _ hk => ⟨trivial, hk⟩)) hg hat); have Bo := asd (blk_grown (g := AC) (o := .cells #[.int .i64 Ai, .int .i64 Al, .int .i64 Am] 30 (0, 0)) (bkp Aa) hg (Kd.R_ne Ak.out Aa.out (by decide))); have Bp := asd (hb); have Bq := asd (ho); clear Ac; clear Aa; clear HB; clear Ak; have Ac := Bn; have Aa := Bo; have HB := Bp; have Bb := Bq; clear Bn Bo Bp Bq; clear ho hb hg hat))
      rotate_left
      try go_wp2
      rotate_left
      all_goals
       go_roundg k2
       case measure => have := AA.out; have := A4.out; omega
      ·case rel => exact ⟨(A9), (wrap64 (Ab + 1)), (by first | rfl | (simp; done) | (simp [*]; done)), H', ⟨by have := AA.out; have := A4.out; omega⟩, ⟨by (with_reducible repeat (first | apply Kd.R_alloc | apply Kd.R_drewN | apply Kd.R_drew)); exact Kd.R_mono Ac.out (fun _ hk => hk.2)⟩, ⟨by (with_reducible repeat (first | apply Kd.R_alloc | apply Kd.R_drewN | apply Kd.R_drew)); exact Bb.out⟩, ⟨bkp Aa⟩, ⟨bbw1 HB Ae⟩⟩
      ·case rel => exact ⟨(As), (wrap64 (Ab + 1)), (by first | rfl | (simp; done) | (simp [*]; done)), H', ⟨by have := AA.out; have := A4.out; omega⟩, ⟨by (with_reducible repeat (first | apply Kd.R_alloc | apply Kd.R_drewN | apply Kd.R_drew)); exact Ac.out⟩, ⟨by (with_reducible repeat (first | apply Kd.R_alloc | apply Kd.R_drewN | apply Kd.R_drew)); exact Ak.out⟩, ⟨bkp Aa⟩, ⟨bbw1 HB Ae⟩⟩
   all_goals
    have p327 : 0 ≤ (Aj : Int) := od
    have q327 : Aj < (Ad.length : Int) := od
    obtain ⟨ad327, e327, Bh, Bi⟩ := at_T44 (Kd.R_reads' Ac.out).2.2 Aj p327 q327
    cases e327
    replace p327 := eq_true p327
    replace q327 := eq_true q327
    try go_wp2_with (first | ((with_reducible refine gate_callee (f := 23) rfl ?_); refine gl 34 Tryz.func23 #[.int .i64 a0, .agg #[.int .i64 ((rd_T44 Ad Aj).f0), .int .i64 ((rd_T44 Ad Aj).f1)]] ?_; (with_reducible refine (spec_l04Norm.calls _ _ _ _ _ Bs.out).mono ?_); rintro e Bj ⟨rfl, hb⟩; refine ⟨_, rfl, ?_⟩; replace Ac := asd (Kd.R_below (kr Ac) hb); replace Aa := bB Aa hb; replace HB := bS1 HB Ae hb; (try clear hb)))
    replace Ac := asd (Kd.R_drew Ac.out)
    replace Aa := asd (blk_drew Aa.out)
    replace HB := asd (below_drew1 HB.out)
   rotate_left 2
   ·refine start_ (n := 15) (S := fun w' => True) (ds := []) (bT 15 0) (by kernel_rfl) rfl rfl trivial (fun hHeld => ?_); refine with_tabW spec_l04Shortest.tab7 spec_l04Shortest.bits7 (fun HT_ HW_ => ?_)
    generalize Bj.drew = BC at Ac Aa HB hHeld ⊢
    refine pu 0 (some 35) (bT 15 1) HT_ ?_
    refine pu 1 (some 36) (bT 15 2) HT_ ?_
    refine pu 2 (some 37) (bT 15 3) HT_ ?_
    refine pu 3 (some 38) (bT 15 4) HT_ ?_
    refine pu 4 (some 39) (bT 15 5) HT_ ?_
    refine pu 5 (some 40) (bT 15 6) HT_ ?_
    refine pu 6 (some 41) (bT 15 7) HT_ ?_
    refine pu 7 (some 42) (bT 15 8) HT_ ?_
    refine pf 8 (some 43) (bT 15 9) HT_ ?_
    refine pf 9 (some 44) (bT 15 10) HT_ ?_
    refine pf 10 (some 45) (bT 15 11) HT_ ?_
    refine pf 11 (some 46) (bT 15 12) HT_ ?_
    refine pf 12 (some 47) (bT 15 13) HT_ ?_
    refine pf 13 (some 48) (bT 15 14) HT_ ?_
    refine pu 14 (some 49) (bT 15 15) HT_ ?_
    refine done_ (done_of HT_.out (by kernel_rfl)) ?_
    try go_wp2
    go_roundg k1
    case measure => have := AA.out; omega
    case rel => exact ⟨(An), (wrap64 (Aj + 1)), (by first | rfl | (simp; done) | (simp [*]; done)), (by first | rfl | (simp; done) | (simp [*]; done)), H', ⟨by have := AA.out; omega⟩, ⟨by (with_reducible repeat (first | apply Kd.R_alloc | apply Kd.R_drewN | apply Kd.R_drew)); exact Ac.out⟩, ⟨bkp Aa⟩, ⟨bbw1 HB Ae⟩⟩
   ·refine start_ (n := 15) (S := fun w' => True) (ds := []) (bT 15 0) (by kernel_rfl) rfl rfl trivial (fun hHeld => ?_); refine with_tabW spec_l04Shortest.tab7 spec_l04Shortest.bits7 (fun HT_ HW_ => ?_)
    generalize Bj.drew = BD at Ac Aa HB hHeld ⊢
    refine pu 0 (some 35) (bT 15 1) HT_ ?_
    refine pu 1 (some 36) (bT 15 2) HT_ ?_
    refine pu 2 (some 37) (bT 15 3) HT_ ?_
    refine pf 3 (some 38) (bT 15 4) HT_ ?_
    refine pf 4 (some 39) (bT 15 5) HT_ ?_
    refine pf 5 (some 40) (bT 15 6) HT_ ?_
    refine pu 6 (some 41) (bT 15 7) HT_ ?_
    refine pu 7 (some 42) (bT 15 8) HT_ ?_
    refine pf 8 (some 43) (bT 15 9) HT_ ?_
    refine pf 9 (some 44) (bT 15 10) HT_ ?_
    refine pf 10 (some 45) (bT 15 11) HT_ ?_
    refine pf 11 (some 46) (bT 15 12) HT_ ?_
    refine pf 12 (some 47) (bT 15 13) HT_ ?_
    refine pf 13 (some 48) (bT 15 14) HT_ ?_
    refine pu 14 (some 49) (bT 15 15) HT_ ?_
    refine done_ (done_of HT_.out (by kernel_rfl)) ?_
    try go_wp2
    go_roundg k1
    case measure => have := AA.out; omega
    case rel => exact ⟨(An), (wrap64 (Aj + 1)), (by first | rfl | (simp; done) | (simp [*]; done)), (by first | rfl | (simp; done) | (simp [*]; done)), H', ⟨by have := AA.out; omega⟩, ⟨by (with_reducible repeat (first | apply Kd.R_alloc | apply Kd.R_drewN | apply Kd.R_drew)); exact Ac.out⟩, ⟨bkp Aa⟩, ⟨bbw1 HB Ae⟩⟩
   all_goals
    have p329 : 0 ≤ (Aj : Int) := od
    have q329 : Aj < (Ad.length : Int) := od
    obtain ⟨ad329, e329, Ax, Ay⟩ := at_T44 (Kd.R_reads' Ac.out).2.2 Aj p329 q329
    obtain rfl : ad327 = ad329 := (by injection e329)
    replace p329 := eq_true p329
    replace q329 := eq_true q329
    refine sh 15 (cb3 Aa (c1 Ax (e1 Ay))) (fun hHeld => ?_); refine with_tabW spec_l04Shortest.tab7 spec_l04Shortest.bits7 (fun HT_ HW_ => ?_)
    generalize Bj.drew = BE at Ac Aa HB Ax Ay hHeld ⊢
    refine pu 0 (some 35) (bT 15 1) HT_ ?_
    refine pu 1 (some 36) (bT 15 2) HT_ ?_
    refine pu 2 (some 37) (bT 15 3) HT_ ?_
    refine pu 3 (some 38) (bT 15 4) HT_ ?_
    refine pu 4 (some 39) (bT 15 5) HT_ ?_
    refine pu 5 (some 40) (bT 15 6) HT_ ?_
    refine pu 6 (some 41) (bT 15 7) HT_ ?_
    refine pu 7 (some 42) (bT 15 8) HT_ ?_
    refine pu 9 (some 44) (bs 15 767) HT_ ?_
    refine pu 10 (some 45) (bs 15 1791) HT_ ?_
    refine pu 11 (some 46) (bs 15 3839) HT_ ?_
    refine ta 8 (some 43) (bT 15 12) HT_ HW_ hHeld ?_
    refine ta 12 (some 47) (bT 15 13) HT_ HW_ hHeld ?_
    refine ro 13 (some 48) (bT 15 14) HT_ (fun K hK => ?_)
    refine gs Tryz.func53 #[.agg #[.int .i64 Ai, .int .i64 Al, .int .i64 Am], .agg #[.int .i64 ((rd_T44 Ad Aj).f0), .int .i64 ((rd_T44 Ad Aj).f1)]] ?_
    with_reducible refine (spec_l03Has.calls _ _ _ _ _ _ _ Bt.out).mono ?_
    rintro e BF ⟨rfl, hb⟩
    have HS3_ := hbc hb (hHeld.2.2.2.1)
    have HS4_ := hbc hb (hHeld.2.2.2.2)
    refine ⟨_, rfl, ?_⟩
    replace Ac := asd (Kd.R_below (kr Ac) hb)
    replace Aa := bB Aa hb
    replace HB := bS1 HB Ae hb
    (try clear hb)
    (try clear hb2)
    (try clear hk)
    (try clear hi)
    refine hK.out _ _ ⟨bcl Aa 0, bcl Aa 1, bcl Aa 2, HS3_, HS4_⟩ (fun hHeld => ?_)
    clear hK K
    refine norm_ (a' := ?_) ?_ ?_
    rotate_left
    ·show Act.put _ (some 48) _ = _
     simp only [Act.put, sA, sB, sC, i64_w, i32_w]
     rfl
    refine pu 14 (some 49) (bT 15 15) HT_ ?_
    refine done_ (done_of HT_.out (by kernel_rfl)) ?_
    try go_wp2
    go_roundg k1
    case measure => have := AA.out; omega
   ·case rel => exact ⟨(Aq), (wrap64 (Aj + 1)), (by first | rfl | (simp; done) | (simp [*]; done)), (by first | rfl | (simp; done) | (simp [*]; done)), H', ⟨by have := AA.out; omega⟩, ⟨by (with_reducible repeat (first | apply Kd.R_alloc | apply Kd.R_drewN | apply Kd.R_drew)); exact Ac.out⟩, ⟨bkp Aa⟩, ⟨bbw1 HB Ae⟩⟩
   ·case rel => exact ⟨(An), (wrap64 (Aj + 1)), (by first | rfl | (simp; done) | (simp [*]; done)), (by first | rfl | (simp; done) | (simp [*]; done)), H', ⟨by have := AA.out; omega⟩, ⟨by (with_reducible repeat (first | apply Kd.R_alloc | apply Kd.R_drewN | apply Kd.R_drew)); exact Ac.out⟩, ⟨bkp Aa⟩, ⟨bbw1 HB Ae⟩⟩
attribute [local go_sem high] eqA44
def spec_l02Axis.j0 : Nat → Int → Int → Option (Int × Int)
 | 0, _, _ => none
 | k + 1, Ar, As => (spec_l01Divisor.f k Ar As).bind fun Ah => (if Ah = 0 then (none) else ((spec_l01Less.f (wrap64 (Int.tdiv Ar Ah)) (wrap64 (Int.tdiv As Ah)) 0 0).bind fun AT => (if AT = true then ((spec_l01Scale.f (wrap64 (Int.tdiv Ar Ah)) (wrap64 (Int.tdiv As Ah)) (-1)).bind fun AQ => (some (AQ.1, AQ.2))) else (some (wrap64 (Int.tdiv Ar Ah), wrap64 (Int.tdiv As Ah))))))
def spec_l02Axis.f (k : Nat) (Ak : Int) (Au : Int) (Al : Int) (Av : Int) : Option (Int × Int) := if ((wrap64 (Ak + 1)) == 0 && (Al == 0)) = true then (spec_l02Axis.j0 k Au (wrap64 (Av + 1))) else (spec_l02Axis.j0 k (wrap64 (Ak + 1)) Al)
def spec_l02Axis.T5 : Bool × List (List Nat × List Nat) := (true, [([], []), ([0], [0]), ([], []), ([1, 2], [1, 2]), ([], []), ([4], [4]), ([], []), ([5, 6], [5, 6]), ([3, 7], [3, 7]), ([8, 0, 1, 2, 3, 4, 5, 6, 7, 8], [8])])
def spec_l02Axis.B5 : List Nat := [0, 1, 0, 7, 0, 16, 0, 112, 255, 511]
theorem spec_l02Axis.tab5 : rtab .any (opsOf Tryz.f54 5) = spec_l02Axis.T5 := by kernel_rfl
theorem spec_l02Axis.bits5 : waitsOk spec_l02Axis.T5.2 spec_l02Axis.B5 = true := by kernel_rfl
theorem spec_l02Axis.calls (k : Nat) (Ak : Int) (Au : Int) (Al : Int) (Av : Int) (r1 : Int) (r2 : Int) (w : World) (h : spec_l02Axis.f k Ak Au Al Av = some (r1, r2)) :
  Calls Tryz.prog 54 #[.agg #[.int .i64 Ak, .int .i64 Au, .int .i64 Al, .int .i64 Av]] w fun e w' => e = .returned (.agg #[.int .i64 r1, .int .i64 r2]) ∧ Below w.heap.size w w' := by
 have hu42 := Tryz.underlying42
 have hu44 := Tryz.underlying44
 have HB := asd (Below.refl w.heap.size w)
 have H : (if ((wrap64 (Ak + 1)) == 0 && (Al == 0)) = true then (spec_l02Axis.j0 k Au (wrap64 (Av + 1))) else (spec_l02Axis.j0 k (wrap64 (Ak + 1)) Al)) = some (r1, r2) := h
 clear h
 have BE := Aside0.mk H
 clear H
 go_enter Tryz.func54, Tryz.ntmps54
 go_upto_if 13 with (first | ((with_reducible refine gd 1 rfl ?_); refine bx #[.int .i64 Ak, .int .i64 Au, .int .i64 Al, .int .i64 Av] 42 ?_; intro Az hg w3 Ae hb; have Am := ngw0 hg HB; replace HB := bS0 HB hb; clear hb hg) | ((with_reducible refine gd 2 rfl ?_); refine bx #[.int .i64 0, .int .i64 0] 44 ?_; intro Ax hg w4 Ag hb; have Ap := ngw1 hg HB Am; replace HB := bS1 HB Am hb; have An := nlt hg Ae; have Ao := nsy (nlt hg Ae); replace Ae := bB Ae hb; clear hb hg; have B0 := An.out; have B3 := Ao.out; obtain ⟨AU, AV, AW, AX, AY, AZ, A0, A1⟩ := bz4 Ae) | ((with_reducible refine gd 3 rfl ?_); refine bx #[.int .i64 0, .int .i64 0] 44 ?_; intro At hg w7 Ac hb; have Aq := ngw2 hg HB Am Ap; replace HB := bS2 HB Am Ap hb; have Af := nlt hg Ae; have Ai := nsy (nlt hg Ae); replace Ae := bB Ae hb; have Ad := nlt hg Ag; have Aj := nsy (nlt hg Ag); replace Ag := bB Ag hb; clear hb hg; have B8 := Ai.out; have Ca := Af.out; have Cb := Aj.out; have Cc := Ad.out; obtain ⟨AA, AB, AC, AD⟩ := bz2 Ac))
 (try simp only [Act.put, sA, sB, sC])
 go_cut [] (fun wc => ∃ (kq : Nat) (Aa : Int) (Ab : Int), Aside0 (spec_l02Axis.j0 kq Aa Ab = some (r1, r2)) ∧ Aside0 (kq ≤ k) ∧ Aside0 (wc.heap[Az]? = some (.cells #[.int .i64 Ak, .int .i64 Au, .int .i64 Al, .int .i64 Av] 42 (0, 0))) ∧ Aside0 (wc.heap[Ax]? = some (.cells #[.int .i64 0, .int .i64 0] 44 (0, 0))) ∧ Aside0 (wc.heap[At]? = some (.cells #[.int .i64 Aa, .int .i64 Ab] 44 (0, 0))) ∧ Aside0 (Below w.heap.size w wc))
 case first =>
  have H := BE.out
  clear BE
  by_cases Ay : ((wrap64 (Ak + 1)) == 0 && (Al == 0)) = true
  ·rw [if_pos Ay] at H
   have Aw := Ay
   (try (have AR : decide ((wrap64 (Ak + 1)) = 0 && (Al == 0)) = true := by simpa using Ay))
   (try (have AS : ((wrap64 (Ak + 1)) == 0 && (Al == 0)) = true := by simpa using Ay))
   clear Ay
   (first | rw [Aw] | (simp only [i64_w, i32_w]; rw [Aw]) | skip)
   have H' := Aside0.mk H
   clear H
   have BH := An.out
   have BI := Ao.out
   have BJ := Af.out
   have BK := Ai.out
   obtain ⟨AE, AF, AG, AH, AI, AJ, AK, AL⟩ := bz4 Ae
   have BL := Aj.out
   have BM := Ad.out
   obtain ⟨AM, AN, AO, AP⟩ := bz2 Ac
   go_wp2
   go_meet
   case rel => exact ⟨_, (Au), (wrap64 (Av + 1)), H', ⟨by first | omega | exact Nat.le_refl _⟩, ⟨bq1 Ae Af⟩, ⟨bq1 Ag Ad⟩, ⟨bq0 Ac⟩, ⟨bbw3 HB Am Ap Aq⟩⟩
  ·rw [if_neg Ay] at H
   have Aw : ((wrap64 (Ak + 1)) == 0 && (Al == 0)) = false := by simpa using Ay
   (try (have AR : decide ((wrap64 (Ak + 1)) = 0 && (Al == 0)) = false := by simpa using Ay))
   (try (have AS : ((wrap64 (Ak + 1)) == 0 && (Al == 0)) = false := by simpa using Ay))
   (try (have BN : ¬ ((wrap64 (Ak + 1)) = 0 && (Al == 0)) := by simpa using Ay))
   clear Ay
   (first | rw [Aw] | (simp only [i64_w, i32_w]; rw [Aw]) | skip)
   have H' := Aside0.mk H
   clear H
   go_wp2
   go_meet
   case rel => exact ⟨_, (wrap64 (Ak + 1)), (Al), H', ⟨by first | omega | exact Nat.le_refl _⟩, ⟨bq1 Ae Af⟩, ⟨bq1 Ag Ad⟩, ⟨bq0 Ac⟩, ⟨bbw3 HB Am Ap Aq⟩⟩
 case rest =>
  clear BE
  try clear Ay
  try clear Aw
  try clear AR
  try clear AS
  try clear AA
  try clear AB
  try clear AE
  try clear AF
  try clear AG
  try clear AH
  try clear AM
  try clear AN
  try clear AU
  try clear AV
  try clear AW
  try clear AX
  try clear AC
  try clear AD
  try clear AI
  try clear AJ
  try clear AK
  try clear AL
  try clear AO
  try clear AP
  try clear AY
  try clear AZ
  try clear A0
  try clear A1
  obtain ⟨kq, Aa, Ab, HA, Cg, Ae, Ag, Ac, HB⟩ := hcut
  cases kq with
  | zero => exact absurd HA.out (by simp [spec_l02Axis.j0])
  | succ Ch =>
   have H := HA.out
   clear HA
   simp only [spec_l02Axis.j0] at H
   obtain ⟨Ah, Cd, H⟩ := ob H
   try dsimp only at H
   by_cases A2 : Ah = 0
   ·rw [if_pos A2] at H
    exact absurd H (by simp)
   rw [if_neg A2] at H
   have BO : (Ah == 0) = false := beq_eq_false_iff_ne.mpr A2
   have BP : (Ah != 0) = true := bne_iff_ne.mpr A2
   obtain ⟨AT, BQ, H⟩ := ob H
   try dsimp only at H
   by_cases A3 : AT = true
   subst A3
   replace H := ifT H
   obtain ⟨⟨BF, BG⟩, Ce, H⟩ := ob H
   try dsimp only at H
   rotate_left
   replace A3 := Bool.eq_false_iff.mpr A3
   subst A3
   replace H := ifF H
   rotate_left
   all_goals
    simp only [Option.some.injEq, Prod.mk.injEq] at H
    obtain ⟨rfl, rfl⟩ := H
    have BR := Ai.out
    have BS := Af.out
    have BT := Aj.out
    have BU := Ad.out
    obtain ⟨A4, A5, A6, A7⟩ := bz2 Ac
    try go_wp2_with (first | ((with_reducible refine gate_callee (f := 57) rfl ?_); refine gl 24 Tryz.func57 #[.int .i64 Aa, .int .i64 Ab] ?_; (with_reducible refine (spec_l01Divisor.calls _ _ _ _ _ Cd.out).mono ?_); rintro e Cf ⟨rfl, hb⟩; refine ⟨_, rfl, ?_⟩; replace Ae := bB Ae hb; replace Ag := bB Ag hb; replace Ac := bB Ac hb; replace HB := bS3 HB Am Ap Aq hb; (try clear hb)))
    replace Ae := asd (blk_drew Ae.out)
    replace Ag := asd (blk_drew Ag.out)
    replace Ac := asd (blk_drew Ac.out)
    replace HB := asd (below_drew1 HB.out)
    refine start_ (n := 10) (S := fun w' => w'.cell? ⟨At, 0, none⟩ = some (.int .i64 Aa) ∧ w'.cell? ⟨At, 1, none⟩ = some (.int .i64 Ab)) (ds := [9]) (bT 10 0) (by kernel_rfl) rfl rfl ⟨bcl Ac 0, bcl Ac 1⟩ (fun hHeld => ?_); refine with_tabW spec_l02Axis.tab5 spec_l02Axis.bits5 (fun HT_ HW_ => ?_)
    generalize Cf.drew = BV at Ae Ag Ac HB hHeld ⊢
    refine pu 0 (some 25) (bT 10 1) HT_ ?_
    refine pu 2 (some 27) (bs 10 5) HT_ ?_
    refine pu 4 (some 29) (bs 10 21) HT_ ?_
    refine pu 6 (some 31) (bs 10 85) HT_ ?_
    refine ta 1 (some 26) (bs 10 87) HT_ HW_ hHeld ?_
    refine pu 3 (some 28) (bs 10 95) HT_ ?_
    refine ta 5 (some 30) (bT 10 7) HT_ HW_ hHeld ?_
    refine pu 7 (some 32) (bT 10 8) HT_ ?_
    refine pu 8 (some 33) (bT 10 9) HT_ ?_
    refine last_ (i := 9) (N := none) (bT 10 10) rfl rfl (one_of HT_.out (by kernel_rfl)) (by decide) (fun K hK => ?_)
    have hs27 : BV.cell? ⟨At, 0, none⟩ = some (.int .i64 Aa) := bcl Ac 0
    have hfs27 := blk_frozen Ac.out 0
    have A8 := Af.out
    have A9 := Ad.out
    have Ba := Ai.out
    have Bb := Aj.out
    have hs28 : BV.cell? ⟨At, 1, none⟩ = some (.int .i64 Ab) := bcl Ac 1
    have hfs28 := blk_frozen Ac.out 1
    have Bc := Af.out
    have Bd := Ad.out
    have Be := Ai.out
    have Bf := Aj.out
    refine skip_ (w1 := ?_) (by rfl) rfl ?_ ?_
    rotate_left
    ·go_simp
     rfl
    refine hK.out _ _ ?_
    clear hK K
    refine done_ (done_of HT_.out (by kernel_rfl)) ?_
    obtain ⟨Bg, Bh, Bi, Bj⟩ := bz2 Ac
   ·try go_wp2_with (first | ((with_reducible refine gate_callee (f := 84) rfl ?_); refine gl 36 Tryz.func84 #[.agg #[.int .i64 (wrap64 (Int.tdiv Aa Ah)), .int .i64 (wrap64 (Int.tdiv Ab Ah))], .agg #[.int .i64 0, .int .i64 0]] ?_; (with_reducible refine (spec_l01Less.calls _ _ _ _ _ _ BQ.out).mono ?_); rintro e Ci ⟨rfl, hb⟩; refine ⟨_, rfl, ?_⟩; replace Ae := asd (blk_below (g := Az) (o := .cells #[.int .i64 Ak, .int .i64 Au, .int .i64 Al, .int .i64 Av] 42 (0, 0)) (bq1 Ae Af) hb); replace Ag := asd (blk_below (g := Ax) (o := .cells #[.int .i64 0, .int .i64 0] 44 (0, 0)) (bq1 Ag Ad) hb); replace Ac := asd (blk_below (g := At) (o := .cells #[.int .i64 (wrap64 (Int.tdiv Aa Ah)), .int .i64 (wrap64 (Int.tdiv Ab Ah))] 44 (0, 0)) (bq0 Ac) hb); replace HB := bS3 HB Am Ap Aq hb; (try clear hb); obtain ⟨Bk, Bl, Bm, Bn⟩ := bz2 Ac) | ((with_reducible refine gate_callee (f := 55) rfl ?_); refine gl 38 Tryz.func55 #[.agg #[.int .i64 (wrap64 (Int.tdiv Aa Ah)), .int .i64 (wrap64 (Int.tdiv Ab Ah))], .int .i64 (-1)] ?_; (with_reducible refine (spec_l01Scale.calls _ _ _ _ _ _ Ce.out).mono ?_); rintro e Cj ⟨rfl, hb⟩; refine ⟨_, rfl, ?_⟩; replace Ae := bB Ae hb; replace Ag := bB Ag hb; replace Ac := bB Ac hb; replace HB := bS3 HB Am Ap Aq hb; (try clear hb); obtain ⟨Bo, Bp, Bq, Br⟩ := bz2 Ac; have BW := Ao.out; have BX := An.out; obtain ⟨Bs, Bt, Bu, Bv⟩ := bz2 Ag))
    refine bodyPost_ret (results_cell_row rfl _ _ Ax 44 #[.int .i64 BF, .int .i64 BG] (0, 0) _ rfl (bq1 Ag Ad) Tryz.underlying44 rfl (by kernel_rfl)) rfl ?_
    exact er (bbw3 HB Am Ap Aq)
   ·try go_wp2_with (first | ((with_reducible refine gate_callee (f := 84) rfl ?_); refine gl 36 Tryz.func84 #[.agg #[.int .i64 (wrap64 (Int.tdiv Aa Ah)), .int .i64 (wrap64 (Int.tdiv Ab Ah))], .agg #[.int .i64 0, .int .i64 0]] ?_; (with_reducible refine (spec_l01Less.calls _ _ _ _ _ _ BQ.out).mono ?_); rintro e Ck ⟨rfl, hb⟩; refine ⟨_, rfl, ?_⟩; replace Ae := asd (blk_below (g := Az) (o := .cells #[.int .i64 Ak, .int .i64 Au, .int .i64 Al, .int .i64 Av] 42 (0, 0)) (bq1 Ae Af) hb); replace Ag := asd (blk_below (g := Ax) (o := .cells #[.int .i64 0, .int .i64 0] 44 (0, 0)) (bq1 Ag Ad) hb); replace Ac := asd (blk_below (g := At) (o := .cells #[.int .i64 (wrap64 (Int.tdiv Aa Ah)), .int .i64 (wrap64 (Int.tdiv Ab Ah))] 44 (0, 0)) (bq0 Ac) hb); replace HB := bS3 HB Am Ap Aq hb; (try clear hb); obtain ⟨Bw, Bx, By, Bz⟩ := bz2 Ac; have BY := Ao.out; have BZ := An.out; obtain ⟨BA, BB, BC, BD⟩ := bz2 Ag))
    refine bodyPost_ret (results_cell_row rfl _ _ Ax 44 #[.int .i64 (wrap64 (Int.tdiv Aa Ah)), .int .i64 (wrap64 (Int.tdiv Ab Ah))] (0, 0) _ rfl (bq0 Ag) Tryz.underlying44 rfl (by kernel_rfl)) rfl ?_
    exact er (bbw3 HB Am Ap Aq)
end Go.Proofs.YtfmjboloeabjmaaGreat.PA
