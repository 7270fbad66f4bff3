import Derived.Test.YtfmjboloeabjmaaGreatPAx0
import Derived.Test.YtfmjboloeabjmaaGreatPAx1
import Derived.Test.YtfmjboloeabjmaaGreatPAx2
import Derived.Test.YtfmjboloeabjmaaGreatPAx5
namespace Go.Proofs.YtfmjboloeabjmaaGreat.PA
open Go.RowKit Go.Proofs.YtfmjboloeabjmaaGreatW.PrintWords Go.Proofs.YtfmjboloeabjmaaGreatW.PrintLast Go.Proofs.YtfmjboloeabjmaaGreatW.PrintMore
attribute [local go_sem] max2_int min2_int max_two min_two max_three min_three max_four min_four   -- for this text's walks alone
set_option linter.unusedVariables false
set_option maxHeartbeats 8000000
set_option maxRecDepth 100000
set_option linter.unusedSimpArgs false
def spec_l01Divisor.f : Nat → Int → Int → Option (Int)
 | 0, _, _ => none
 | k + 1, a0, a1 => if a1 = 0 then (some (mx a0 (wrap64 (-a0)))) else ((spec_l01Divisor.f k a1 (Int.tmod a0 a1)).bind fun Aa => (some Aa))
theorem spec_l01Divisor.calls (k : Nat) : ∀ (a0 : Int) (a1 : Int) (r : Int) (w : World) (h : spec_l01Divisor.f k a0 a1 = some r),
  Calls Tryz.prog 57 #[.int .i64 a0, .int .i64 a1] w fun e w' => e = .returned (.int .i64 r) ∧ Below w.heap.size w w' := by
 induction k using Nat.strongRecOn with
 | _ k ih =>
 intro a0 a1 r w h
 cases k with
 | zero => exact absurd h (by simp [spec_l01Divisor.f])
 | succ k =>
 simp only [spec_l01Divisor.f] at h
 have HB := asd (Below.refl w.heap.size w)
 have H : (if a1 = 0 then (some (mx a0 (wrap64 (-a0)))) else ((spec_l01Divisor.f k a1 (Int.tmod a0 a1)).bind fun Aa => (some Aa))) = some r := h
 clear h
 by_cases c3 : a1 = 0
 ·rw [if_pos c3] at H
  have Ac : (a1 == 0) = true := beq_iff_eq.mpr c3
  have Ad : (a1 != 0) = false := bne_eq_false_iff_eq.mpr c3
  clear c3
  obtain ⟨Ae, Ab⟩ : ∃ j_ : Int, (mx a0 (wrap64 (-a0))) = j_ := ⟨_, rfl⟩
  replace H : (some Ae) = some r := by first | (rw [Ab] at H; first | done | exact H) | (simp only [Ab] at H ⊢; exact H)
  have Af : (if a0 < (wrap64 (-a0)) then (wrap64 (-a0)) else a0) = Ae := Ab
  obtain rfl := Option.some.inj H
  go_enter Tryz.func57, Tryz.ntmps57
  go_wp2
  go_ret
  exact ⟨by first | rfl | (simp [errW_none, errW_some] <;> rfl) | (simp only [← Ab]; first | rfl | (simp [errW_none, errW_some] <;> rfl)) | (simp [*, errW_none, errW_some] <;> rfl), bbw0 HB⟩
 ·rw [if_neg c3] at H
  have Ac : (a1 == 0) = false := beq_eq_false_iff_ne.mpr c3
  have Ad : (a1 != 0) = true := bne_iff_ne.mpr c3
  obtain ⟨Aa, A5, H⟩ := ob H
  try dsimp only at H
  obtain rfl := Option.some.inj H
  go_enter Tryz.func57, Tryz.ntmps57
  go_wp2_with (first | ((with_reducible refine gate_callee (f := 57) rfl ?_); refine gl 15 Tryz.func57 #[.int .i64 a1, .int .i64 (Int.tmod a0 a1)] ?_; (with_reducible refine (ih k (by omega) a1 (Int.tmod a0 a1) Aa _ A5.out).mono ?_); rintro e w6 ⟨rfl, hb⟩; refine ⟨_, rfl, ?_⟩; replace HB := bS0 HB hb; (try clear hb)))
  go_ret
  exact er (bbw0 HB)
def spec_l01Mod.f (a0 : Int) (a1 : Int) : Option (Int) := if a1 = 0 then (none) else (if (Int.tmod a0 a1) < 0 then (some (wrap64 ((Int.tmod a0 a1) + a1))) else (some (Int.tmod a0 a1)))
theorem spec_l01Mod.calls (a0 : Int) (a1 : Int) (r : Int) (w : World) (h : spec_l01Mod.f a0 a1 = some r) :
  Calls Tryz.prog 58 #[.int .i64 a0, .int .i64 a1] w fun e w' => e = .returned (.int .i64 r) ∧ Drawn0 w w' := by
 have H : (if a1 = 0 then (none) else (if (Int.tmod a0 a1) < 0 then (some (wrap64 ((Int.tmod a0 a1) + a1))) else (some (Int.tmod a0 a1)))) = some r := h
 clear h
 by_cases c3 : a1 = 0
 ·rw [if_pos c3] at H
  exact absurd H (by simp)
 rw [if_neg c3] at H
 have Ab : (a1 == 0) = false := beq_eq_false_iff_ne.mpr c3
 have Ac : (a1 != 0) = true := bne_iff_ne.mpr c3
 by_cases c4 : (Int.tmod a0 a1) < 0
 rw [if_pos c4] at H
 have Aa := decide_eq_true c4
 clear c4
 obtain rfl := Option.some.inj H
 rotate_left
 rw [if_neg c4] at H
 have Aa := decide_eq_false c4
 clear c4
 obtain rfl := Option.some.inj H
 rotate_left
 all_goals
  go_enter Tryz.func58, Tryz.ntmps58
  go_wp2
  go_ret
  exact ⟨by first | rfl | (simp; done) | (simp [*]; done), by repeat (first | exact Drawn0.refl _ | apply Drawn0.step)⟩
mutual
def spec_l03Hermite.l0 : Nat → List (S44) → Int → Int → Int → Int → Option (Int × Int × Int)
 | 0, _, _, _, _, _ => none
 | k + 1, x0, x4, x5, Aq, Ak => if x5 < (x0.length : Int) then (if 0 ≤ x5 then (spec_l03Hermite.l1 k x0 x4 x5 Aq Ak ((rd_T44 x0 x5).f0) ((rd_T44 x0 x5).f1)) else (none)) else (if Ak < 0 then ((spec_l01Scale.f Aq Ak (-1)).bind fun AE => (if x4 > 0 then ((spec_l01Mod.f AE.1 x4).bind fun AU => (some (x4, AU, AE.2))) else (some (x4, AE.1, AE.2)))) else (if x4 > 0 then ((spec_l01Mod.f Aq x4).bind fun AV => (some (x4, AV, Ak))) else (some (x4, Aq, Ak))))
def spec_l03Hermite.l1 : Nat → List (S44) → Int → Int → Int → Int → Int → Int → Option (Int × Int × Int)
 | 0, _, _, _, _, _, _, _ => none
 | k + 1, x0, x4, x5, Aq, Ak, AD, Av => if Av = 0 then ((spec_l01Divisor.f k x4 AD).bind fun Ay => (if Ay > 0 then ((spec_l01Mod.f Aq Ay).bind fun AW => (spec_l03Hermite.l0 k x0 Ay (wrap64 (x5 + 1)) AW Ak)) else (spec_l03Hermite.l0 k x0 Ay (wrap64 (x5 + 1)) Aq Ak))) else (spec_l03Hermite.l1 k x0 x4 x5 AD Av (wrap64 (Aq - (wrap64 ((wrap64 (Int.tdiv Ak Av)) * AD)))) (wrap64 (Ak - (wrap64 ((wrap64 (Int.tdiv Ak Av)) * Av)))))
end
def spec_l03Hermite.f (k : Nat) (l0 : List (S44)) : Option (Int × Int × Int) := spec_l03Hermite.l0 k l0 0 0 0 0
theorem spec_l03Hermite.calls (k : Nat) (A0 : Option Addr) (c0 : Nat) (l0 : List (S44)) (r1 : Int) (r2 : Int) (r3 : Int) (w : World) (hr0 : Kd.C k44 w A0 l0.length l0) (hc0 : l0.length ≤ c0) (h : spec_l03Hermite.f k l0 = some (r1, r2, r3)) :
  Calls Tryz.prog 104 #[.slice A0 l0.length c0] w fun e w' => e = .returned (.agg #[.int .i64 r1, .int .i64 r2, .int .i64 r3]) ∧ Below w.heap.size w w' := by
 have hu30 := Tryz.underlying30
 have hu44 := Tryz.underlying44
 have HR0 := Aside0.mk hr0
 have Dz := Aside0.mk hc0
 clear hr0 hc0
 have HB := asd (Below.refl w.heap.size w)
 have H : (spec_l03Hermite.l0 k l0 0 0 0 0) = some (r1, r2, r3) := h
 clear h
 have H' := Aside0.mk H
 clear H
 go_enter Tryz.func104, Tryz.ntmps104
 go_wp2_with (first | ((with_reducible refine gd 2 rfl ?_); refine bx #[.int .i64 0, .int .i64 0, .int .i64 0] 30 ?_; intro Ar hg w2 Aa hb; have Ah := ngw0 hg HB; replace HB := bS0 HB hb; clear hb hg) | ((with_reducible refine gd 3 rfl ?_); refine bx #[.int .i64 0, .int .i64 0] 44 ?_; intro Ax hg w3 Ab hb; have Al := ngw1 hg HB Ah; replace HB := bS1 HB Ah hb; have Ac := nlt hg Aa; have An := nsy (nlt hg Aa); replace Aa := bB Aa hb; clear hb hg; have Ds := An.out; have Dt := Ac.out; obtain ⟨AI, AJ, AK, AL⟩ := bz2 Ab))
 go_loopg [4, 5] k (fun kq v4 v5 w' => ∃ (At : Int) (Az : Int) (Af : Int) (Ae : Int), v4 = .int .i64 At ∧ v5 = .int .i64 Az ∧ Aside0 (spec_l03Hermite.l0 kq l0 At Az Af Ae = some (r1, r2, r3)) ∧ Aside0 (kq ≤ k) ∧ Aside0 (w'.heap[Ar]? = some (.cells #[.int .i64 0, .int .i64 0, .int .i64 0] 30 (0, 0))) ∧ Aside0 (w'.heap[Ax]? = some (.cells #[.int .i64 Af, .int .i64 Ae] 44 (0, 0))) ∧ Aside0 (Below w.heap.size w w'))
 case atStart => exact ⟨(0), (0), (0), (0), (by first | rfl | (simp; done) | (simp [*]; done)), (by first | rfl | (simp; done) | (simp [*]; done)), H', ⟨Nat.le_refl _⟩, ⟨bq1 Aa Ac⟩, ⟨bq0 Ab⟩, ⟨bbw2 HB Ah Al⟩⟩
 case round =>
  clear H'
  try clear AI
  try clear AJ
  try clear AK
  try clear AL
  obtain ⟨At, Az, Af, Ae, rfl, rfl, HA, AY, Aa, Ab, HB⟩ := hrel
  cases gk with
  | zero => exact absurd HA.out (by simp [spec_l03Hermite.l0])
  | succ k1 =>
   have H := HA.out
   clear HA
   simp only [spec_l03Hermite.l0] at H
   by_cases c6 : Az < (l0.length : Int)
   ·rw [if_pos c6] at H
    have A5 := decide_eq_true c6
    clear c6
    by_cases c7 : 0 ≤ Az
    ·rw [if_pos c7] at H
     have CQ := decide_eq_true c7
     clear c7
     have H' := Aside0.mk H
     clear H
     obtain ⟨p149, q149, ad149, e149, AM, AN⟩ := at_T44x HR0.out HB Az
     cases e149
     go_wp2_with (first | ((with_reducible refine gd 6 rfl ?_); refine bx #[.int .i64 0, .int .i64 0] 44 ?_; intro AT hg w8 Am hb; have Aw := ngw2 hg HB Ah Al; replace HB := bS2 HB Ah Al hb; have Ao := nlt hg Aa; have Au := nsy (nlt hg Aa); replace Aa := bB Aa hb; have Ap := nlt hg Ab; have As := nsy (nlt hg Ab); replace Ab := bB Ab hb; clear hb hg; have Du := Au.out; have Dv := Ao.out; have CS := As.out; have CT := Ap.out; obtain ⟨AO, AP, AQ, AR⟩ := bz2 Am))
     go_loopg [] k1 (fun kq w' => ∃ (Ai : Int) (Ag : Int) (Aj : Int) (Ad : Int), Aside0 (spec_l03Hermite.l1 kq l0 At Az Ai Ag Aj Ad = some (r1, r2, r3)) ∧ Aside0 (kq ≤ k1) ∧ Aside0 (w'.heap[Ar]? = some (.cells #[.int .i64 0, .int .i64 0, .int .i64 0] 30 (0, 0))) ∧ Aside0 (w'.heap[Ax]? = some (.cells #[.int .i64 Ai, .int .i64 Ag] 44 (0, 0))) ∧ Aside0 (w'.heap[AT]? = some (.cells #[.int .i64 Aj, .int .i64 Ad] 44 (0, 0))) ∧ Aside0 (Below w.heap.size w w'))
     case atStart => exact ⟨(Af), (Ae), ((rd_T44 l0 Az).f0), ((rd_T44 l0 Az).f1), H', ⟨Nat.le_refl _⟩, ⟨bq1 Aa Ao⟩, ⟨bq1 Ab Ap⟩, ⟨bq0 Am⟩, ⟨bbw3 HB Ah Al Aw⟩⟩
     case round =>
      clear H'
      try clear c6
      try clear A5
      try clear c7
      try clear CQ
      try clear AO
      try clear AP
      try clear AI
      try clear AJ
      try clear AQ
      try clear AR
      try clear AK
      try clear AL
      try clear AM
      try clear AN
      try clear p149
      try clear q149
      obtain ⟨Ai, Ag, Aj, Ad, HA, AZ, Aa, Ab, Am, HB⟩ := hrel
      cases gk with
      | zero => exact absurd HA.out (by simp [spec_l03Hermite.l1])
      | succ k2 =>
       have H := HA.out
       clear HA
       simp only [spec_l03Hermite.l1] at H
       by_cases AX : Ad = 0
       ·rw [if_pos AX] at H
        have A6 : (Ad == 0) = true := beq_iff_eq.mpr AX
        have A7 : (Ad != 0) = false := bne_eq_false_iff_eq.mpr AX
        clear AX
        obtain ⟨Ay, CU, H⟩ := ob H
        try dsimp only at H
        by_cases A1 : Ay > 0
        ·rw [if_pos A1] at H
         have A8 : decide (0 < Ay) = true := decide_eq_true A1
         clear A1
         obtain ⟨AW, Dw, H⟩ := ob H
         try dsimp only at H
         have H' := Aside0.mk H
         clear H
         have CV := Au.out
         have CW := Ao.out
         have CX := As.out
         have CY := Ap.out
         obtain ⟨Bj, Bk, Bl, Bm⟩ := bz2 Am
         go_wp2_with (first | ((with_reducible refine gate_callee (f := 57) rfl ?_); refine gl 48 Tryz.func57 #[.int .i64 At, .int .i64 Aj] ?_; (with_reducible refine (spec_l01Divisor.calls _ _ _ _ _ CU.out).mono ?_); rintro e AS ⟨rfl, hb⟩; refine ⟨_, rfl, ?_⟩; replace Aa := bB Aa hb; replace Ab := bB Ab hb; replace Am := bB Am hb; replace HB := bS3 HB Ah Al Aw hb; (try clear hb); have CZ := An.out; have C0 := Ac.out; obtain ⟨Bn, Bo, Bp, Bq⟩ := bz2 Ab) | ((with_reducible refine gate_callee (f := 58) rfl ?_); refine gl 54 Tryz.func58 #[.int .i64 Ai, .int .i64 Ay] ?_; (with_reducible refine (spec_l01Mod.calls _ _ _ _ Dw.out).mono ?_); rintro e w' ⟨rfl, ⟨nd, rfl⟩⟩; refine ⟨_, rfl, ?_⟩; (try (rw [drewN_self AS]; generalize hq_ : World.drewN AS _ = AS; have A9 : Aside0 (AS.heap[Ar]? = some (.cells #[.int .i64 0, .int .i64 0, .int .i64 0] 30 (0, 0))) := ⟨by rw [← hq_]; exact (bkp Aa)⟩; have Ba : Aside0 (AS.heap[Ax]? = some (.cells #[.int .i64 Ai, .int .i64 Ag] 44 (0, 0))) := ⟨by rw [← hq_]; exact (bkp Ab)⟩; have Bb : Aside0 (AS.heap[AT]? = some (.cells #[.int .i64 Aj, .int .i64 Ad] 44 (0, 0))) := ⟨by rw [← hq_]; exact (bkp Am)⟩; have C1 : Aside0 (Below w.heap.size w AS) := ⟨by rw [← hq_]; exact (bbw3 HB Ah Al Aw)⟩; clear Aa Ab Am HB hq_; have Aa := A9; have Ab := Ba; have Am := Bb; have HB := C1; clear A9 Ba Bb C1)); have Br : AS.cell? ⟨Ax, 0, none⟩ = some (.int .i64 Ai) := bcl Ab 0; have Bs : AS.cell? ⟨Ax, 1, none⟩ = some (.int .i64 Ag) := bcl Ab 1; have Bt := blk_frozen Ab.out 0; have Bu := blk_frozen Ab.out 1))
         go_roundg k2
         case measure => have := AY.out; have := AZ.out; omega
         case rel => exact ⟨(Ay), (wrap64 (Az + 1)), (AW), (Ag), (by first | rfl | (simp; done) | (simp [*]; done)), (by first | rfl | (simp; done) | (simp [*]; done)), H', ⟨by have := AY.out; have := AZ.out; omega⟩, ⟨bq1 Aa Ac⟩, ⟨bq0 Ab⟩, ⟨bbw3 HB Ah Al Aw⟩⟩
        ·rw [if_neg A1] at H
         have A8 : decide (0 < Ay) = false := decide_eq_false A1
         clear A1
         have H' := Aside0.mk H
         clear H
         have C2 := Au.out
         have C3 := Ao.out
         have C4 := As.out
         have C5 := Ap.out
         obtain ⟨Bv, Bw, Bx, By⟩ := bz2 Am
         go_wp2_with (first | ((with_reducible refine gate_callee (f := 57) rfl ?_); refine gl 48 Tryz.func57 #[.int .i64 At, .int .i64 Aj] ?_; (with_reducible refine (spec_l01Divisor.calls _ _ _ _ _ CU.out).mono ?_); rintro e DA ⟨rfl, hb⟩; refine ⟨_, rfl, ?_⟩; replace Aa := bB Aa hb; replace Ab := bB Ab hb; replace Am := bB Am hb; replace HB := bS3 HB Ah Al Aw hb; (try clear hb)))
         go_roundg k2
         case measure => have := AY.out; have := AZ.out; omega
         case rel => exact ⟨(Ay), (wrap64 (Az + 1)), (Ai), (Ag), (by first | rfl | (simp; done) | (simp [*]; done)), (by first | rfl | (simp; done) | (simp [*]; done)), H', ⟨by have := AY.out; have := AZ.out; omega⟩, ⟨bkp Aa⟩, ⟨bkp Ab⟩, ⟨bbw3 HB Ah Al Aw⟩⟩
       ·rw [if_neg AX] at H
        have A6 : (Ad == 0) = false := beq_eq_false_iff_ne.mpr AX
        have A7 : (Ad != 0) = true := bne_iff_ne.mpr AX
        have H' := Aside0.mk H
        clear H
        have C6 := Au.out
        have C7 := Ao.out
        have C8 := As.out
        have C9 := Ap.out
        obtain ⟨Bz, BA, BB, BC⟩ := bz2 Am
        have Da := An.out
        have Db := Ac.out
        obtain ⟨BD, BE, BF, BG⟩ := bz2 Ab
        go_wp2_with (first | ((with_reducible refine gd 8 rfl ?_); refine bx #[.int .i64 0, .int .i64 0] 44 ?_; intro Dc hg DB Bc hb; have Bd := ngw3 hg HB Ah Al Aw; replace HB := bS3 HB Ah Al Aw hb; have AA := nlt hg Aa; have AF := nsy (nlt hg Aa); replace Aa := bB Aa hb; have AB := nlt hg Ab; have AG := nsy (nlt hg Ab); replace Ab := bB Ab hb; have AC := nlt hg Am; have AH := nsy (nlt hg Am); replace Am := bB Am hb; clear hb hg; have Dd := AF.out; have De := AA.out; have Df := AG.out; have Dg := AB.out; have Dh := AH.out; have Di := AC.out; obtain ⟨BH, BI, BJ, BK⟩ := bz2 Bc; obtain ⟨BL, BM, BN, BO⟩ := bz2 Am; obtain ⟨BP, BQ, BR, BS⟩ := bz2 Ab))
        go_roundg k2
        case measure => have := AY.out; have := AZ.out; omega
        case rel => exact ⟨(Aj), (Ad), (wrap64 (Ai - (wrap64 ((wrap64 (Int.tdiv Ag Ad)) * Aj)))), (wrap64 (Ag - (wrap64 ((wrap64 (Int.tdiv Ag Ad)) * Ad)))), H', ⟨by have := AY.out; have := AZ.out; omega⟩, ⟨bq3 Aa Ao Ac AA⟩, ⟨bq2 Ab Ap AB⟩, ⟨bq2 Am As AC⟩, ⟨bbw4 HB Ah Al Aw Bd⟩⟩
    ·rw [if_neg c7] at H
     exact absurd H (by simp)
   ·rw [if_neg c6] at H
    have A5 := decide_eq_false c6
    clear c6
    by_cases A2 : Ae < 0
    ·rw [if_pos A2] at H
     have Be := decide_eq_true A2
     clear A2
     obtain ⟨⟨Bf, Bg⟩, Dj, H⟩ := ob H
     try dsimp only at H
     by_cases A3 : At > 0
     ·rw [if_pos A3] at H
      have Bh : decide (0 < At) = true := decide_eq_true A3
      clear A3
      obtain ⟨AU, Dx, H⟩ := ob H
      try dsimp only at H
      simp only [Option.some.injEq, Prod.mk.injEq] at H
      obtain ⟨rfl, rfl, rfl⟩ := H
      have Dk := An.out
      have Dl := Ac.out
      obtain ⟨BT, BU, BV, BW⟩ := bz2 Ab
      go_wp2_with (first | ((with_reducible refine gate_callee (f := 55) rfl ?_); refine gl 60 Tryz.func55 #[.agg #[.int .i64 Af, .int .i64 Ae], .int .i64 (-1)] ?_; (with_reducible refine (spec_l01Scale.calls _ _ _ _ _ _ Dj.out).mono ?_); rintro e CR ⟨rfl, hb⟩; refine ⟨_, rfl, ?_⟩; replace Aa := bB Aa hb; replace Ab := bB Ab hb; replace HB := bS2 HB Ah Al hb; (try clear hb); obtain ⟨BX, BY, BZ, B0⟩ := bz2 Ab) | ((with_reducible refine gate_callee (f := 58) rfl ?_); refine gl 66 Tryz.func58 #[.int .i64 Bf, .int .i64 At] ?_; (with_reducible refine (spec_l01Mod.calls _ _ _ _ Dx.out).mono ?_); rintro e w' ⟨rfl, ⟨nd, rfl⟩⟩; refine ⟨_, rfl, ?_⟩; have B3 : CR.cell? ⟨Ar, 0, none⟩ = some (.int .i64 0) := bcl Aa 0; have B8 : CR.cell? ⟨Ar, 1, none⟩ = some (.int .i64 0) := bcl Aa 1; have Ca : CR.cell? ⟨Ar, 2, none⟩ = some (.int .i64 0) := bcl Aa 2; have Cb := blk_frozen Aa.out 0; have Cc := blk_frozen Aa.out 1; have Cd := blk_frozen Aa.out 2))
      refine bodyPost_ret (results_cell_row rfl _ _ Ar 30 #[.int .i64 At, .int .i64 AU, .int .i64 Bg] (0, 0) _ rfl (bq1 Aa Ac) Tryz.underlying30 rfl (by kernel_rfl)) rfl ?_
      exact er (bbw2 HB Ah Al)
     ·rw [if_neg A3] at H
      have Bh : decide (0 < At) = false := decide_eq_false A3
      clear A3
      simp only [Option.some.injEq, Prod.mk.injEq] at H
      obtain ⟨rfl, rfl, rfl⟩ := H
      have Dm := An.out
      have Dn := Ac.out
      obtain ⟨Ce, Cf, Cg, Ch⟩ := bz2 Ab
      go_wp2_with (first | ((with_reducible refine gate_callee (f := 55) rfl ?_); refine gl 60 Tryz.func55 #[.agg #[.int .i64 Af, .int .i64 Ae], .int .i64 (-1)] ?_; (with_reducible refine (spec_l01Scale.calls _ _ _ _ _ _ Dj.out).mono ?_); rintro e DC ⟨rfl, hb⟩; refine ⟨_, rfl, ?_⟩; replace Aa := bB Aa hb; replace Ab := bB Ab hb; replace HB := bS2 HB Ah Al hb; (try clear hb); obtain ⟨Ci, Cj, Ck, Cl⟩ := bz2 Ab; obtain ⟨Cm, Cn, Co, Cp, Cq, Cr⟩ := bz3 Aa))
      refine bodyPost_ret (results_cell_row rfl _ _ Ar 30 #[.int .i64 At, .int .i64 Bf, .int .i64 Bg] (0, 0) _ rfl (bq1 Aa Ac) Tryz.underlying30 rfl (by kernel_rfl)) rfl ?_
      exact er (bbw2 HB Ah Al)
    ·rw [if_neg A2] at H
     have Be := decide_eq_false A2
     clear A2
     by_cases A4 : At > 0
     ·rw [if_pos A4] at H
      have Bi : decide (0 < At) = true := decide_eq_true A4
      clear A4
      obtain ⟨AV, Dy, H⟩ := ob H
      try dsimp only at H
      simp only [Option.some.injEq, Prod.mk.injEq] at H
      obtain ⟨rfl, rfl, rfl⟩ := H
      have Do := An.out
      have Dp := Ac.out
      obtain ⟨Cs, Ct, Cu, Cv⟩ := bz2 Ab
      go_wp2_with (first | ((with_reducible refine gate_callee (f := 58) rfl ?_); refine gl 66 Tryz.func58 #[.int .i64 Af, .int .i64 At] ?_; (with_reducible refine (spec_l01Mod.calls _ _ _ _ Dy.out).mono ?_); rintro e w' ⟨rfl, ⟨nd, rfl⟩⟩; refine ⟨_, rfl, ?_⟩; (try (rw [drewN_self wr]; generalize hq_ : World.drewN wr _ = wr; have A9 : Aside0 (wr.heap[Ar]? = some (.cells #[.int .i64 0, .int .i64 0, .int .i64 0] 30 (0, 0))) := ⟨by rw [← hq_]; exact (bkp Aa)⟩; have Ba : Aside0 (wr.heap[Ax]? = some (.cells #[.int .i64 Af, .int .i64 Ae] 44 (0, 0))) := ⟨by rw [← hq_]; exact (bkp Ab)⟩; have Bb : Aside0 (Below w.heap.size w wr) := ⟨by rw [← hq_]; exact (bbw2 HB Ah Al)⟩; clear Aa Ab HB hq_; have Aa := A9; have Ab := Ba; have HB := Bb; clear A9 Ba Bb)); have Cw : wr.cell? ⟨Ax, 0, none⟩ = some (.int .i64 Af) := bcl Ab 0; have Cx : wr.cell? ⟨Ax, 1, none⟩ = some (.int .i64 Ae) := bcl Ab 1; have Cy := blk_frozen Ab.out 0; have Cz := blk_frozen Ab.out 1; have CA : wr.cell? ⟨Ar, 0, none⟩ = some (.int .i64 0) := bcl Aa 0; have CB : wr.cell? ⟨Ar, 1, none⟩ = some (.int .i64 0) := bcl Aa 1; have CC : wr.cell? ⟨Ar, 2, none⟩ = some (.int .i64 0) := bcl Aa 2; have CD := blk_frozen Aa.out 0; have CE := blk_frozen Aa.out 1; have CF := blk_frozen Aa.out 2))
      refine bodyPost_ret (results_cell_row rfl _ _ Ar 30 #[.int .i64 At, .int .i64 AV, .int .i64 Ae] (0, 0) _ rfl (bq1 Aa Ac) Tryz.underlying30 rfl (by kernel_rfl)) rfl ?_
      exact er (bbw2 HB Ah Al)
     ·rw [if_neg A4] at H
      have Bi : decide (0 < At) = false := decide_eq_false A4
      clear A4
      simp only [Option.some.injEq, Prod.mk.injEq] at H
      obtain ⟨rfl, rfl, rfl⟩ := H
      have Dq := An.out
      have Dr := Ac.out
      obtain ⟨CG, CH, CI, CJ⟩ := bz2 Ab
      obtain ⟨CK, CL, CM, CN, CO, CP⟩ := bz3 Aa
      go_wp2
      refine bodyPost_ret (results_cell_row rfl _ _ Ar 30 #[.int .i64 At, .int .i64 Af, .int .i64 Ae] (0, 0) _ rfl (bq0 Aa) Tryz.underlying30 rfl (by kernel_rfl)) rfl ?_
      exact er (bbw2 HB Ah Al)
def spec_l04Image.f (k : Nat) (Ar : Int) (As : Int) (At : Int) (Au : Int) (Az : Int) (AA : Int) (AB : Int) : Option (Int × Int × Int) := (spec_l03Basis.f Az AA AB).bind fun Af => (if 0 < (Af.length : Int) then ((spec_l02Apply.f Ar As At Au ((rd_T44 Af 0).f0) ((rd_T44 Af 0).f1)).bind fun Av => (if 1 < (Af.length : Int) then ((spec_l02Apply.f Ar As At Au ((rd_T44 Af 1).f0) ((rd_T44 Af 1).f1)).bind fun Aw => ((spec_l03Hermite.f k (([(⟨Av.1, Av.2⟩ : S44), (⟨Aw.1, Aw.2⟩ : S44)] : List (S44)))).bind fun Ah => (some (Ah.1, Ah.2.1, Ah.2.2)))) else (none))) else (none))
def spec_l04Image.T2 : Bool × List (List Nat × List Nat) := (true, [([], []), ([], []), ([1], [1]), ([2], [2]), ([0, 3], [0, 3]), ([], []), ([], []), ([6], [6]), ([7], [7]), ([5, 8, 4], [5, 8]), ([4, 9], [4, 9]), ([10, 9], [10]), ([11, 11, 0, 1, 2, 3, 4, 5, 6, 7, 8, 9, 10, 11], [11])])
def spec_l04Image.B2 : List Nat := [0, 0, 2, 6, 15, 0, 0, 64, 192, 511, 1023, 2047, 4095]
theorem spec_l04Image.tab2 : rtab .any (opsOf Tryz.f80 2) = spec_l04Image.T2 := by kernel_rfl
theorem spec_l04Image.bits2 : waitsOk spec_l04Image.T2.2 spec_l04Image.B2 = true := by kernel_rfl
theorem spec_l04Image.calls (k : Nat) (Ar : Int) (As : Int) (At : Int) (Au : Int) (Az : Int) (AA : Int) (AB : Int) (r1 : Int) (r2 : Int) (r3 : Int) (w : World) (h : spec_l04Image.f k Ar As At Au Az AA AB = some (r1, r2, r3)) :
  Calls Tryz.prog 80 #[.agg #[.int .i64 Ar, .int .i64 As, .int .i64 At, .int .i64 Au], .agg #[.int .i64 Az, .int .i64 AA, .int .i64 AB]] w fun e w' => e = .returned (.agg #[.int .i64 r1, .int .i64 r2, .int .i64 r3]) ∧ Below w.heap.size w w' := by
 have hu42 := Tryz.underlying42
 have hu30 := Tryz.underlying30
 have hu44 := Tryz.underlying44
 have HB := asd (Below.refl w.heap.size w)
 have H : ((spec_l03Basis.f Az AA AB).bind fun Af => (if 0 < (Af.length : Int) then ((spec_l02Apply.f Ar As At Au ((rd_T44 Af 0).f0) ((rd_T44 Af 0).f1)).bind fun Av => (if 1 < (Af.length : Int) then ((spec_l02Apply.f Ar As At Au ((rd_T44 Af 1).f0) ((rd_T44 Af 1).f1)).bind fun Aw => ((spec_l03Hermite.f k (([(⟨Av.1, Av.2⟩ : S44), (⟨Aw.1, Aw.2⟩ : S44)] : List (S44)))).bind fun Ah => (some (Ah.1, Ah.2.1, Ah.2.2)))) else (none))) else (none))) = some (r1, r2, r3) := h
 clear h
 obtain ⟨Af, A3, H⟩ := ob H
 try dsimp only at H
 by_cases c4 : 0 < (Af.length : Int)
 ·rw [if_pos c4] at H
  have Bj := decide_eq_true c4
  have Bk : decide (0 < Af.length) = true := decide_eq_true (by omega)
  clear c4
  obtain ⟨⟨AD, AE⟩, A5, H⟩ := ob H
  try dsimp only at H
  by_cases c6 : 1 < (Af.length : Int)
  ·rw [if_pos c6] at H
   have Bl := decide_eq_true c6
   have Bm : decide (1 < Af.length) = true := decide_eq_true (by omega)
   clear c6
   obtain ⟨⟨AF, AG⟩, A7, H⟩ := ob H
   try dsimp only at H
   obtain ⟨AL, Ax⟩ : ∃ y_ : List (S44), y_ = (([(⟨AD, AE⟩ : S44), (⟨AF, AG⟩ : S44)] : List (S44))) := ⟨_, rfl⟩
   replace H : ((spec_l03Hermite.f k AL).bind fun Ah => (some (Ah.1, Ah.2.1, Ah.2.2))) = some (r1, r2, r3) := by first | (rw [Ax]; with_reducible exact H) | (have H2_ := (Option.bind_some _ _).symm.trans H; rw [Ax]; with_reducible exact H2_) | (have H2_ := (Option.bind_some _ _).symm.trans H; with_reducible exact H2_) | with_reducible exact H | (rw [Ax]; exact H) | exact H
   have AK := Aside0.mk Ax
   clear Ax
   obtain ⟨⟨A6, A9, Ba⟩, A8, H⟩ := ob H
   try dsimp only at H
   simp only [Option.some.injEq, Prod.mk.injEq] at H
   obtain ⟨rfl, rfl, rfl⟩ := H
   go_enter Tryz.func80, Tryz.ntmps80
   try go_wp2_with (first | ((with_reducible refine gd 2 rfl ?_); refine bx #[.int .i64 Ar, .int .i64 As, .int .i64 At, .int .i64 Au] 42 ?_; intro Bc hg w9 Aa hb; have Ag := ngw0 hg HB; replace HB := bS0 HB hb; clear hb hg) | ((with_reducible refine gd 3 rfl ?_); refine bx #[.int .i64 Az, .int .i64 AA, .int .i64 AB] 30 ?_; intro Bd hg Bo Ad hb; have Ak := ngw1 hg HB Ag; replace HB := bS1 HB Ag hb; have AH := nlt hg Aa; have AI := nsy (nlt hg Aa); replace Aa := bB Aa hb; clear hb hg) | ((with_reducible refine gd 4 rfl ?_); refine bx #[.int .i64 0, .int .i64 0, .int .i64 0] 30 ?_; intro AC hg Bp Ab hb; have Aq := ngw2 hg HB Ag Ak; replace HB := bS2 HB Ag Ak hb; have Ae := nlt hg Aa; have Ap := nsy (nlt hg Aa); replace Aa := bB Aa hb; have Ai := nlt hg Ad; have Aj := nsy (nlt hg Ad); replace Ad := bB Ad hb; clear hb hg; have Be := AI.out; have Bf := AH.out; have Bg := Ai.out; have Bh := Aj.out; obtain ⟨AM, AN, AO, AP, AQ, AR⟩ := bz3 Ad) | ((with_reducible refine gate_callee (f := 103) rfl ?_); refine gl 7 Tryz.func103 #[.agg #[.int .i64 Az, .int .i64 AA, .int .i64 AB]] ?_; (with_reducible refine (spec_l03Basis.calls _ _ _ _ _ A3.out).mono ?_); rintro e Bn ⟨v162, rfl, Bi, hb⟩; refine ⟨_, rfl, ?_⟩; have Ac := asd (Kd.R_lower Bi (bsz3 HB Ag Ak Aq)); replace Aa := bB Aa hb; replace Ad := bB Ad hb; replace Ab := bB Ab hb; replace HB := bS3 HB Ag Ak Aq hb; (try clear hb); (try clear hb2); (try clear hk); (try clear hi); (try clear Bi)))
   replace Ac := asd (Kd.R_drew Ac.out)
   replace Aa := asd (blk_drew Aa.out)
   replace Ad := asd (blk_drew Ad.out)
   replace Ab := asd (blk_drew Ab.out)
   replace HB := asd (below_drew1 HB.out)
   obtain ⟨Ao17, co17, eo17⟩ := Kd.R_slice Ac.out
   (first | subst eo17 | (injection eo17 with f1_ f2_ f3_; have f4_ := f1_.symm; have f5_ := f3_.symm; clear f1_ f2_ f3_; subst f4_; subst f5_))
   have p164 : 0 ≤ (0 : Int) := (by omega)
   have q164 : 0 < (Af.length : Int) := od
   obtain ⟨ad164, e164, Al, Am⟩ := at_T44 (Kd.R_reads' Ac.out).2.2 0 p164 q164
   cases e164
   have qi164 : (0 < Af.length) = True := eq_true (by omega)
   (try rw [show ((0 : Int)).toNat = 0 from rfl] at Al)
   (try rw [show 0 * 2 = 0 from rfl] at Al)
   (try rw [Addr.add_zero'] at Al)
   (try rw [show ((0 : Int)).toNat = 0 from rfl] at Am)
   (try rw [show 0 * 2 = 0 from rfl] at Am)
   (try rw [Addr.add_zero'] at Am)
   replace p164 := eq_true p164
   replace q164 := eq_true q164
   have p167 : 0 ≤ (1 : Int) := (by omega)
   have q167 : 1 < (Af.length : Int) := od
   obtain ⟨ad167, e167, An, Ao⟩ := at_T44 (Kd.R_reads' Ac.out).2.2 1 p167 q167
   obtain rfl : ad164 = ad167 := (by injection e167)
   (try simp only [show (1 : Int).toNat = 1 from rfl, Nat.reduceMul, Nat.reduceEqDiff, Go.Addr.add, ↓reduceIte] at An)
   (try simp only [show (1 : Int).toNat = 1 from rfl, Nat.reduceMul, Nat.reduceEqDiff, Go.Addr.add, ↓reduceIte] at Ao)
   have qi167 : (1 < Af.length) = True := eq_true (by omega)
   (try rw [show ((1 : Int)).toNat = 1 from rfl] at An)
   (try rw [show 1 * 2 = 2 from rfl] at An)
   (try rw [show ((1 : Int)).toNat = 1 from rfl] at Ao)
   (try rw [show 1 * 2 = 2 from rfl] at Ao)
   replace p167 := eq_true p167
   replace q167 := eq_true q167
   refine sh 13 (cb4 Aa (c1 Al (c1 Am (c1 An (e1 Ao))))) (fun hHeld => ?_); refine with_tabW spec_l04Image.tab2 spec_l04Image.bits2 (fun HT_ HW_ => ?_)
   generalize Bn.drew = Bq at Ac Aa Ad Ab HB Al Am An Ao hHeld ⊢
   refine pu 1 (some 9) (bs 13 2) HT_ ?_
   refine pu 2 (some 10) (bs 13 6) HT_ ?_
   refine pu 6 (some 14) (bs 13 70) HT_ ?_
   refine pu 7 (some 15) (bs 13 198) HT_ ?_
   refine ta 0 (some 8) (bs 13 199) HT_ HW_ hHeld ?_
   refine ta 3 (some 11) (bs 13 207) HT_ HW_ hHeld ?_
   refine ta 5 (some 13) (bs 13 239) HT_ HW_ hHeld ?_
   refine ta 8 (some 16) (bs 13 495) HT_ HW_ hHeld ?_
   refine ro 4 (some 12) (bT 13 9) HT_ (fun K hK => ?_)
   refine gs Tryz.func87 #[.agg #[.int .i64 Ar, .int .i64 As, .int .i64 At, .int .i64 Au], .agg #[.int .i64 ((rd_T44 Af 0).f0), .int .i64 ((rd_T44 Af 0).f1)]] ?_
   with_reducible refine (spec_l02Apply.calls _ _ _ _ _ _ _ _ _ A5.out).mono ?_
   rintro e Br ⟨rfl, hb⟩
   have HS4_ := hbc hb (hHeld.2.2.2.2.1)
   have HS5_ := hbc hb (hHeld.2.2.2.2.2.1)
   have HS6_ := hbc hb (hHeld.2.2.2.2.2.2.1)
   have HS7_ := hbc hb (hHeld.2.2.2.2.2.2.2)
   refine ⟨_, rfl, ?_⟩
   replace Ac := asd (Kd.R_below (kr Ac) hb)
   replace Aa := bB Aa hb
   replace Ad := bB Ad hb
   replace Ab := bB Ab hb
   replace HB := bS3 HB Ag Ak Aq hb
   (try clear hb)
   (try clear hb2)
   (try clear hk)
   (try clear hi)
   refine hK.out _ _ ⟨bcl Aa 0, bcl Aa 1, bcl Aa 2, bcl Aa 3, HS4_, HS5_, HS6_, HS7_⟩ (fun hHeld => ?_)
   clear hK K
   refine norm_ (a' := ?_) ?_ ?_
   rotate_left
   ·show Act.put _ (some 12) _ = _
    simp only [Act.put, sA, sB, sC, i64_w, i32_w]
    rfl
   refine ro 9 (some 17) (bT 13 10) HT_ (fun K hK => ?_)
   refine gs Tryz.func87 #[.agg #[.int .i64 Ar, .int .i64 As, .int .i64 At, .int .i64 Au], .agg #[.int .i64 ((rd_T44 Af 1).f0), .int .i64 ((rd_T44 Af 1).f1)]] ?_
   with_reducible refine (spec_l02Apply.calls _ _ _ _ _ _ _ _ _ A7.out).mono ?_
   rintro e Bs ⟨rfl, hb⟩
   have HS4_ := hbc hb (hHeld.2.2.2.2.1)
   have HS5_ := hbc hb (hHeld.2.2.2.2.2.1)
   have HS6_ := hbc hb (hHeld.2.2.2.2.2.2.1)
   have HS7_ := hbc hb (hHeld.2.2.2.2.2.2.2)
   refine ⟨_, rfl, ?_⟩
   replace Ac := asd (Kd.R_below (kr Ac) hb)
   replace Aa := bB Aa hb
   replace Ad := bB Ad hb
   replace Ab := bB Ab hb
   replace HB := bS3 HB Ag Ak Aq hb
   (try clear hb)
   (try clear hb2)
   (try clear hk)
   (try clear hi)
   refine hK.out _ _ ⟨bcl Aa 0, bcl Aa 1, bcl Aa 2, bcl Aa 3, HS4_, HS5_, HS6_, HS7_⟩ (fun hHeld => ?_)
   clear hK K
   refine norm_ (a' := ?_) ?_ ?_
   rotate_left
   ·show Act.put _ (some 17) _ = _
    simp only [Act.put, sA, sB, sC, i64_w, i32_w]
    rfl
   refine ro 10 (some 18) (bT 13 11) HT_ (fun K hK => ?_)
   refine Kd.R_lit_step k44 _ 44 ?hg (N := 18) ?hd (xs := ([(⟨AD, AE⟩ : S44), (⟨AF, AG⟩ : S44)] : List (S44))) (inner := [.int .i64 AD, .int .i64 AE, .int .i64 AF, .int .i64 AG]) (ok := fun _ => True) (okp := fun _ => True) ?hr ?hp (fun _ hk => hk) trivial (Below.refl _ _) (Nat.le_refl _) (by simp) ?_; (case hd => rfl); (case hg => rfl); (case hr => first | (go_simp; done) | (go_simp; rfl)); (case hp => exact (Reps.c2 (show Kd.M k44 _ _ _ (⟨AD, AE⟩ : S44) [.int .i64 AD, .int .i64 AE] from (k44_mkM _ _ _ (⟨AD, AE⟩ : S44) )) (Reps.c2 (show Kd.M k44 _ _ _ (⟨AF, AG⟩ : S44) [.int .i64 AF, .int .i64 AG] from (k44_mkM _ _ _ (⟨AF, AG⟩ : S44) )) (Reps.none _ _))))
   intro v171 Bt AJ hb hg_ hnew_
   have HS4_ := hbc hb (hHeld.2.2.2.2.1)
   have HS5_ := hbc hb (hHeld.2.2.2.2.2.1)
   have HS6_ := hbc hb (hHeld.2.2.2.2.2.2.1)
   have HS7_ := hbc hb (hHeld.2.2.2.2.2.2.2)
   clear hg_ hnew_
   (first | rw [← AK.out] at AJ | (simp only [Int.reduceToNat] at AJ; rw [← AK.out] at AJ))
   have Ay := asd (Kd.R_lower (Kd.R_new' AJ (Kd.R_lt (kr Ac))) (bsz3 HB Ag Ak Aq))
   replace Ac := asd (Kd.R_elder' (kr Ac) (Kd.R_base AJ) hb)
   replace Aa := bB Aa hb
   replace Ad := bB Ad hb
   replace Ab := bB Ab hb
   replace HB := bS3 HB Ag Ak Aq hb
   clear hb AJ
   obtain ⟨Ao22, co22, eo22⟩ := Kd.R_slice Ay.out
   (first | subst eo22 | (injection eo22 with f1_ f2_ f3_; have f4_ := f1_.symm; have f5_ := f3_.symm; clear f1_ f2_ f3_; subst f4_; subst f5_))
   refine hK.out _ _ ⟨bcl Aa 0, bcl Aa 1, bcl Aa 2, bcl Aa 3, HS4_, HS5_, HS6_, HS7_⟩ (fun hHeld => ?_)
   clear hK K
   refine norm_ (a' := ?_) ?_ ?_
   rotate_left
   ·show Act.put _ (some 18) _ = _
    simp only [Act.put, sA, sB, sC, i64_w, i32_w]
    rfl
   refine ro 11 (some 19) (bT 13 12) HT_ (fun K hK => ?_)
   refine gs Tryz.func104 #[.slice Ao22 AL.length co22] ?_
   with_reducible refine (spec_l03Hermite.calls _ _ _ _ _ _ _ _ ?side1 ?side2 A8.out).mono ?_
   (case side1 => exact ks (Kd.R_reads' Ay.out).2.2)
   (case side2 => exact (Kd.R_reads' Ay.out).2.1)
   rintro e Bb ⟨rfl, hb⟩
   have HS4_ := hbc hb (hHeld.2.2.2.2.1)
   have HS5_ := hbc hb (hHeld.2.2.2.2.2.1)
   have HS6_ := hbc hb (hHeld.2.2.2.2.2.2.1)
   have HS7_ := hbc hb (hHeld.2.2.2.2.2.2.2)
   refine ⟨_, rfl, ?_⟩
   replace Ac := asd (Kd.R_below (kr Ac) hb)
   replace Ay := asd (Kd.R_below (kr Ay) hb)
   replace Aa := bB Aa hb
   replace Ad := bB Ad hb
   replace Ab := bB Ab hb
   replace HB := bS3 HB Ag Ak Aq hb
   (try clear hb)
   (try clear hb2)
   (try clear hk)
   (try clear hi)
   refine hK.out _ _ ⟨bcl Aa 0, bcl Aa 1, bcl Aa 2, bcl Aa 3, HS4_, HS5_, HS6_, HS7_⟩ (fun hHeld => ?_)
   clear hK K
   refine norm_ (a' := ?_) ?_ ?_
   rotate_left
   ·show Act.put _ (some 19) _ = _
    simp only [Act.put, sA, sB, sC, i64_w, i32_w]
    rfl
   refine ro 12 (none) (bT 13 13) HT_ (fun K hK => ?_)
   have hs24 : Bb.cell? ⟨AC, 0, none⟩ = some (.int .i64 0) := bcl Ab 0
   have hfs24 := blk_frozen Ab.out 0
   have AS := Ae.out
   have AT := Ai.out
   have AU := Ap.out
   have AV := Aj.out
   have hs25 : Bb.cell? ⟨AC, 1, none⟩ = some (.int .i64 0) := bcl Ab 1
   have hfs25 := blk_frozen Ab.out 1
   have AW := Ae.out
   have AX := Ai.out
   have AY := Ap.out
   have AZ := Aj.out
   have hs26 : Bb.cell? ⟨AC, 2, none⟩ = some (.int .i64 0) := bcl Ab 2
   have hfs26 := blk_frozen Ab.out 2
   have A0 := Ae.out
   have A1 := Ai.out
   have A2 := Ap.out
   have A4 := Aj.out
   refine skip_ (w1 := ?_) (by rfl) rfl ?_ ?_
   rotate_left
   ·go_simp
    rfl
   refine hK.out _ _ ⟨(cf3 Ae (hHeld.1)), (cf3 Ae (hHeld.2.1)), (cf3 Ae (hHeld.2.2.1)), (cf3 Ae (hHeld.2.2.2.1)), (fx3 (Kd.own_blk (Kd.R_ne Ac.out Ab.out (by decide))) (hHeld.2.2.2.2.1)), (fx3 (Kd.own_blk (Kd.R_ne Ac.out Ab.out (by decide))) (hHeld.2.2.2.2.2.1)), (fx3 (Kd.own_blk (Kd.R_ne Ac.out Ab.out (by decide))) (hHeld.2.2.2.2.2.2.1)), (fx3 (Kd.own_blk (Kd.R_ne Ac.out Ab.out (by decide))) (hHeld.2.2.2.2.2.2.2))⟩ (fun hHeld => ?_)
   clear hK K
   refine done_ (done_of HT_.out (by kernel_rfl)) ?_
   try go_wp2
   refine bodyPost_ret (results_cell_row rfl _ _ AC 30 #[.int .i64 A6, .int .i64 A9, .int .i64 Ba] (0, 0) _ rfl (bq0 Ab) Tryz.underlying30 rfl (by kernel_rfl)) rfl ?_
   exact er (bbw3 HB Ag Ak Aq)
  ·rw [if_neg c6] at H
   exact absurd H (by simp)
 ·rw [if_neg c4] at H
  exact absurd H (by simp)
attribute [local go_sem high] eqA30
def spec_IsSuitable.f (k : Nat) (a0 : Int) (Ac : Int) (Ad : Int) (Ae : Int) (Ai : Int) (Aj : Int) (Ak : Int) (Al : Int) (An : Int) (Ao : Int) : Option (Bool) := (spec_l04Code.f a0 Ac Ad Ae).bind fun Am => (if Am = 0 then ((spec_IsPointMat.f a0 Ai Aj Ak Al).bind fun As => (if As = true then ((spec_l04Image.f k Ai Aj Ak Al Ac Ad Ae).bind fun Ag => (if (Ag.1 == Ac && (Ag.2.1 == Ad && (Ag.2.2 == Ae))) = true then ((spec_IsVec.f An Ao).bind fun At => (some At)) else (some false))) else (some false))) else (some false))
def spec_IsSuitable.T1 : Bool × List (List Nat × List Nat) := (true, [([], []), ([], []), ([0, 1], [0, 1]), ([2], [2]), ([3, 2], [3]), ([4], [4]), ([4], [4]), ([6, 4], [4, 6]), ([5, 7, 4, 4], [4, 5, 7]), ([4, 8], [4, 8]), ([9, 8], [9]), ([10], [10]), ([11, 10], [10, 11]), ([10], [10]), ([12, 13, 10, 10], [10, 12, 13]), ([10], [10]), ([14, 15, 10], [10, 14, 15]), ([10, 16], [10, 16]), ([17, 14], [17]), ([18], [18]), ([19, 18], [18, 19]), ([20, 18, 18], [18, 20]), ([18, 21], [18, 21]), ([22, 21, 0, 1, 2, 3, 4, 5, 6, 7, 8, 9, 10, 11, 12, 13, 14, 15, 16, 17, 18, 19, 20, 21, 22], [22])])
def spec_IsSuitable.B1 : List Nat := [0, 0, 3, 7, 15, 31, 31, 95, 255, 511, 1023, 2047, 4095, 2047, 16383, 2047, 65535, 131071, 262143, 524287, 1048575, 2097151, 4194303, 8388607]
theorem spec_IsSuitable.tab1 : rtab .any (opsOf Tryz.f44 1) = spec_IsSuitable.T1 := by kernel_rfl
theorem spec_IsSuitable.bits1 : waitsOk spec_IsSuitable.T1.2 spec_IsSuitable.B1 = true := by kernel_rfl
theorem spec_IsSuitable.calls (k : Nat) (a0 : Int) (Ac : Int) (Ad : Int) (Ae : Int) (Ai : Int) (Aj : Int) (Ak : Int) (Al : Int) (An : Int) (Ao : Int) (r : Bool) (w : World) (h : spec_IsSuitable.f k a0 Ac Ad Ae Ai Aj Ak Al An Ao = some r) :
  Calls Tryz.prog 44 #[.int .i64 a0, .agg #[.int .i64 Ac, .int .i64 Ad, .int .i64 Ae], .agg #[.int .i64 Ai, .int .i64 Aj, .int .i64 Ak, .int .i64 Al, .int .i64 An, .int .i64 Ao]] w fun e w' => e = .returned (.bool r) ∧ Below w.heap.size w w' := by
 have hu30 := Tryz.underlying30
 have hu46 := Tryz.underlying46
 have hu42 := Tryz.underlying42
 have hu44 := Tryz.underlying44
 have HB := asd (Below.refl w.heap.size w)
 have H : ((spec_l04Code.f a0 Ac Ad Ae).bind fun Am => (if Am = 0 then ((spec_IsPointMat.f a0 Ai Aj Ak Al).bind fun As => (if As = true then ((spec_l04Image.f k Ai Aj Ak Al Ac Ad Ae).bind fun Ag => (if (Ag.1 == Ac && (Ag.2.1 == Ad && (Ag.2.2 == Ae))) = true then ((spec_IsVec.f An Ao).bind fun At => (some At)) else (some false))) else (some false))) else (some false))) = some r := h
 clear h
 obtain ⟨Am, A4, H⟩ := ob H
 try dsimp only at H
 by_cases c5 : Am = 0
 rw [if_pos c5] at H
 have Aw : (Am == 0) = true := beq_iff_eq.mpr c5
 have Ax : (Am != 0) = false := bne_eq_false_iff_eq.mpr c5
 clear c5
 obtain ⟨As, A6, H⟩ := ob H
 try dsimp only at H
 by_cases c7 : As = true
 subst c7
 replace H := ifT H
 obtain ⟨⟨Ap, Aq, Ar⟩, A8, H⟩ := ob H
 try dsimp only at H
 by_cases c9 : (Ap == Ac && (Aq == Ad && (Ar == Ae))) = true
 rw [if_pos c9] at H
 have Ay := c9
 (try (have Az : decide (Ap = Ac && (Aq == Ad && (Ar == Ae))) = true := by simpa using c9))
 (try (have AA : (Ap == Ac && (Aq == Ad && (Ar == Ae))) = true := by simpa using c9))
 clear c9
 obtain ⟨At, AD, H⟩ := ob H
 try dsimp only at H
 obtain rfl := Option.some.inj H
 rotate_left
 rw [if_neg c9] at H
 have Ay : (Ap == Ac && (Aq == Ad && (Ar == Ae))) = false := by simpa using c9
 (try (have Az : decide (Ap = Ac && (Aq == Ad && (Ar == Ae))) = false := by simpa using c9))
 (try (have AA : (Ap == Ac && (Aq == Ad && (Ar == Ae))) = false := by simpa using c9))
 (try (have AE : ¬ (Ap = Ac && (Aq == Ad && (Ar == Ae))) := by simpa using c9))
 clear c9
 obtain rfl := Option.some.inj H
 rotate_left
 replace c7 := Bool.eq_false_iff.mpr c7
 subst c7
 replace H := ifF H
 obtain rfl := Option.some.inj H
 rotate_left
 rw [if_neg c5] at H
 have Aw : (Am == 0) = false := beq_eq_false_iff_ne.mpr c5
 have Ax : (Am != 0) = true := bne_iff_ne.mpr c5
 obtain rfl := Option.some.inj H
 rotate_left
 all_goals
  go_enter Tryz.func44, Tryz.ntmps44
  try go_wp2_with (first | ((with_reducible refine gd 4 rfl ?_); refine bx #[.int .i64 Ac, .int .i64 Ad, .int .i64 Ae] 30 ?_; intro AB hg AF Aa hb; have Af := ngw0 hg HB; replace HB := bS0 HB hb; clear hb hg) | ((with_reducible refine gd 5 rfl ?_); refine bx #[.int .i64 Ai, .int .i64 Aj, .int .i64 Ak, .int .i64 Al, .int .i64 An, .int .i64 Ao] 46 ?_; intro AC hg w12 Ab hb; have Ah := ngw1 hg HB Af; replace HB := bS1 HB Af hb; have Au := nlt hg Aa; have Av := nsy (nlt hg Aa); replace Aa := bB Aa hb; clear hb hg))
  replace Aa := asd (blk_drew Aa.out)
  replace Ab := asd (blk_drew Ab.out)
  replace HB := asd (below_drew1 HB.out)
 refine sh 24 (cb3 Aa (eb6 Ab)) (fun hHeld => ?_); refine with_tabW spec_IsSuitable.tab1 spec_IsSuitable.bits1 (fun HT_ HW_ => ?_)
 rotate_left
 refine sh 24 (cb3 Aa (eb6 Ab)) (fun hHeld => ?_); refine with_tabW spec_IsSuitable.tab1 spec_IsSuitable.bits1 (fun HT_ HW_ => ?_)
 rotate_left
 refine sh 24 (cb3 Aa (eb6 Ab)) (fun hHeld => ?_); refine with_tabW spec_IsSuitable.tab1 spec_IsSuitable.bits1 (fun HT_ HW_ => ?_)
 rotate_left
 refine sh 24 (eb3 Aa) (fun hHeld => ?_); refine with_tabW spec_IsSuitable.tab1 spec_IsSuitable.bits1 (fun HT_ HW_ => ?_)
 rotate_left
 all_goals
  generalize w12.drew = AG at Aa Ab HB hHeld ⊢
  refine pu 0 (some 7) (bT 24 1) HT_ ?_
  refine ta 1 (some 8) (bT 24 2) HT_ HW_ hHeld ?_
  refine ro 2 (some 9) (bT 24 3) HT_ (fun K hK => ?_)
  refine gs Tryz.func43 #[.int .i64 a0, .agg #[.int .i64 Ac, .int .i64 Ad, .int .i64 Ae]] ?_
  with_reducible refine (spec_l04Code.calls _ _ _ _ _ _ A4.out).mono ?_
  rintro e AH ⟨rfl, hb⟩
  refine ⟨_, rfl, ?_⟩
  replace Aa := bB Aa hb
  replace Ab := bB Ab hb
  replace HB := bS2 HB Af Ah hb
  (try clear hb)
  (try clear hb2)
  (try clear hk)
  (try clear hi)
 rotate_left 3
 ·refine hK.out _ _ (eb3 Aa).out (fun hHeld => ?_)
  clear hK K
  refine norm_ (a' := ?_) ?_ ?_
  rotate_left
  ·show Act.put _ (some 9) _ = _
   simp only [Act.put, sA, sB, sC, i64_w, i32_w]
   rfl
  refine pu 3 (some 10) (bT 24 4) HT_ ?_
  refine pu 4 (some 11) (bT 24 5) HT_ ?_
  refine pf 5 (some 12) (bT 24 6) HT_ ?_
  refine pf 6 (some 13) (bT 24 7) HT_ ?_
  refine pf 7 (some 14) (bT 24 8) HT_ ?_
  refine pf 8 (some 15) (bT 24 9) HT_ ?_
  refine pu 9 (some 16) (bT 24 10) HT_ ?_
  refine pu 10 (some 17) (bT 24 11) HT_ ?_
  refine pf 11 (some 18) (bT 24 12) HT_ ?_
  refine pf 12 (some 19) (bT 24 13) HT_ ?_
  refine pf 13 (some 20) (bT 24 14) HT_ ?_
  refine pf 14 (some 21) (bT 24 15) HT_ ?_
  refine pf 15 (some 22) (bT 24 16) HT_ ?_
  refine pf 16 (some 23) (bT 24 17) HT_ ?_
  refine pu 17 (some 24) (bT 24 18) HT_ ?_
  refine pu 18 (some 25) (bT 24 19) HT_ ?_
  refine pf 19 (some 26) (bT 24 20) HT_ ?_
  refine pf 20 (some 27) (bT 24 21) HT_ ?_
  refine pf 21 (some 28) (bT 24 22) HT_ ?_
  refine pu 22 (some 29) (bT 24 23) HT_ ?_
  refine pu 23 (some 6) (bT 24 24) HT_ ?_
  refine done_ (done_of HT_.out (by kernel_rfl)) ?_
  try go_wp2
  go_ret
  exact er (bbw2 HB Af Ah)
 all_goals
  refine hK.out _ _ (cb3 Aa (eb6 Ab)).out (fun hHeld => ?_)
  clear hK K
  refine norm_ (a' := ?_) ?_ ?_
  rotate_left
  ·show Act.put _ (some 9) _ = _
   simp only [Act.put, sA, sB, sC, i64_w, i32_w]
   rfl
  refine pu 3 (some 10) (bT 24 4) HT_ ?_
  refine pu 4 (some 11) (bT 24 5) HT_ ?_
  refine pu 5 (some 12) (bT 24 6) HT_ ?_
  refine pu 6 (some 13) (bT 24 7) HT_ ?_
  refine ta 7 (some 14) (bT 24 8) HT_ HW_ hHeld ?_
  refine ro 8 (some 15) (bT 24 9) HT_ (fun K hK => ?_)
  refine gs Tryz.func79 #[.int .i64 a0, .agg #[.int .i64 Ai, .int .i64 Aj, .int .i64 Ak, .int .i64 Al]] ?_
  with_reducible refine (spec_IsPointMat.calls _ _ _ _ _ _ _ A6.out).mono ?_
  rintro e AI ⟨rfl, hb⟩
  refine ⟨_, rfl, ?_⟩
  replace Aa := bB Aa hb
  replace Ab := bB Ab hb
  replace HB := bS2 HB Af Ah hb
  (try clear hb)
  (try clear hb2)
  (try clear hk)
  (try clear hi)
  refine hK.out _ _ (cb3 Aa (eb6 Ab)).out (fun hHeld => ?_)
  clear hK K
  refine norm_ (a' := ?_) ?_ ?_
  rotate_left
  ·show Act.put _ (some 15) _ = _
   simp only [Act.put, sA, sB, sC, i64_w, i32_w]
   rfl
  refine pu 9 (some 16) (bT 24 10) HT_ ?_
  refine pu 10 (some 17) (bT 24 11) HT_ ?_
 rotate_left 2
 ·refine pf 11 (some 18) (bT 24 12) HT_ ?_
  refine pf 12 (some 19) (bT 24 13) HT_ ?_
  refine pf 13 (some 20) (bT 24 14) HT_ ?_
  refine pf 14 (some 21) (bT 24 15) HT_ ?_
  refine pf 15 (some 22) (bT 24 16) HT_ ?_
  refine pf 16 (some 23) (bT 24 17) HT_ ?_
  refine pu 17 (some 24) (bT 24 18) HT_ ?_
  refine pu 18 (some 25) (bT 24 19) HT_ ?_
  refine pf 19 (some 26) (bT 24 20) HT_ ?_
  refine pf 20 (some 27) (bT 24 21) HT_ ?_
  refine pf 21 (some 28) (bT 24 22) HT_ ?_
  refine pu 22 (some 29) (bT 24 23) HT_ ?_
  refine pu 23 (some 6) (bT 24 24) HT_ ?_
  refine done_ (done_of HT_.out (by kernel_rfl)) ?_
  try go_wp2
  go_ret
  exact er (bbw2 HB Af Ah)
 all_goals
  refine pu 11 (some 18) (bT 24 12) HT_ ?_
  refine ta 12 (some 19) (bT 24 13) HT_ HW_ hHeld ?_
  refine ta 13 (some 20) (bT 24 14) HT_ HW_ hHeld ?_
  refine ta 15 (some 22) (bs 24 49151) HT_ HW_ hHeld ?_
  refine ro 14 (some 21) (bT 24 16) HT_ (fun K hK => ?_)
  refine gs Tryz.func80 #[.agg #[.int .i64 Ai, .int .i64 Aj, .int .i64 Ak, .int .i64 Al], .agg #[.int .i64 Ac, .int .i64 Ad, .int .i64 Ae]] ?_
  with_reducible refine (spec_l04Image.calls _ _ _ _ _ _ _ _ _ _ _ _ A8.out).mono ?_
  rintro e AJ ⟨rfl, hb⟩
  refine ⟨_, rfl, ?_⟩
  replace Aa := bB Aa hb
  replace Ab := bB Ab hb
  replace HB := bS2 HB Af Ah hb
  (try clear hb)
  (try clear hb2)
  (try clear hk)
  (try clear hi)
  refine hK.out _ _ (cb3 Aa (eb6 Ab)).out (fun hHeld => ?_)
  clear hK K
  refine norm_ (a' := ?_) ?_ ?_
  rotate_left
  ·show Act.put _ (some 21) _ = _
   simp only [Act.put, sA, sB, sC, i64_w, i32_w]
   rfl
  refine pu 16 (some 23) (bT 24 17) HT_ ?_
  refine pu 17 (some 24) (bT 24 18) HT_ ?_
  refine pu 18 (some 25) (bT 24 19) HT_ ?_
 focus
  refine pu 19 (some 26) (bT 24 20) HT_ ?_
  refine ta 20 (some 27) (bT 24 21) HT_ HW_ hHeld ?_
  refine ro 21 (some 28) (bT 24 22) HT_ (fun K hK => ?_)
  refine gs Tryz.func81 #[.agg #[.int .i64 An, .int .i64 Ao]] ?_
  with_reducible refine (spec_IsVec.calls _ _ _ _ AD.out).mono ?_
  rintro e AK ⟨rfl, hb⟩
  refine ⟨_, rfl, ?_⟩
  replace Aa := bB Aa hb
  replace Ab := bB Ab hb
  replace HB := bS2 HB Af Ah hb
  (try clear hb)
  (try clear hb2)
  (try clear hk)
  (try clear hi)
  refine hK.out _ _ (cb3 Aa (eb6 Ab)).out (fun hHeld => ?_)
  clear hK K
  refine norm_ (a' := ?_) ?_ ?_
  rotate_left
  ·show Act.put _ (some 28) _ = _
   simp only [Act.put, sA, sB, sC, i64_w, i32_w]
   rfl
  refine pu 22 (some 29) (bT 24 23) HT_ ?_
 rotate_left
 refine pf 19 (some 26) (bT 24 20) HT_ ?_
 refine pf 20 (some 27) (bT 24 21) HT_ ?_
 refine pf 21 (some 28) (bT 24 22) HT_ ?_
 refine pu 22 (some 29) (bT 24 23) HT_ ?_
 rotate_left
 all_goals
  refine pu 23 (some 6) (bT 24 24) HT_ ?_
  refine done_ (done_of HT_.out (by kernel_rfl)) ?_
  try go_wp2
  go_ret
  exact er (bbw2 HB Af Ah)
attribute [local go_sem high] eqA42
def spec_l03Reduce.f (Ag : Int) (Ah : Int) (Ac : Int) (Ai : Int) (Ae : Int) : Option (Int × Int) := (spec_l01Mod.f Ae Ac).bind fun Aj => (if Ac = 0 then (none) else ((spec_l01Mod.f (wrap64 (Ai - (wrap64 ((wrap64 (Int.tdiv (wrap64 (Ae - Aj)) Ac)) * Ah)))) Ag).bind fun Au => (some (Au, Aj))))
theorem spec_l03Reduce.calls (Ag : Int) (Ah : Int) (Ac : Int) (Ai : Int) (Ae : Int) (r1 : Int) (r2 : Int) (w : World) (h : spec_l03Reduce.f Ag Ah Ac Ai Ae = some (r1, r2)) :
  Calls Tryz.prog 82 #[.agg #[.int .i64 Ag, .int .i64 Ah, .int .i64 Ac], .agg #[.int .i64 Ai, .int .i64 Ae]] w fun e w' => e = .returned (.agg #[.int .i64 r1, .int .i64 r2]) ∧ Below w.heap.size w w' := by
 have hu30 := Tryz.underlying30
 have hu44 := Tryz.underlying44
 have HB := asd (Below.refl w.heap.size w)
 have H : ((spec_l01Mod.f Ae Ac).bind fun Aj => (if Ac = 0 then (none) else ((spec_l01Mod.f (wrap64 (Ai - (wrap64 ((wrap64 (Int.tdiv (wrap64 (Ae - Aj)) Ac)) * Ah)))) Ag).bind fun Au => (some (Au, Aj))))) = some (r1, r2) := h
 clear h
 obtain ⟨Aj, A3, H⟩ := ob H
 try dsimp only at H
 by_cases c4 : Ac = 0
 ·rw [if_pos c4] at H
  exact absurd H (by simp)
 ·rw [if_neg c4] at H
  have A2 : (Ac == 0) = false := beq_eq_false_iff_ne.mpr c4
  have A4 : (Ac != 0) = true := bne_iff_ne.mpr c4
  obtain ⟨Au, A5, H⟩ := ob H
  try dsimp only at H
  simp only [Option.some.injEq, Prod.mk.injEq] at H
  obtain ⟨rfl, rfl⟩ := H
  go_enter Tryz.func82, Tryz.ntmps82
  go_wp2_with (first | ((with_reducible refine gd 2 rfl ?_); refine bx #[.int .i64 Ag, .int .i64 Ah, .int .i64 Ac] 30 ?_; intro Ak hg w6 Aa hb; have Af := ngw0 hg HB; replace HB := bS0 HB hb; clear hb hg) | ((with_reducible refine gd 3 rfl ?_); refine bx #[.int .i64 Ai, .int .i64 Ae] 44 ?_; intro An hg w7 Ab hb; have Al := ngw1 hg HB Af; replace HB := bS1 HB Af hb; have Ao := nlt hg Aa; have Ap := nsy (nlt hg Aa); replace Aa := bB Aa hb; clear hb hg) | ((with_reducible refine gd 4 rfl ?_); refine bx #[.int .i64 0, .int .i64 0] 44 ?_; intro Am hg w8 Ad hb; have Av := ngw2 hg HB Af Al; replace HB := bS2 HB Af Al hb; have Aq := nlt hg Aa; have Ar := nsy (nlt hg Aa); replace Aa := bB Aa hb; have As := nlt hg Ab; have At := nsy (nlt hg Ab); replace Ab := bB Ab hb; clear hb hg; have A6 := Ap.out; have A7 := Ao.out; have AY := As.out; have AZ := At.out; obtain ⟨AA, AB, AC, AD⟩ := bz2 Ab; have A0 := Aq.out; have A1 := Ar.out; obtain ⟨AE, AF, AG, AH, AI, AJ⟩ := bz3 Aa) | ((with_reducible refine gate_callee (f := 58) rfl ?_); refine gl 11 Tryz.func58 #[.int .i64 Ae, .int .i64 Ac] ?_; (with_reducible refine (spec_l01Mod.calls _ _ _ _ A3.out).mono ?_); rintro e w' ⟨rfl, ⟨nd, rfl⟩⟩; refine ⟨_, rfl, ?_⟩; (try (rw [drewN_self w8]; generalize hq_ : World.drewN w8 _ = w8; have Aw : Aside0 (w8.heap[Ak]? = some (.cells #[.int .i64 Ag, .int .i64 Ah, .int .i64 Ac] 30 (0, 0))) := ⟨by rw [← hq_]; exact (bkp Aa)⟩; have Ax : Aside0 (w8.heap[An]? = some (.cells #[.int .i64 Ai, .int .i64 Ae] 44 (0, 0))) := ⟨by rw [← hq_]; exact (bkp Ab)⟩; have Ay : Aside0 (w8.heap[Am]? = some (.cells #[.int .i64 0, .int .i64 0] 44 (0, 0))) := ⟨by rw [← hq_]; exact (bkp Ad)⟩; have Az : Aside0 (Below w.heap.size w w8) := ⟨by rw [← hq_]; exact (bbw3 HB Af Al Av)⟩; clear Aa Ab Ad HB hq_; have Aa := Aw; have Ab := Ax; have Ad := Ay; have HB := Az; clear Aw Ax Ay Az)); have AK : w8.cell? ⟨An, 0, none⟩ = some (.int .i64 Ai) := bcl Ab 0; have AL : w8.cell? ⟨An, 1, none⟩ = some (.int .i64 Ae) := bcl Ab 1; have AM := blk_frozen Ab.out 0; have AN := blk_frozen Ab.out 1; have AO : w8.cell? ⟨Ak, 0, none⟩ = some (.int .i64 Ag) := bcl Aa 0; have AP : w8.cell? ⟨Ak, 1, none⟩ = some (.int .i64 Ah) := bcl Aa 1; have AQ : w8.cell? ⟨Ak, 2, none⟩ = some (.int .i64 Ac) := bcl Aa 2; have AR := blk_frozen Aa.out 0; have AS := blk_frozen Aa.out 1; have AT := blk_frozen Aa.out 2) | ((with_reducible refine gate_callee (f := 58) rfl ?_); refine gl 28 Tryz.func58 #[.int .i64 (wrap64 (Ai - (wrap64 ((wrap64 (Int.tdiv (wrap64 (Ae - Aj)) Ac)) * Ah)))), .int .i64 Ag] ?_; (with_reducible refine (spec_l01Mod.calls _ _ _ _ A5.out).mono ?_); rintro e w' ⟨rfl, ⟨nd, rfl⟩⟩; refine ⟨_, rfl, ?_⟩; (try (rw [drewN_self w8]; generalize hq_ : World.drewN w8 _ = w8; have Aw : Aside0 (w8.heap[Ak]? = some (.cells #[.int .i64 Ag, .int .i64 Ah, .int .i64 Ac] 30 (0, 0))) := ⟨by rw [← hq_]; exact (bkp Aa)⟩; have Ax : Aside0 (w8.heap[An]? = some (.cells #[.int .i64 Ai, .int .i64 Ae] 44 (0, 0))) := ⟨by rw [← hq_]; exact (bkp Ab)⟩; have Ay : Aside0 (w8.heap[Am]? = some (.cells #[.int .i64 0, .int .i64 0] 44 (0, 0))) := ⟨by rw [← hq_]; exact (bkp Ad)⟩; have Az : Aside0 (Below w.heap.size w w8) := ⟨by rw [← hq_]; exact (bbw3 HB Af Al Av)⟩; clear Aa Ab Ad HB hq_; have Aa := Aw; have Ab := Ax; have Ad := Ay; have HB := Az; clear Aw Ax Ay Az)); have AU : w8.cell? ⟨Am, 0, none⟩ = some (.int .i64 0) := bcl Ad 0; have AV : w8.cell? ⟨Am, 1, none⟩ = some (.int .i64 0) := bcl Ad 1; have AW := blk_frozen Ad.out 0; have AX := blk_frozen Ad.out 1))
  refine bodyPost_ret (results_cell_row rfl _ _ Am 44 #[.int .i64 Au, .int .i64 Aj] (0, 0) _ rfl (bq0 Ad) Tryz.underlying44 rfl (by kernel_rfl)) rfl ?_
  exact er (bbw3 HB Af Al Av)
end Go.Proofs.YtfmjboloeabjmaaGreat.PA
