/- Walks written by program: each Go function that the law reaches comes to the plain function beside it. -/
import Derived.Test.YtnblfcibgokccaaDoorPGx0
import Derived.Test.YtnblfcibgokccaaDoorPGx1
import Derived.Test.YtnblfcibgokccaaDoorPGx6
namespace Go.Proofs.YtnblfcibgokccaaDoor.PG
open Go.RowKit Go.Proofs.YtnblfcibgokccaaDoorW.PrintWords Go.Proofs.YtnblfcibgokccaaDoorW.PrintLast Go.Proofs.YtnblfcibgokccaaDoorW.PrintMore
attribute [local go_sem] max2_int min2_int max_two min_two max_three min_three max_four min_four   -- for this text's walks alone
set_option linter.unusedVariables false
set_option linter.unusedSimpArgs false

/-! ### spec_l01From: function 24 -/
def spec_l01From.l0 : Nat → List Int → Int → List Int → Int → Int → Option (List Int × Int × Int)
 | 0, _, _, _, _, _ => none
 | k + 1, x0, x4, x281000, x281001, x281002 => if x4 < (x0.length : Int) then (if x4 < 64 then (if 0 ≤ x4 then (spec_l01From.l0 k x0 (wrap64 (x4 + 1)) x281000 x281001 (Int.tmod (wrap64 ((wrap64 (x281002 * 73)) + (wrap64 (rd x0 x4)))) 2147483647)) else (none)) else (some (x281000, x281001, x281002))) else (some (x281000, x281001, x281002))
def spec_l01From.f (k : Nat) (l0 : List Int) : Option (List Int × Int × Int) := spec_l01From.l0 k l0 0 l0 0 93001
def spec_l01From.T5 : Bool × List (List Nat × List Nat) := (true, [([], []), ([], []), ([1], [1]), ([2], [2]), ([3], [3]), ([4], [4]), ([], []), ([], []), ([6, 7], [6, 7]), ([8], [8]), ([9], [9]), ([5, 10], [5, 10]), ([11], [11]), ([0, 0, 1, 2, 3, 4, 5, 6, 7, 8, 9, 10, 11, 12], [0]), ([13, 0, 1, 2, 3, 4, 5, 6, 7, 8, 9, 10, 11, 12], [13]), ([14, 12, 0, 1, 2, 3, 4, 5, 6, 7, 8, 9, 10, 11, 12], [12, 14])])
def spec_l01From.B5 : List Nat := [0, 0, 2, 6, 14, 30, 0, 0, 192, 448, 960, 2046, 4094, 8191, 16383, 32767]
theorem spec_l01From.tab5 : rtab .any (opsOf Tryd.f24 5) = spec_l01From.T5 := by kernel_rfl
theorem spec_l01From.bits5 : waitsOk spec_l01From.T5.2 spec_l01From.B5 = true := by kernel_rfl
set_option maxHeartbeats 8000000 in
set_option maxRecDepth 100000 in
theorem spec_l01From.calls (k : Nat) (A0 : Option Addr) (c0 : Nat) (l0 : List Int) (r1 : List Int) (r2 : Int) (r3 : Int) (w0 w : World) (hB : Below w0.heap.size w0 w) (hr0 : Kd.C (Kd.int .u8) w0 A0 l0.length l0) (hc0 : l0.length ≤ c0) (h : spec_l01From.f k l0 = some (r1, r2, r3)) :
  Calls Tryd.prog 24 #[.slice A0 l0.length c0] w fun e w' => ∃ g_ : Nat, e = .returned (.pointer (some ⟨g_, 0, none⟩)) ∧ IsS67 w0 w' g_ r1 r2 r3 ∧ Below w0.heap.size w0 w' ∧ Below w.heap.size w w' := by
 have hu67 := Tryd.underlying67
 have HR0 := Aside0.mk hr0
 have HC0 := Aside0.mk hc0
 clear hr0 hc0
 have HBW := asd (Below.refl w.heap.size w)
 have HW0 := Aside0.mk hB.size
 have HB := Aside0.mk hB
 clear hB
 have H : (spec_l01From.l0 k l0 0 l0 0 93001) = some (r1, r2, r3) := h
 clear h
 have H' := Aside0.mk H
 clear H
 go_enter Tryd.func24, Tryd.ntmps24
 go_wp2_with (first | ((with_reducible refine gd 7 rfl ?_); refine bx #[.slice A0 l0.length c0, .int .i64 0, .int .i64 93001] 67 ?_; intro gb280 hg w2 BK280 hb; replace HB := bS0 HB hb; have GW280 := asd ((by rw [hg]; exact (below_size (by repeat (first | (with_reducible first | exact HBW.out | apply below_alloc | apply pw_below_drewN | apply below_drew1) | exact HBW.out))) : w.heap.size ≤ gb280)); have GE280 := asd ((Nat.le_trans HW0.out (by rw [hg]; exact (below_size (by repeat (first | (with_reducible first | exact HBW.out | apply below_alloc | apply pw_below_drewN | apply below_drew1) | exact HBW.out))) : w.heap.size ≤ gb280) : w0.heap.size ≤ gb280)); replace HBW := asd (below_step HBW.out hb); clear hb hg))
 go_loopg [4] k (fun kq v4 w' => ∃ (x4_1 : Int) (x281002_1 : Int), v4 = .int .i64 x4_1 ∧ Aside0 (spec_l01From.l0 kq l0 x4_1 l0 0 x281002_1 = some (r1, r2, r3)) ∧ Aside0 (kq ≤ k) ∧ Aside0 (w'.heap[gb280]? = some (.cells #[(.slice A0 l0.length c0), .int .i64 0, .int .i64 x281002_1] 67 (0, 0))) ∧ Aside0 (Below w0.heap.size w0 w') ∧ Aside0 (Below w.heap.size w w'))
 case atStart => exact ⟨(0), (93001), (by first | rfl | (simp; done) | (simp [*]; done)), H', ⟨Nat.le_refl _⟩, ⟨bkp BK280⟩, ⟨bbw1 HB GE280⟩, ⟨by repeat (first | (with_reducible first | exact HBW.out | apply below_alloc | apply pw_below_drewN | apply below_drew1 | refine below_set ?_ GW280.out) | exact HBW.out)⟩⟩
 case round =>
  clear H'
  try clear c2
  try clear p2
  obtain ⟨x4_1, x281002_1, rfl, HA, HK1, BK280, HB, HBW⟩ := hrel
  cases gk with
  | zero => exact absurd HA.out (by simp [spec_l01From.l0])
  | succ k1 =>
   have H := HA.out
   clear HA
   simp only [spec_l01From.l0] at H
   by_cases c3 : x4_1 < (l0.length : Int)
   rw [if_pos c3] at H
   have c3b0 := decide_eq_true c3
   clear c3
   by_cases c4 : x4_1 < 64
   rw [if_pos c4] at H
   have c4b0 := decide_eq_true c4
   clear c4
   by_cases c5 : 0 ≤ x4_1
   rw [if_pos c5] at H
   have c5b0 := decide_eq_true c5
   clear c5
   have H' := Aside0.mk H
   clear H
   rotate_left
   ·rw [if_neg c5] at H
    exact absurd H (by simp)
   rw [if_neg c4] at H
   have c4b0 := decide_eq_false c4
   clear c4
   rotate_left
   rw [if_neg c3] at H
   have c3b0 := decide_eq_false c3
   clear c3
   rotate_left
   ·try go_wp2
    have n0_ := asd (blk_drew BK280.out)
    replace HBW := asd (below_drew1 HBW.out)
    have n1_ := asd (below_drew1 HB.out)
    clear BK280
    clear HB
    have BK280 := n0_
    have HB := n1_
    clear n0_ n1_
    have p281 : 0 ≤ (x4_1 : Int) := od
    have q281 : x4_1 < (l0.length : Int) := od
    obtain ⟨ad281, e281, hx281_0⟩ := Kd.at_int HR0.out x4_1 p281 q281
    have hw281_0 := hx281_0
    cases e281
    replace hx281_0 := pw_cell_below HB.out hx281_0
    replace p281 := eq_true p281
    replace q281 := eq_true q281
    refine start_ (n := 16) (S := fun w' => w'.cell? ⟨gb280, 0, none⟩ = some (.slice (some ad281) l0.length c0) ∧ w'.cell? ⟨gb280, 1, none⟩ = some (.int .i64 0) ∧ w'.cell? ⟨gb280, 2, none⟩ = some (.int .i64 x281002_1) ∧ w'.cell? (ad281.add (x4_1).toNat) = some (.int .u8 (rd l0 x4_1))) (ds := [15]) (bT 16 0) (by kernel_rfl) rfl rfl ⟨bcl BK280 0, bcl BK280 1, bcl BK280 2, (xb HB hw281_0)⟩ (fun hHeld => ?_); refine with_tabW spec_l01From.tab5 spec_l01From.bits5 (fun HT_ HW_ => ?_)
    generalize wr.drew = w6 at HBW BK280 HB hx281_0 hHeld ⊢
    refine pu 0 (some 18) (bT 16 1) HT_ ?_
    refine pu 1 (some 19) (bT 16 2) HT_ ?_
    refine pu 2 (some 20) (bT 16 3) HT_ ?_
    refine pu 3 (some 21) (bT 16 4) HT_ ?_
    refine pu 6 (some 24) (bs 16 79) HT_ ?_
    refine pu 7 (some 25) (bs 16 207) HT_ ?_
    refine pu 8 (some 26) (bs 16 463) HT_ ?_
    refine ta 4 (some 22) (bs 16 479) HT_ HW_ hHeld ?_
    refine pu 5 (some 23) (bT 16 9) HT_ ?_
    refine ta 9 (some 27) (bT 16 10) HT_ HW_ hHeld ?_
    refine pu 10 (some 28) (bT 16 11) HT_ ?_
    refine pu 11 (some 29) (bT 16 12) HT_ ?_
    refine pu 12 (some 30) (bT 16 13) HT_ ?_
    refine pu 13 (some 31) (bT 16 14) HT_ ?_
    refine pu 14 (some 32) (bT 16 15) HT_ ?_
    refine last_ (i := 15) (N := none) (bT 16 16) rfl rfl (one_of HT_.out (by kernel_rfl)) (by decide) (fun K hK => ?_)
    have hs7 : w6.cell? ⟨gb280, 2, none⟩ = some (.int .i64 x281002_1) := bcl BK280 2
    have hfs7 := blk_frozen BK280.out 2
    refine skip_ (w1 := ?_) (by rfl) rfl ?_ ?_
    rotate_left
    ·go_simp
     rfl
    refine hK.out _ _ ?_
    clear hK K
    refine done_ (done_of HT_.out (by kernel_rfl)) ?_
    try go_wp2
    go_roundg k1
    case measure => have := HK1.out; omega
    case rel => exact ⟨(wrap64 (x4_1 + 1)), (Int.tmod (wrap64 ((wrap64 (x281002_1 * 73)) + (wrap64 (rd l0 x4_1)))) 2147483647), (by first | rfl | (simp; done) | (simp [*]; done)), H', ⟨by have := HK1.out; omega⟩, ⟨bq0 BK280⟩, ⟨bbw1 HB GE280⟩, ⟨by repeat (first | (with_reducible first | exact HBW.out | apply below_alloc | apply pw_below_drewN | apply below_drew1 | refine below_set ?_ GW280.out) | exact HBW.out)⟩⟩
   rotate_left 2
   all_goals
    simp only [Option.some.injEq, Prod.mk.injEq] at H
    obtain ⟨rfl, rfl, rfl⟩ := H
    go_wp2
    go_ret
    exact ⟨_, rfl, (show IsS67 w0 _ gb280 l0 0 x281002_1 from ⟨_, _, by (with_reducible repeat (first | refine blk_drewN ?_ _ | refine blk_drew ?_ | refine blk_alloc ?_ _)); exact BK280.out, GE280.out, HR0.out⟩), by repeat (first | (with_reducible first | exact HB.out | apply below_alloc | apply pw_below_drewN | apply below_drew1 | refine below_set ?_ GE280.out) | exact HB.out), by repeat (first | (with_reducible first | exact HBW.out | apply below_alloc | apply pw_below_drewN | apply below_drew1 | refine below_set ?_ GW280.out) | exact HBW.out)⟩
/-! ### spec_DrawFriezeText: function 11 -/
def spec_DrawFriezeText.f (k : Nat) (l0 : List Int) : Option (Int × Int × List Int) := (spec_l01From.f k l0).bind fun bt283 => ((spec_l08Draw.f k bt283.1 bt283.2.1 bt283.2.2).bind fun bt287 => (some (bt287.1, bt287.2.1, bt287.2.2.1)))
set_option maxHeartbeats 8000000 in
set_option maxRecDepth 100000 in
theorem spec_DrawFriezeText.calls (k : Nat) (A0 : Option Addr) (c0 : Nat) (l0 : List Int) (r1 : Int) (r2 : Int) (r3 : List Int) (w : World) (hr0 : Kd.C (Kd.int .u8) w A0 l0.length l0) (hc0 : l0.length ≤ c0) (h : spec_DrawFriezeText.f k l0 = some (r1, r2, r3)) :
  Calls Tryd.prog 11 #[.slice A0 l0.length c0] w fun e w' => ∃ v2_ : Value, e = .returned (.agg #[.int .i64 r1, .int .i64 r2, v2_]) ∧ Kd.R (Kd.int .i64) 2 w' w.heap.size (fun _ => True) v2_ r3 ∧ Below w.heap.size w w' := by
 have hu28 := Tryd.underlying28
 have HR0 := Aside0.mk hr0
 have HC0 := Aside0.mk hc0
 clear hr0 hc0
 have HB := asd (Below.refl w.heap.size w)
 have H : ((spec_l01From.f k l0).bind fun bt283 => ((spec_l08Draw.f k bt283.1 bt283.2.1 bt283.2.2).bind fun bt287 => (some (bt287.1, bt287.2.1, bt287.2.2.1)))) = some (r1, r2, r3) := h
 clear h
 obtain ⟨⟨t283, t284, t285⟩, A2, H⟩ := ob H
 try dsimp only at H
 obtain ⟨⟨t287, t288, t289, t292, t293⟩, A3, H⟩ := ob H
 try dsimp only at H
 simp only [Option.some.injEq, Prod.mk.injEq] at H
 obtain ⟨rfl, rfl, rfl⟩ := H
 go_enter Tryd.func11, Tryd.ntmps11
 go_wp2_with (first | ((with_reducible refine gd 2 rfl ?_); refine bx #[.int .i64 0, .int .i64 0, .slice none 0 0] 28 ?_; intro gb282 hg w4 BK282 hb; have GE282 := ngw0 hg HB; replace HB := bS0 HB hb; clear hb hg) | ((with_reducible refine gate_callee (f := 24) rfl ?_); refine gl 4 Tryd.func24 #[.slice A0 l0.length c0] ?_; (with_reducible refine (spec_l01From.calls _ _ _ _ _ _ _ w _ ?side1 ?side2 ?side3 A2.out).mono ?_); (case side1 => repeat (first | (with_reducible first | exact HB.out | apply below_alloc | apply pw_below_drewN | apply below_drew1 | refine below_set ?_ GE282.out) | exact HB.out)); (case side2 => exact HR0.out); (case side3 => exact HC0.out); rintro e w5 ⟨g286, rfl, hi, hb, hb2⟩; refine ⟨_, rfl, ?_⟩; replace HB := asd (hb); have HI286 := asd (hi); have NB286_282 := asd (IsS67.ne_blk hi (bbl BK282 hb2) (by decide)); have NB282_286 := asd (Ne.symm (IsS67.ne_blk hi (bbl BK282 hb2) (by decide))); replace BK282 := asd (bbl BK282 hb2); (try clear hb); (try clear hb2); (try clear hk); (try clear hi)) | ((with_reducible refine gate_callee (f := 23) rfl ?_); refine gl 5 Tryd.func23 #[.pointer (some ⟨g286, 0, none⟩)] ?_; (with_reducible refine (spec_l08Draw.calls _ _ _ _ _ _ _ _ _ _ w _ ?side1 ?side2 A3.out).mono ?_); (case side1 => repeat (first | (with_reducible first | exact HI286.out | apply IsS67.alloc | apply IsS67.drewN | apply IsS67.drew | apply IsS67.set_1 | apply IsS67.set_2 | refine IsS67.far ?_ NB286_282.out _) | exact HI286.out)); (case side2 => repeat (first | (with_reducible first | exact HB.out | apply below_alloc | apply pw_below_drewN | apply below_drew1 | refine below_set ?_ (IsS67.ge HI286.out) | refine below_set ?_ GE282.out) | exact HB.out)); rintro e w6 ⟨v290, rfl, ho0, hi, hb, hk⟩; refine ⟨_, rfl, ?_⟩; replace BK282 := asd (KeepBut.blk hk (g' := gb282) (o := .cells #[.int .i64 0, .int .i64 0, .slice none 0 0] 28 (0, 0)) (bkp BK282) NB282_286.out (by simp)); have HO291 := asd (Kd.R_lower ho0 (below_size (by repeat (first | (with_reducible first | exact HB.out | apply below_alloc | apply pw_below_drewN | apply below_drew1 | refine below_set ?_ (IsS67.ge HI286.out) | refine below_set ?_ GE282.out) | exact HB.out)))); replace HB := asd (hb); replace HI286 := asd (hi); (try clear hb); (try clear hb2); (try clear hk); (try clear hi); (try clear ho0); have hnb7 := NB282_286.out; have hnc7 := NB286_282.out; obtain ⟨hcz8_0, hcz8_1, hcz8_2, hfz8_0, hfz8_1, hfz8_2⟩ := bz3 BK282; obtain ⟨Ao9, co9, eo9⟩ := Kd.R_slice HO291.out; subst eo9))
 refine bodyPost_ret (results_cell_row rfl _ _ gb282 28 #[.int .i64 t287, .int .i64 t288, .slice Ao9 t289.length co9] (0, 0) _ rfl (bq0 BK282) Tryd.underlying28 rfl (by kernel_rfl)) rfl ?_
 exact ⟨_, by first | rfl | (simp [errW_none, errW_some] <;> rfl) | (simp [*, errW_none, errW_some] <;> rfl), by (with_reducible repeat (first | apply Kd.R_alloc | apply Kd.R_drewN | apply Kd.R_drew)); exact Kd.R_mono (rw3 (Kd.R_types HO291.out BK282.out (by decide))) (fun _ hk => trivial), by repeat (first | (with_reducible first | exact HB.out | apply below_alloc | apply pw_below_drewN | apply below_drew1 | refine below_set ?_ (IsS67.ge HI286.out) | refine below_set ?_ GE282.out) | exact HB.out)⟩
/-! ### spec_l01Damage: function 26 -/
def spec_l01Damage.f (s0_0 : List Int) (s0_1 : Int) (s0_2 : Int) (a1 : ByteArray) : Option (ByteArray × Int × Int) := (spec_l01Next.f s0_0 s0_1 s0_2 (wrap64 ((a1.size : Int) + 1))).bind fun bt294 => ((spec_l01Next.f s0_0 bt294.2.1 bt294.2.2 8).bind fun bt297 => (if bt297.1 = 0 then (if 0 ≤ bt294.1 then (if bt294.1 ≤ (a1.size : Int) then (some (a1.extract 0 (bt294.1 : Int).toNat, bt297.2.1, bt297.2.2)) else (none)) else (none)) else (if bt297.1 = 1 then (if 0 ≤ bt294.1 then (if bt294.1 ≤ (a1.size : Int) then ((some (([(⟨#[48]⟩ : ByteArray), (⟨#[49]⟩ : ByteArray), (⟨#[32]⟩ : ByteArray), (⟨#[45]⟩ : ByteArray), (⟨#[44]⟩ : ByteArray), (⟨#[59]⟩ : ByteArray), (⟨#[10]⟩ : ByteArray), (⟨#[97]⟩ : ByteArray)] : List ByteArray) : List ByteArray)).bind fun y300 => ((spec_l01Next.f s0_0 bt297.2.1 bt297.2.2 8).bind fun bt303 => (if 0 ≤ bt303.1 then (if bt303.1 < (y300.length : Int) then (if (a1.extract 0 (bt294.1 : Int).toNat).size + (rdOf ByteArray.empty y300 bt303.1).size ≤ 9223372036854775807 then (if ((a1.extract 0 (bt294.1 : Int).toNat) ++ (rdOf ByteArray.empty y300 bt303.1)).size + (a1.extract (bt294.1 : Int).toNat a1.size).size ≤ 9223372036854775807 then (some (((a1.extract 0 (bt294.1 : Int).toNat) ++ (rdOf ByteArray.empty y300 bt303.1)) ++ (a1.extract (bt294.1 : Int).toNat a1.size), bt303.2.1, bt303.2.2)) else (none)) else (none)) else (none)) else (none)))) else (none)) else (none)) else (if bt297.1 = 2 then (if bt294.1 < (a1.size : Int) then (if 0 ≤ bt294.1 then (if bt294.1 ≤ (a1.size : Int) then (if 0 ≤ (wrap64 (bt294.1 + 1)) then (if (wrap64 (bt294.1 + 1)) ≤ (a1.size : Int) then (if (a1.extract 0 (bt294.1 : Int).toNat).size + (a1.extract ((wrap64 (bt294.1 + 1)) : Int).toNat a1.size).size ≤ 9223372036854775807 then (some ((a1.extract 0 (bt294.1 : Int).toNat) ++ (a1.extract ((wrap64 (bt294.1 + 1)) : Int).toNat a1.size), bt297.2.1, bt297.2.2)) else (none)) else (none)) else (none)) else (none)) else (none)) else (some (a1, bt297.2.1, bt297.2.2))) else (some (a1, bt297.2.1, bt297.2.2))))))
def spec_l01Damage.T6 : Bool × List (List Nat × List Nat) := (true, [([], []), ([], []), ([0, 1], [0, 1]), ([], []), ([], []), ([4], [4]), ([3, 5], [3, 5]), ([6], [6]), ([2, 7], [2, 7]), ([], []), ([], []), ([9, 10], [9, 10]), ([8, 11], [8, 11]), ([12, 5, 0, 1, 2, 3, 4, 5, 6, 7, 8, 9, 10, 11, 12], [12])])
def spec_l01Damage.B6 : List Nat := [0, 0, 3, 0, 0, 16, 56, 120, 255, 0, 0, 1536, 4095, 8191]
theorem spec_l01Damage.tab6 : rtab .any (opsOf Tryd.f26 6) = spec_l01Damage.T6 := by kernel_rfl
theorem spec_l01Damage.bits6 : waitsOk spec_l01Damage.T6.2 spec_l01Damage.B6 = true := by kernel_rfl
def spec_l01Damage.T9 : Bool × List (List Nat × List Nat) := (true, [([], []), ([], []), ([0, 1], [0, 1]), ([], []), ([], []), ([4], [4]), ([3, 5], [3, 5]), ([2, 6], [2, 6]), ([7, 0, 1, 2, 3, 4, 5, 6, 7], [7])])
def spec_l01Damage.B9 : List Nat := [0, 0, 3, 0, 0, 16, 56, 127, 255]
theorem spec_l01Damage.tab9 : rtab .any (opsOf Tryd.f26 9) = spec_l01Damage.T9 := by kernel_rfl
theorem spec_l01Damage.bits9 : waitsOk spec_l01Damage.T9.2 spec_l01Damage.B9 = true := by kernel_rfl
theorem spec_l01Damage.exa {A : ByteArray} {T : Int} (h : T ≤ (A.size : Int)) : (A.extract 0 T.toNat).size = T.toNat := by
  rw [ByteArray.size_extract]; omega
theorem spec_l01Damage.exb (A : ByteArray) (J : Int) : (A.extract J.toNat A.size).size = A.size - J.toNat := by
  rw [ByteArray.size_extract]; omega
set_option maxHeartbeats 8000000 in
set_option maxRecDepth 100000 in
theorem spec_l01Damage.calls (g : Nat) (s0_0 : List Int) (s0_1 : Int) (s0_2 : Int) (a1 : ByteArray) (r1 : ByteArray) (r2 : Int) (r3 : Int) (w0 w : World) (hI : IsS67 w0 w g s0_0 s0_1 s0_2) (hB : Below w0.heap.size w0 w) (h : spec_l01Damage.f s0_0 s0_1 s0_2 a1 = some (r1, r2, r3)) :
  Calls Tryd.prog 26 #[.pointer (some ⟨g, 0, none⟩), .string a1] w fun e w' => e = .returned (.string r1) ∧ IsS67 w0 w' g s0_0 r2 r3 ∧ Below w0.heap.size w0 w' ∧ KeepBut w w' g none := by
 have HI0 := Aside0.mk hI
 have HK := asd (KeepBut.refl w g none)
 have HL := Aside0.mk hB.size
 clear hI
 have HW0 := Aside0.mk hB.size
 have HB := Aside0.mk hB
 clear hB
 have H : ((spec_l01Next.f s0_0 s0_1 s0_2 (wrap64 ((a1.size : Int) + 1))).bind fun bt294 => ((spec_l01Next.f s0_0 bt294.2.1 bt294.2.2 8).bind fun bt297 => (if bt297.1 = 0 then (if 0 ≤ bt294.1 then (if bt294.1 ≤ (a1.size : Int) then (some (a1.extract 0 (bt294.1 : Int).toNat, bt297.2.1, bt297.2.2)) else (none)) else (none)) else (if bt297.1 = 1 then (if 0 ≤ bt294.1 then (if bt294.1 ≤ (a1.size : Int) then ((some (([(⟨#[48]⟩ : ByteArray), (⟨#[49]⟩ : ByteArray), (⟨#[32]⟩ : ByteArray), (⟨#[45]⟩ : ByteArray), (⟨#[44]⟩ : ByteArray), (⟨#[59]⟩ : ByteArray), (⟨#[10]⟩ : ByteArray), (⟨#[97]⟩ : ByteArray)] : List ByteArray) : List ByteArray)).bind fun y300 => ((spec_l01Next.f s0_0 bt297.2.1 bt297.2.2 8).bind fun bt303 => (if 0 ≤ bt303.1 then (if bt303.1 < (y300.length : Int) then (if (a1.extract 0 (bt294.1 : Int).toNat).size + (rdOf ByteArray.empty y300 bt303.1).size ≤ 9223372036854775807 then (if ((a1.extract 0 (bt294.1 : Int).toNat) ++ (rdOf ByteArray.empty y300 bt303.1)).size + (a1.extract (bt294.1 : Int).toNat a1.size).size ≤ 9223372036854775807 then (some (((a1.extract 0 (bt294.1 : Int).toNat) ++ (rdOf ByteArray.empty y300 bt303.1)) ++ (a1.extract (bt294.1 : Int).toNat a1.size), bt303.2.1, bt303.2.2)) else (none)) else (none)) else (none)) else (none)))) else (none)) else (none)) else (if bt297.1 = 2 then (if bt294.1 < (a1.size : Int) then (if 0 ≤ bt294.1 then (if bt294.1 ≤ (a1.size : Int) then (if 0 ≤ (wrap64 (bt294.1 + 1)) then (if (wrap64 (bt294.1 + 1)) ≤ (a1.size : Int) then (if (a1.extract 0 (bt294.1 : Int).toNat).size + (a1.extract ((wrap64 (bt294.1 + 1)) : Int).toNat a1.size).size ≤ 9223372036854775807 then (some ((a1.extract 0 (bt294.1 : Int).toNat) ++ (a1.extract ((wrap64 (bt294.1 + 1)) : Int).toNat a1.size), bt297.2.1, bt297.2.2)) else (none)) else (none)) else (none)) else (none)) else (none)) else (some (a1, bt297.2.1, bt297.2.2))) else (some (a1, bt297.2.1, bt297.2.2))))))) = some (r1, r2, r3) := h
 clear h
 obtain ⟨⟨t294, t295, t296⟩, A3, H⟩ := ob H
 try dsimp only at H
 obtain ⟨⟨t297, t298, t299⟩, A4, H⟩ := ob H
 try dsimp only at H
 by_cases c5 : t297 = 0
 rw [if_pos c5] at H
 have c5b0 : (t297 == 0) = true := beq_iff_eq.mpr c5
 have c5b1 : (t297 != 0) = false := bne_eq_false_iff_eq.mpr c5
 clear c5
 by_cases c6 : 0 ≤ t294
 rw [if_pos c6] at H
 have c6b0 := eq_true c6
 have c6b1 := decide_eq_true c6
 clear c6
 by_cases c7 : t294 ≤ (a1.size : Int)
 rw [if_pos c7] at H
 have c7b0 := eq_true c7
 have c7b1 := decide_eq_true c7
 clear c7
 rotate_left
 ·rw [if_neg c7] at H
  exact absurd H (by simp)
 ·rw [if_neg c6] at H
  exact absurd H (by simp)
 rw [if_neg c5] at H
 have c5b0 : (t297 == 0) = false := beq_eq_false_iff_ne.mpr c5
 have c5b1 : (t297 != 0) = true := bne_iff_ne.mpr c5
 by_cases c10 : t297 = 1
 rw [if_pos c10] at H
 have c10b0 : (t297 == 1) = true := beq_iff_eq.mpr c10
 have c10b1 : (t297 != 1) = false := bne_eq_false_iff_eq.mpr c10
 clear c10
 by_cases c11 : 0 ≤ t294
 rw [if_pos c11] at H
 have c11b0 := eq_true c11
 have c11b1 := decide_eq_true c11
 clear c11
 by_cases c12 : t294 ≤ (a1.size : Int)
 rw [if_pos c12] at H
 have c12b0 := eq_true c12
 have c12b1 := decide_eq_true c12
 clear c12
 obtain ⟨y300, hy300⟩ : ∃ y_ : List ByteArray, y_ = (([(⟨#[48]⟩ : ByteArray), (⟨#[49]⟩ : ByteArray), (⟨#[32]⟩ : ByteArray), (⟨#[45]⟩ : ByteArray), (⟨#[44]⟩ : ByteArray), (⟨#[59]⟩ : ByteArray), (⟨#[10]⟩ : ByteArray), (⟨#[97]⟩ : ByteArray)] : List ByteArray)) := ⟨_, rfl⟩
 replace H : ((spec_l01Next.f s0_0 t298 t299 8).bind fun bt303 => (if 0 ≤ bt303.1 then (if bt303.1 < (y300.length : Int) then (if (a1.extract 0 (t294 : Int).toNat).size + (rdOf ByteArray.empty y300 bt303.1).size ≤ 9223372036854775807 then (if ((a1.extract 0 (t294 : Int).toNat) ++ (rdOf ByteArray.empty y300 bt303.1)).size + (a1.extract (t294 : Int).toNat a1.size).size ≤ 9223372036854775807 then (some (((a1.extract 0 (t294 : Int).toNat) ++ (rdOf ByteArray.empty y300 bt303.1)) ++ (a1.extract (t294 : Int).toNat a1.size), bt303.2.1, bt303.2.2)) else (none)) else (none)) else (none)) else (none))) = some (r1, r2, r3) := by first | (rw [hy300]; with_reducible exact H) | (have H2_ := (Option.bind_some _ _).symm.trans H; rw [hy300]; with_reducible exact H2_) | (have H2_ := (Option.bind_some _ _).symm.trans H; with_reducible exact H2_) | with_reducible exact H | (rw [hy300]; exact H) | exact H
 have Ny300 := Aside0.mk hy300
 clear hy300
 obtain ⟨⟨t303, t304, t305⟩, A13, H⟩ := ob H
 try dsimp only at H
 by_cases c14 : 0 ≤ t303
 rw [if_pos c14] at H
 have c14b0 := decide_eq_true c14
 clear c14
 by_cases c15 : t303 < (y300.length : Int)
 rw [if_pos c15] at H
 have c15b0 := decide_eq_true c15
 clear c15
 by_cases c16 : (a1.extract 0 (t294 : Int).toNat).size + (rdOf ByteArray.empty y300 t303).size ≤ 9223372036854775807
 rw [if_pos c16] at H
 have c16b0 := eq_true c16
 have c16b1 := decide_eq_true c16
 rotate_left
 ·rw [if_neg c16] at H
  exact absurd H (by simp)
 ·rw [if_neg c15] at H
  exact absurd H (by simp)
 ·rw [if_neg c14] at H
  exact absurd H (by simp)
 ·rw [if_neg c12] at H
  exact absurd H (by simp)
 ·rw [if_neg c11] at H
  exact absurd H (by simp)
 rw [if_neg c10] at H
 have c10b0 : (t297 == 1) = false := beq_eq_false_iff_ne.mpr c10
 have c10b1 : (t297 != 1) = true := bne_iff_ne.mpr c10
 by_cases c29 : t297 = 2
 rw [if_pos c29] at H
 have c29b0 : (t297 == 2) = true := beq_iff_eq.mpr c29
 have c29b1 : (t297 != 2) = false := bne_eq_false_iff_eq.mpr c29
 clear c29
 by_cases c30 : t294 < (a1.size : Int)
 rw [if_pos c30] at H
 have c30b0 := decide_eq_true c30
 clear c30
 by_cases c31 : 0 ≤ t294
 rw [if_pos c31] at H
 have c31b0 := eq_true c31
 have c31b1 := decide_eq_true c31
 clear c31
 by_cases c32 : t294 ≤ (a1.size : Int)
 rw [if_pos c32] at H
 have c32b0 := eq_true c32
 have c32b1 := decide_eq_true c32
 clear c32
 obtain ⟨ji33, hji33⟩ : ∃ j_ : Int, (wrap64 (t294 + 1)) = j_ := ⟨_, rfl⟩
 replace H : (if 0 ≤ (ji33) then (if (ji33) ≤ (a1.size : Int) then (if (a1.extract 0 (t294 : Int).toNat).size + (a1.extract ((ji33) : Int).toNat a1.size).size ≤ 9223372036854775807 then (some ((a1.extract 0 (t294 : Int).toNat) ++ (a1.extract ((ji33) : Int).toNat a1.size), t298, t299)) else (none)) else (none)) else (none)) = some (r1, r2, r3) := by first | (rw [hji33] at H; first | done | exact H) | (simp only [hji33] at H ⊢; exact H)
 (try rw [hji33] at A3)
 (try rw [hji33] at A4)
 have hji33w : (IntKind.i64.wrap (t294 + 1)) = ji33 := (i64_w _).trans hji33
 by_cases c34 : 0 ≤ (ji33)
 rw [if_pos c34] at H
 have c34b0 := eq_true c34
 have c34b1 := decide_eq_true c34
 clear c34
 by_cases c35 : (ji33) ≤ (a1.size : Int)
 rw [if_pos c35] at H
 have c35b0 := eq_true c35
 have c35b1 := decide_eq_true c35
 clear c35
 by_cases c36 : (a1.extract 0 (t294 : Int).toNat).size + (a1.extract ((ji33) : Int).toNat a1.size).size ≤ 9223372036854775807
 rw [if_pos c36] at H
 have c36b0 := eq_true c36
 have c36b1 := decide_eq_true c36
 rotate_left
 ·rw [if_neg c36] at H
  exact absurd H (by simp)
 ·rw [if_neg c35] at H
  exact absurd H (by simp)
 ·rw [if_neg c34] at H
  exact absurd H (by simp)
 ·rw [if_neg c32] at H
  exact absurd H (by simp)
 ·rw [if_neg c31] at H
  exact absurd H (by simp)
 rw [if_neg c30] at H
 have c30b0 := decide_eq_false c30
 clear c30
 rotate_left
 rw [if_neg c29] at H
 have c29b0 : (t297 == 2) = false := beq_eq_false_iff_ne.mpr c29
 have c29b1 : (t297 != 2) = true := bne_iff_ne.mpr c29
 rotate_left
 rotate_left
 ·try have c16b2 : (9223372036854775807 < (a1.extract 0 (t294 : Int).toNat).size + (rdOf ByteArray.empty y300 t303).size) = False := eq_false (Nat.not_lt.2 c16)
  try (have c16b5 := c16b2; simp only [ByteArray.size_append, spec_l01Damage.exa (of_decide_eq_true c12b1), spec_l01Damage.exb] at c16b5)
  have c17b0 := eq_true (od : 0 ≤ t294)
  have c18b0 := eq_true (od : t294 ≤ (a1.size : Int))
  by_cases c19 : ((a1.extract 0 (t294 : Int).toNat) ++ (rdOf ByteArray.empty y300 t303)).size + (a1.extract (t294 : Int).toNat a1.size).size ≤ 9223372036854775807
  ·rw [if_pos c19] at H
   have c19b0 := eq_true c19
   have c19b1 := decide_eq_true c19
   try have c19b2 : (9223372036854775807 < ((a1.extract 0 (t294 : Int).toNat) ++ (rdOf ByteArray.empty y300 t303)).size + (a1.extract (t294 : Int).toNat a1.size).size) = False := eq_false (Nat.not_lt.2 c19)
   try (have c19b5 := c19b2; simp only [ByteArray.size_append, spec_l01Damage.exa (of_decide_eq_true c12b1), spec_l01Damage.exb] at c19b5)
   try (have c19b3 := c19b2; simp only [ByteArray.size_append] at c19b3)
   simp only [Option.some.injEq, Prod.mk.injEq] at H
   obtain ⟨rfl, rfl, rfl⟩ := H
   go_enter Tryd.func26, Tryd.ntmps26
   try go_wp2_with (first | ((with_reducible refine gate_callee (f := 25) rfl ?_); refine gl 10 Tryd.func25 #[.pointer (some ⟨g, 0, none⟩), .int .i64 (wrap64 ((a1.size : Int) + 1))] ?_; (with_reducible refine (spec_l01Next.calls _ _ _ _ _ _ _ _ w0 _ ?side1 ?side2 A3.out).mono ?_); (case side1 => repeat (first | (with_reducible first | exact HI0.out | apply IsS67.alloc | apply IsS67.drewN | apply IsS67.drew | apply IsS67.set_1 | apply IsS67.set_2) | exact HI0.out)); (case side2 => repeat (first | (with_reducible first | exact HB.out | apply below_alloc | apply pw_below_drewN | apply below_drew1 | refine below_set ?_ (IsS67.ge HI0.out)) | exact HB.out)); rintro e w20 ⟨rfl, hi, hb, hk⟩; refine ⟨_, rfl, ?_⟩; replace HK := asd (KeepBut.trans (by repeat (first | (with_reducible first | exact HK.out | apply KeepBut.set_ | apply keep_drewN | apply keep_drew | apply keep_alloc) | exact HK.out)) hk (.inl rfl)); replace HB := asd (hb); replace HI0 := asd (hi); (try clear hb); (try clear hb2); (try clear hk); (try clear hi)) | ((with_reducible refine gate_callee (f := 25) rfl ?_); refine gl 12 Tryd.func25 #[.pointer (some ⟨g, 0, none⟩), .int .i64 8] ?_; (with_reducible refine (spec_l01Next.calls _ _ _ _ _ _ _ _ w0 _ ?side1 ?side2 A4.out).mono ?_); (case side1 => repeat (first | (with_reducible first | exact HI0.out | apply IsS67.alloc | apply IsS67.drewN | apply IsS67.drew | apply IsS67.set_1 | apply IsS67.set_2) | exact HI0.out)); (case side2 => repeat (first | (with_reducible first | exact HB.out | apply below_alloc | apply pw_below_drewN | apply below_drew1 | refine below_set ?_ (IsS67.ge HI0.out)) | exact HB.out)); rintro e w21 ⟨rfl, hi, hb, hk⟩; refine ⟨_, rfl, ?_⟩; replace HK := asd (KeepBut.trans (by repeat (first | (with_reducible first | exact HK.out | apply KeepBut.set_ | apply keep_drewN | apply keep_drew | apply keep_alloc) | exact HK.out)) hk (.inl rfl)); replace HB := asd (hb); replace HI0 := asd (hi); (try clear hb); (try clear hb2); (try clear hk); (try clear hi)))
   have pi306 : (0 ≤ (t303 : Int)) = True := eq_true (od)
   have qi306 : (t303 < (y300.length : Int)) = True := eq_true (od)
   replace HI0 := asd (IsS67.drew HI0.out)
   replace HK := asd (keep_drew HK.out)
   replace HB := asd (below_drew1 HB.out)
   refine start_ (n := 14) (S := fun w' => True) (ds := []) (bT 14 0) (by kernel_rfl) rfl rfl trivial (fun hHeld => ?_); refine with_tabW spec_l01Damage.tab6 spec_l01Damage.bits6 (fun HT_ HW_ => ?_)
   generalize w21.drew = w22 at HI0 HK HB hHeld ⊢
   refine pu 0 (some 20) (bT 14 1) HT_ ?_
   refine pu 1 (some 21) (bT 14 2) HT_ ?_
   refine pu 4 (some 24) (bs 14 19) HT_ ?_
   refine pu 9 (some 29) (bs 14 531) HT_ ?_
   refine pu 10 (some 30) (bs 14 1555) HT_ ?_
   refine inv_at [2, 3, 5, 6, 7, 8, 11, 12, 13] (fun a0_ b a w' => ∃ (v301 : Value) (adz_v301 : Addr) (m6_ : Value), a = putSel a0_ b [(2, 22, .string (a1.extract 0 (t294 : Int).toNat)), (3, 23, v301), (5, 25, .int .i64 t303), (6, 26, m6_), (7, 27, .string (rdOf ByteArray.empty y300 t303)), (8, 28, .string ((a1.extract 0 (t294 : Int).toNat) ++ (rdOf ByteArray.empty y300 t303))), (11, 31, .string (a1.extract (t294 : Int).toNat a1.size)), (12, 32, .string (((a1.extract 0 (t294 : Int).toNat) ++ (rdOf ByteArray.empty y300 t303)) ++ (a1.extract (t294 : Int).toNat a1.size))), (13, 4, .string (((a1.extract 0 (t294 : Int).toNat) ++ (rdOf ByteArray.empty y300 t303)) ++ (a1.extract (t294 : Int).toNat a1.size)))] ∧ (b 5 = false → IsS67 w0 w' g s0_0 t298 t299) ∧ (KeepBut w w' g none) ∧ (Below w0.heap.size w0 w') ∧ (b 3 = true → Kd.R Kd.string 9 w' w.heap.size (fun _ => True) v301 y300) ∧ (b 3 = true → ∃ c_, (v301 : Value) = .slice (some adz_v301) y300.length c_) ∧ (b 5 = true → IsS67 w0 w' g s0_0 t304 t305) ∧ (b 6 = true → (m6_ : Value) = .pointer (some (adz_v301.add (t303).toNat)))) HT_.out HW_.out (by kernel_rfl) (by kernel_rfl) ?_ ?_ ?_
   ·exact ⟨.bool false, ⟨0, 0, none⟩, .bool false, by simp only [putSel, Bool.false_eq_true, if_false], fun _ => HI0.out, HK.out, HB.out, fun h_ => absurd h_ (by decide), fun h_ => absurd h_ (by decide), fun h_ => absurd h_ (by decide), fun h_ => absurd h_ (by decide)⟩
   ·skip
    clear HB HI0 HK
    refine steps_cons ?_ ?_
    ·rintro b a w' ⟨v301, adz_v301, m6_, ha, Q_HI0, Q_HK, Q_HB, Q_HO302, Q_HA_HO302, Q_HI0_e5, Q_X6_⟩ hb_ hon hoff
     refine ⟨_, rfl, fun K hK => ?_⟩
     have e20 : a.tmps[20]? = some (.string a1) := by rw [ha]; exact (putSel_off rfl).trans rfl
     have e21 : a.tmps[21]? = some (.int .i64 t294) := by rw [ha]; exact (putSel_off rfl).trans rfl
     replace ha := Aside0.mk ha
     have HK := Aside0.mk Q_HK
     have HB := Aside0.mk Q_HB
     refine value_ (w1 := w') (v := .string (a1.extract 0 (t294 : Int).toNat)) (by rfl) rfl ?_ ?_
     ·go_simp
      (try simp only [i64_w])
      try rfl
     refine hK.out _ _ ⟨v301, adz_v301, m6_, (by rw [ha.out]; exact putSel_upk 0 hb_ rfl rfl rfl), Q_HI0, Q_HK, Q_HB, Q_HO302, Q_HA_HO302, Q_HI0_e5, Q_X6_⟩
    refine steps_cons ?_ ?_
    ·rintro b a w' ⟨v301, adz_v301, m6_, ha, Q_HI0, Q_HK, Q_HB, Q_HO302, Q_HA_HO302, Q_HI0_e5, Q_X6_⟩ hb_ hon hoff
     refine ⟨_, rfl, fun K hK => ?_⟩
     replace ha := Aside0.mk ha
     have HK := Aside0.mk Q_HK
     have HB := Aside0.mk Q_HB
     refine Kd.R_lit_step Kd.string _ 9 ?hg (N := 23) ?hd (xs := ([(⟨#[48]⟩ : ByteArray), (⟨#[49]⟩ : ByteArray), (⟨#[32]⟩ : ByteArray), (⟨#[45]⟩ : ByteArray), (⟨#[44]⟩ : ByteArray), (⟨#[59]⟩ : ByteArray), (⟨#[10]⟩ : ByteArray), (⟨#[97]⟩ : ByteArray)] : List ByteArray)) (inner := [.string (⟨#[48]⟩ : ByteArray), .string (⟨#[49]⟩ : ByteArray), .string (⟨#[32]⟩ : ByteArray), .string (⟨#[45]⟩ : ByteArray), .string (⟨#[44]⟩ : ByteArray), .string (⟨#[59]⟩ : ByteArray), .string (⟨#[10]⟩ : ByteArray), .string (⟨#[97]⟩ : ByteArray)]) (ok := fun _ => True) (okp := fun _ => True) ?hr ?hp (fun _ hk => hk) trivial (Below.refl _ _) (Nat.le_refl _) (by simp) ?_; (case hd => rfl); (case hg => rfl); (case hr => first | (go_simp; done) | (go_simp; rfl)); (case hp => exact (Reps.one (show Kd.M Kd.string _ _ _ (⟨#[48]⟩ : ByteArray) [.string (⟨#[48]⟩ : ByteArray)] from rfl) (Reps.one (show Kd.M Kd.string _ _ _ (⟨#[49]⟩ : ByteArray) [.string (⟨#[49]⟩ : ByteArray)] from rfl) (Reps.one (show Kd.M Kd.string _ _ _ (⟨#[32]⟩ : ByteArray) [.string (⟨#[32]⟩ : ByteArray)] from rfl) (Reps.one (show Kd.M Kd.string _ _ _ (⟨#[45]⟩ : ByteArray) [.string (⟨#[45]⟩ : ByteArray)] from rfl) (Reps.one (show Kd.M Kd.string _ _ _ (⟨#[44]⟩ : ByteArray) [.string (⟨#[44]⟩ : ByteArray)] from rfl) (Reps.one (show Kd.M Kd.string _ _ _ (⟨#[59]⟩ : ByteArray) [.string (⟨#[59]⟩ : ByteArray)] from rfl) (Reps.one (show Kd.M Kd.string _ _ _ (⟨#[10]⟩ : ByteArray) [.string (⟨#[10]⟩ : ByteArray)] from rfl) (Reps.one (show Kd.M Kd.string _ _ _ (⟨#[97]⟩ : ByteArray) [.string (⟨#[97]⟩ : ByteArray)] from rfl) (Reps.none _ _))))))))))
     intro v301 w23 ho24 hb hg_ hnew_
     clear hg_ hnew_
     (first | rw [← Ny300.out] at ho24 | (simp only [Int.reduceToNat] at ho24; rw [← Ny300.out] at ho24))
     have n0_ := asd (Kd.R_lower ho24 (keep_size (w := w) (g := g) (row := none) (by repeat (first | (with_reducible first | exact HK.out | apply KeepBut.set_ | apply keep_drewN | apply keep_drew | apply keep_alloc) | exact HK.out))))
     have n2_ := asd (KeepBut.trans (by repeat (first | (with_reducible first | exact HK.out | apply KeepBut.set_ | apply keep_drewN | apply keep_drew | apply keep_alloc) | exact HK.out)) (KeepBut.of_below hb g none) (.inl rfl))
     have n3_ := bS0 HB hb
     have z_HI0 := fun (h0_ : b 5 = false) => (show IsS67 w0 w23 g s0_0 t298 t299 from by first | exact (IsS67.below (by repeat (first | (with_reducible first | exact (Q_HI0 h0_) | apply IsS67.alloc | apply IsS67.drewN | apply IsS67.drew | apply IsS67.set_1 | apply IsS67.set_2) | exact (Q_HI0 h0_))) hb))
     have z_HI0_e5 := fun (h0_ : b 5 = true) => (show IsS67 w0 w23 g s0_0 t304 t305 from by first | exact (IsS67.below (by repeat (first | (with_reducible first | exact (Q_HI0_e5 h0_) | apply IsS67.alloc | apply IsS67.drewN | apply IsS67.drew | apply IsS67.set_1 | apply IsS67.set_2) | exact (Q_HI0_e5 h0_))) hb))
     clear HK
     clear HB
     have HO302 := n0_
     have HK := n2_
     have HB := n3_
     clear n0_ n2_ n3_
     clear hb ho24
     obtain ⟨Ao25, co25, eo25⟩ := Kd.R_slice HO302.out
     subst eo25
     obtain ⟨ado25, fo25, _⟩ := Kd.at_string (Kd.R_reads' HO302.out).2.2 0 (by decide) (by rw [Ny300.out]; simp)
     cases fo25
     refine hK.out _ _ ⟨.slice (some ado25) y300.length co25, ado25, m6_, (by rw [ha.out]; exact putSel_upk 1 hb_ rfl rfl rfl), z_HI0, (by repeat (first | (with_reducible first | exact HK.out | apply KeepBut.set_ | apply keep_drewN | apply keep_drew | apply keep_alloc) | exact HK.out)), (bbw0 HB), fun _ => (kr HO302), fun _ => ⟨_, rfl⟩, z_HI0_e5, fun h0_ => absurd ((hoff 6 (by kernel_rfl)).symm.trans h0_) (by decide)⟩
    refine steps_cons ?_ ?_
    ·rintro b a w' ⟨v301, adz_v301, m6_, ha, Q_HI0, Q_HK, Q_HB, Q_HO302, Q_HA_HO302, Q_HI0_e5, Q_X6_⟩ hb_ hon hoff
     refine ⟨_, rfl, fun K hK => ?_⟩
     have e24 : a.tmps[24]? = some (.pointer (some ⟨g, 0, none⟩)) := by rw [ha]; exact (putSel_off rfl).trans rfl
     replace ha := Aside0.mk ha
     have HI0 := asd (Q_HI0 hb_)
     have HK := Aside0.mk Q_HK
     have HB := Aside0.mk Q_HB
     refine goes_ Tryd.func25 (by kernel_rfl) rfl #[.pointer (some ⟨g, 0, none⟩), .int .i64 8] (by rfl) rfl rfl (by first | (simp only [List.map_toArray, List.map_cons, List.map_nil, Act.eval, Array.getD_eq_getD_getElem?, Option.getD_some, e24]; done) | (simp only [List.map_toArray, List.map_cons, List.map_nil, Act.eval, Array.getD_eq_getD_getElem?, Option.getD_some, e24]; rfl)) ?_
     with_reducible refine (spec_l01Next.calls _ _ _ _ _ _ _ _ w0 _ ?side1 ?side2 A13.out).mono ?_
     (case side1 => repeat (first | (with_reducible first | exact HI0.out | apply IsS67.alloc | apply IsS67.drewN | apply IsS67.drew | apply IsS67.set_1 | apply IsS67.set_2) | exact HI0.out))
     (case side2 => repeat (first | (with_reducible first | exact HB.out | apply below_alloc | apply pw_below_drewN | apply below_drew1 | refine below_set ?_ (IsS67.ge HI0.out)) | exact HB.out))
     rintro e w23 ⟨rfl, hi, hb, hk⟩
     refine ⟨_, rfl, ?_⟩
     have n0_ := asd (KeepBut.trans (by repeat (first | (with_reducible first | exact HK.out | apply KeepBut.set_ | apply keep_drewN | apply keep_drew | apply keep_alloc) | exact HK.out)) hk (.inl rfl))
     have n1_ := asd (hb)
     have n2_ := asd (hi)
     have z_HO302 := fun (h0_ : b 3 = true) => (show Kd.R Kd.string 9 w23 w.heap.size (fun _ => True) v301 y300 from by first | exact (Kd.R_mono (Kd.R_keep (IsS67.apart (show IsS67 w0 _ g s0_0 t298 t299 from by repeat (first | (with_reducible first | exact HI0.out | apply IsS67.alloc | apply IsS67.drewN | apply IsS67.drew | apply IsS67.set_1 | apply IsS67.set_2) | exact HI0.out)) (by (with_reducible repeat (first | apply Kd.R_alloc | apply Kd.R_drewN | apply Kd.R_drew)); exact (Q_HO302 h0_)) (by decide)) hk (fun _ h => h.2)) (fun _ h => h.1)) | exact Kd.R_mono (Kd.R_mono (Kd.R_keep (IsS67.apart (show IsS67 w0 _ g s0_0 t298 t299 from by repeat (first | (with_reducible first | exact HI0.out | apply IsS67.alloc | apply IsS67.drewN | apply IsS67.drew | apply IsS67.set_1 | apply IsS67.set_2) | exact HI0.out)) (by (with_reducible repeat (first | apply Kd.R_alloc | apply Kd.R_drewN | apply Kd.R_drew)); exact (Q_HO302 h0_)) (by decide)) hk (fun _ h => h.2)) (fun _ h => h.1)) (fun _ h_ => by first | trivial | exact h_ | exact h_.1))
     clear HK
     clear HB
     clear HI0
     have HK := n0_
     have HB := n1_
     have HI0 := n2_
     clear n0_ n1_ n2_
     (try clear hb)
     (try clear hb2)
     (try clear hk)
     (try clear hi)
     refine hK.out _ _ ⟨v301, adz_v301, m6_, (by rw [ha.out]; exact putSel_upk 2 hb_ rfl rfl rfl), fun h0_ => absurd ((up_self b 5).symm.trans h0_) (by decide), (by repeat (first | (with_reducible first | exact HK.out | apply KeepBut.set_ | apply keep_drewN | apply keep_drew | apply keep_alloc) | exact HK.out)), (by repeat (first | (with_reducible first | exact HB.out | apply below_alloc | apply pw_below_drewN | apply below_drew1 | refine below_set ?_ (IsS67.ge HI0.out)) | exact HB.out)), z_HO302, Q_HA_HO302, fun _ => (by repeat (first | (with_reducible first | exact HI0.out | apply IsS67.alloc | apply IsS67.drewN | apply IsS67.drew | apply IsS67.set_1 | apply IsS67.set_2) | exact HI0.out)), fun h0_ => absurd ((hoff 6 (by kernel_rfl)).symm.trans h0_) (by decide)⟩
    refine steps_cons ?_ ?_
    ·rintro b a w' ⟨v301, adz_v301, m6_, ha, Q_HI0, Q_HK, Q_HB, Q_HO302, Q_HA_HO302, Q_HI0_e5, Q_X6_⟩ hb_ hon hoff
     refine ⟨_, rfl, fun K hK => ?_⟩
     have e23 : a.tmps[23]? = some (v301) := by rw [ha]; exact putSel_on (e := (3, 23, v301)) 1 rfl rfl (hon 3 (by kernel_rfl)) rfl
     have e25 : a.tmps[25]? = some (.int .i64 t303) := by rw [ha]; exact putSel_on (e := (5, 25, .int .i64 t303)) 2 rfl rfl (hon 5 (by kernel_rfl)) rfl
     replace ha := Aside0.mk ha
     have HK := Aside0.mk Q_HK
     have HB := Aside0.mk Q_HB
     have HO302 := asd (Q_HO302 (hon 3 (by kernel_rfl)))
     have HA_HO302 := asd (Q_HA_HO302 (hon 3 (by kernel_rfl)))
     have HI0 := asd (Q_HI0_e5 (hon 5 (by kernel_rfl)))
     obtain ⟨c_, hv_⟩ := HA_HO302.out
     rw [hv_] at e23
     refine value_ (w1 := w') (v := .pointer (some (adz_v301.add (t303).toNat))) (by rfl) rfl ?_ ?_
     ·go_simp
      (try simp only [i64_w])
      try rfl
     refine hK.out _ _ ⟨v301, adz_v301, (.pointer (some (adz_v301.add (t303).toNat))), (by rw [ha.out]; exact putSel_upk 3 hb_ rfl rfl rfl), fun h0_ => absurd ((hon 5 (by kernel_rfl)).symm.trans h0_) (by decide), Q_HK, Q_HB, Q_HO302, Q_HA_HO302, Q_HI0_e5, fun _ => rfl⟩
    refine steps_cons ?_ ?_
    ·rintro b a w' ⟨v301, adz_v301, m6_, ha, Q_HI0, Q_HK, Q_HB, Q_HO302, Q_HA_HO302, Q_HI0_e5, Q_X6_⟩ hb_ hon hoff
     refine ⟨_, rfl, fun K hK => ?_⟩
     have e26 : a.tmps[26]? = some (m6_) := by rw [ha]; exact putSel_on (e := (6, 26, m6_)) 3 rfl rfl (hon 6 (by kernel_rfl)) rfl
     rw [Q_X6_ (hon 6 (by kernel_rfl))] at e26
     replace ha := Aside0.mk ha
     have HK := Aside0.mk Q_HK
     have HB := Aside0.mk Q_HB
     have HO302 := asd (Q_HO302 (hon 3 (by kernel_rfl)))
     have HA_HO302 := asd (Q_HA_HO302 (hon 3 (by kernel_rfl)))
     have HI0 := asd (Q_HI0_e5 (hon 5 (by kernel_rfl)))
     obtain ⟨c_, hv_⟩ := HA_HO302.out
     have hF_ := HO302.out
     rw [hv_] at hF_
     obtain ⟨ad_, ea_, hx_⟩ := Kd.at_string (Kd.R_reads' hF_).2.2 t303 (of_eq_true pi306) (of_eq_true qi306)
     cases ea_
     refine value_ (w1 := w') (v := .string (rdOf ByteArray.empty y300 t303)) (by rfl) rfl ?_ ?_
     ·go_simp
      (try simp only [i64_w])
      try rfl
     refine hK.out _ _ ⟨v301, adz_v301, m6_, (by rw [ha.out]; exact putSel_upk 4 hb_ rfl rfl rfl), fun h0_ => absurd ((hon 5 (by kernel_rfl)).symm.trans h0_) (by decide), Q_HK, Q_HB, Q_HO302, Q_HA_HO302, Q_HI0_e5, Q_X6_⟩
    refine steps_cons ?_ ?_
    ·rintro b a w' ⟨v301, adz_v301, m6_, ha, Q_HI0, Q_HK, Q_HB, Q_HO302, Q_HA_HO302, Q_HI0_e5, Q_X6_⟩ hb_ hon hoff
     refine ⟨_, rfl, fun K hK => ?_⟩
     have e22 : a.tmps[22]? = some (.string (a1.extract 0 (t294 : Int).toNat)) := by rw [ha]; exact putSel_on (e := (2, 22, .string (a1.extract 0 (t294 : Int).toNat))) 0 rfl rfl (hon 2 (by kernel_rfl)) rfl
     have e27 : a.tmps[27]? = some (.string (rdOf ByteArray.empty y300 t303)) := by rw [ha]; exact putSel_on (e := (7, 27, .string (rdOf ByteArray.empty y300 t303))) 4 rfl rfl (hon 7 (by kernel_rfl)) rfl
     replace ha := Aside0.mk ha
     have HK := Aside0.mk Q_HK
     have HB := Aside0.mk Q_HB
     have HO302 := asd (Q_HO302 (hon 3 (by kernel_rfl)))
     have HA_HO302 := asd (Q_HA_HO302 (hon 3 (by kernel_rfl)))
     have HI0 := asd (Q_HI0_e5 (hon 5 (by kernel_rfl)))
     refine value_ (w1 := w') (v := .string ((a1.extract 0 (t294 : Int).toNat) ++ (rdOf ByteArray.empty y300 t303))) (by rfl) rfl ?_ ?_
     ·go_simp
      (try simp only [i64_w])
      try rfl
     refine hK.out _ _ ⟨v301, adz_v301, m6_, (by rw [ha.out]; exact putSel_upk 5 hb_ rfl rfl rfl), fun h0_ => absurd ((hon 5 (by kernel_rfl)).symm.trans h0_) (by decide), Q_HK, Q_HB, Q_HO302, Q_HA_HO302, Q_HI0_e5, Q_X6_⟩
    refine steps_cons ?_ ?_
    ·rintro b a w' ⟨v301, adz_v301, m6_, ha, Q_HI0, Q_HK, Q_HB, Q_HO302, Q_HA_HO302, Q_HI0_e5, Q_X6_⟩ hb_ hon hoff
     refine ⟨_, rfl, fun K hK => ?_⟩
     have e29 : a.tmps[29]? = some (.string a1) := by rw [ha]; exact (putSel_off rfl).trans rfl
     have e30 : a.tmps[30]? = some (.int .i64 t294) := by rw [ha]; exact (putSel_off rfl).trans rfl
     replace ha := Aside0.mk ha
     have HK := Aside0.mk Q_HK
     have HB := Aside0.mk Q_HB
     refine value_ (w1 := w') (v := .string (a1.extract (t294 : Int).toNat a1.size)) (by rfl) rfl ?_ ?_
     ·go_simp
      (try simp only [i64_w])
      try rfl
     refine hK.out _ _ ⟨v301, adz_v301, m6_, (by rw [ha.out]; exact putSel_upk 6 hb_ rfl rfl rfl), Q_HI0, Q_HK, Q_HB, Q_HO302, Q_HA_HO302, Q_HI0_e5, Q_X6_⟩
    refine steps_cons ?_ ?_
    ·rintro b a w' ⟨v301, adz_v301, m6_, ha, Q_HI0, Q_HK, Q_HB, Q_HO302, Q_HA_HO302, Q_HI0_e5, Q_X6_⟩ hb_ hon hoff
     refine ⟨_, rfl, fun K hK => ?_⟩
     have e28 : a.tmps[28]? = some (.string ((a1.extract 0 (t294 : Int).toNat) ++ (rdOf ByteArray.empty y300 t303))) := by rw [ha]; exact putSel_on (e := (8, 28, .string ((a1.extract 0 (t294 : Int).toNat) ++ (rdOf ByteArray.empty y300 t303)))) 5 rfl rfl (hon 8 (by kernel_rfl)) rfl
     have e31 : a.tmps[31]? = some (.string (a1.extract (t294 : Int).toNat a1.size)) := by rw [ha]; exact putSel_on (e := (11, 31, .string (a1.extract (t294 : Int).toNat a1.size))) 6 rfl rfl (hon 11 (by kernel_rfl)) rfl
     replace ha := Aside0.mk ha
     have HK := Aside0.mk Q_HK
     have HB := Aside0.mk Q_HB
     have HO302 := asd (Q_HO302 (hon 3 (by kernel_rfl)))
     have HA_HO302 := asd (Q_HA_HO302 (hon 3 (by kernel_rfl)))
     have HI0 := asd (Q_HI0_e5 (hon 5 (by kernel_rfl)))
     refine value_ (w1 := w') (v := .string (((a1.extract 0 (t294 : Int).toNat) ++ (rdOf ByteArray.empty y300 t303)) ++ (a1.extract (t294 : Int).toNat a1.size))) (by rfl) rfl ?_ ?_
     ·go_simp
      (try simp only [i64_w])
      try rfl
     refine hK.out _ _ ⟨v301, adz_v301, m6_, (by rw [ha.out]; exact putSel_upk 7 hb_ rfl rfl rfl), fun h0_ => absurd ((hon 5 (by kernel_rfl)).symm.trans h0_) (by decide), Q_HK, Q_HB, Q_HO302, Q_HA_HO302, Q_HI0_e5, Q_X6_⟩
    refine steps_cons ?_ ?_
    ·rintro b a w' ⟨v301, adz_v301, m6_, ha, Q_HI0, Q_HK, Q_HB, Q_HO302, Q_HA_HO302, Q_HI0_e5, Q_X6_⟩ hb_ hon hoff
     refine ⟨_, rfl, fun K hK => ?_⟩
     have e32 : a.tmps[32]? = some (.string (((a1.extract 0 (t294 : Int).toNat) ++ (rdOf ByteArray.empty y300 t303)) ++ (a1.extract (t294 : Int).toNat a1.size))) := by rw [ha]; exact putSel_on (e := (12, 32, .string (((a1.extract 0 (t294 : Int).toNat) ++ (rdOf ByteArray.empty y300 t303)) ++ (a1.extract (t294 : Int).toNat a1.size)))) 7 rfl rfl (hon 12 (by kernel_rfl)) rfl
     replace ha := Aside0.mk ha
     have HK := Aside0.mk Q_HK
     have HB := Aside0.mk Q_HB
     have HO302 := asd (Q_HO302 (hon 3 (by kernel_rfl)))
     have HA_HO302 := asd (Q_HA_HO302 (hon 3 (by kernel_rfl)))
     have HI0 := asd (Q_HI0_e5 (hon 5 (by kernel_rfl)))
     refine value_ (w1 := w') (v := .string (((a1.extract 0 (t294 : Int).toNat) ++ (rdOf ByteArray.empty y300 t303)) ++ (a1.extract (t294 : Int).toNat a1.size))) (by rfl) rfl ?_ ?_
     ·go_simp
      (try simp only [i64_w])
      try rfl
     refine hK.out _ _ ⟨v301, adz_v301, m6_, (by rw [ha.out]; exact putSel_upk 8 hb_ rfl rfl rfl), fun h0_ => absurd ((hon 5 (by kernel_rfl)).symm.trans h0_) (by decide), Q_HK, Q_HB, Q_HO302, Q_HA_HO302, Q_HI0_e5, Q_X6_⟩
    exact steps_nil
   rintro b a w27 hall ⟨v301, adz_v301, m6_, ha, Q_HI0, Q_HK, Q_HB, Q_HO302, Q_HA_HO302, Q_HI0_e5, Q_X6_⟩
   clear HB HI0 HK
   have hb2_ := hall 2 (by kernel_rfl)
   have hb3_ := hall 3 (by kernel_rfl)
   have hb5_ := hall 5 (by kernel_rfl)
   have hb6_ := hall 6 (by kernel_rfl)
   have hb7_ := hall 7 (by kernel_rfl)
   have hb8_ := hall 8 (by kernel_rfl)
   have hb11_ := hall 11 (by kernel_rfl)
   have hb12_ := hall 12 (by kernel_rfl)
   have hb13_ := hall 13 (by kernel_rfl)
   subst ha
   obtain rfl := Q_X6_ hb6_
   simp only [putSel, hb2_, hb3_, hb5_, hb6_, hb7_, hb8_, hb11_, hb12_, hb13_, if_true, Act.put, sA, sB, sC]
   clear Q_HI0
   have HK := Aside0.mk Q_HK
   clear Q_HK
   have HB := Aside0.mk Q_HB
   clear Q_HB
   have HO302 := asd (Q_HO302 hb3_)
   clear Q_HO302
   have HA_HO302 := asd (Q_HA_HO302 hb3_)
   clear Q_HA_HO302
   have HI0 := asd (Q_HI0_e5 hb5_)
   clear Q_HI0_e5
   clear hall hb2_ hb3_ hb5_ hb6_ hb7_ hb8_ hb11_ hb12_ hb13_
   obtain ⟨co28, eo28⟩ := HA_HO302.out
   clear HA_HO302
   subst eo28
   try go_wp2
   go_ret
   exact ⟨by first | rfl | (simp [errW_none, errW_some] <;> rfl) | (simp [*, errW_none, errW_some] <;> rfl), by repeat (first | (with_reducible first | exact HI0.out | apply IsS67.alloc | apply IsS67.drewN | apply IsS67.drew | apply IsS67.set_1 | apply IsS67.set_2) | exact HI0.out), by repeat (first | (with_reducible first | exact HB.out | apply below_alloc | apply pw_below_drewN | apply below_drew1 | refine below_set ?_ (IsS67.ge HI0.out)) | exact HB.out), by repeat (first | (with_reducible first | exact HK.out | apply KeepBut.set_ | apply keep_drewN | apply keep_drew | apply keep_alloc) | exact HK.out)⟩
  ·rw [if_neg c19] at H
   exact absurd H (by simp)
 try have c36b2 : (9223372036854775807 < (a1.extract 0 (t294 : Int).toNat).size + (a1.extract ((ji33) : Int).toNat a1.size).size) = False := eq_false (Nat.not_lt.2 c36)
 try (have c36b5 := c36b2; simp only [ByteArray.size_append, spec_l01Damage.exa (of_decide_eq_true c32b1), spec_l01Damage.exb] at c36b5)
 rotate_left 3
 all_goals
  simp only [Option.some.injEq, Prod.mk.injEq] at H
  obtain ⟨rfl, rfl, rfl⟩ := H
  go_enter Tryd.func26, Tryd.ntmps26
 rotate_left
 ·try go_wp2_with (first | ((with_reducible refine gate_callee (f := 25) rfl ?_); refine gl 10 Tryd.func25 #[.pointer (some ⟨g, 0, none⟩), .int .i64 (wrap64 ((a1.size : Int) + 1))] ?_; (with_reducible refine (spec_l01Next.calls _ _ _ _ _ _ _ _ w0 _ ?side1 ?side2 A3.out).mono ?_); (case side1 => repeat (first | (with_reducible first | exact HI0.out | apply IsS67.alloc | apply IsS67.drewN | apply IsS67.drew | apply IsS67.set_1 | apply IsS67.set_2) | exact HI0.out)); (case side2 => repeat (first | (with_reducible first | exact HB.out | apply below_alloc | apply pw_below_drewN | apply below_drew1 | refine below_set ?_ (IsS67.ge HI0.out)) | exact HB.out)); rintro e w37 ⟨rfl, hi, hb, hk⟩; refine ⟨_, rfl, ?_⟩; replace HK := asd (KeepBut.trans (by repeat (first | (with_reducible first | exact HK.out | apply KeepBut.set_ | apply keep_drewN | apply keep_drew | apply keep_alloc) | exact HK.out)) hk (.inl rfl)); replace HB := asd (hb); replace HI0 := asd (hi); (try clear hb); (try clear hb2); (try clear hk); (try clear hi)) | ((with_reducible refine gate_callee (f := 25) rfl ?_); refine gl 12 Tryd.func25 #[.pointer (some ⟨g, 0, none⟩), .int .i64 8] ?_; (with_reducible refine (spec_l01Next.calls _ _ _ _ _ _ _ _ w0 _ ?side1 ?side2 A4.out).mono ?_); (case side1 => repeat (first | (with_reducible first | exact HI0.out | apply IsS67.alloc | apply IsS67.drewN | apply IsS67.drew | apply IsS67.set_1 | apply IsS67.set_2) | exact HI0.out)); (case side2 => repeat (first | (with_reducible first | exact HB.out | apply below_alloc | apply pw_below_drewN | apply below_drew1 | refine below_set ?_ (IsS67.ge HI0.out)) | exact HB.out)); rintro e w38 ⟨rfl, hi, hb, hk⟩; refine ⟨_, rfl, ?_⟩; replace HK := asd (KeepBut.trans (by repeat (first | (with_reducible first | exact HK.out | apply KeepBut.set_ | apply keep_drewN | apply keep_drew | apply keep_alloc) | exact HK.out)) hk (.inl rfl)); replace HB := asd (hb); replace HI0 := asd (hi); (try clear hb); (try clear hb2); (try clear hk); (try clear hi)))
  replace HI0 := asd (IsS67.drew HI0.out)
  replace HK := asd (keep_drew HK.out)
  replace HB := asd (below_drew1 HB.out)
  refine start_ (n := 9) (S := fun w' => True) (ds := []) (bT 9 0) (by kernel_rfl) rfl rfl trivial (fun hHeld => ?_); refine with_tabW spec_l01Damage.tab9 spec_l01Damage.bits9 (fun HT_ HW_ => ?_)
  generalize w38.drew = w39 at HI0 HK HB hHeld ⊢
  refine pu 0 (some 39) (bT 9 1) HT_ ?_
  refine pu 1 (some 40) (bT 9 2) HT_ ?_
  refine pu 2 (some 41) (bT 9 3) HT_ ?_
  refine pu 3 (some 42) (bT 9 4) HT_ ?_
  refine pu 4 (some 43) (bT 9 5) HT_ ?_
  refine pu 5 (some 44) (bT 9 6) HT_ ?_
  refine pu 6 (some 45) (bT 9 7) HT_ ?_
  refine pu 7 (some 46) (bT 9 8) HT_ ?_
  refine pu 8 (some 4) (bT 9 9) HT_ ?_
  refine done_ (done_of HT_.out (by kernel_rfl)) ?_
  try go_wp2
  go_ret
  exact ⟨by first | rfl | (simp [errW_none, errW_some] <;> rfl) | (simp only [← hji33]; first | rfl | (simp [errW_none, errW_some] <;> rfl)) | (simp [*, errW_none, errW_some] <;> rfl), by repeat (first | (with_reducible first | exact HI0.out | apply IsS67.alloc | apply IsS67.drewN | apply IsS67.drew | apply IsS67.set_1 | apply IsS67.set_2) | exact HI0.out), by repeat (first | (with_reducible first | exact HB.out | apply below_alloc | apply pw_below_drewN | apply below_drew1 | refine below_set ?_ (IsS67.ge HI0.out)) | exact HB.out), by repeat (first | (with_reducible first | exact HK.out | apply KeepBut.set_ | apply keep_drewN | apply keep_drew | apply keep_alloc) | exact HK.out)⟩
 rotate_left 2
 all_goals
  go_wp2_with (first | ((with_reducible refine gate_callee (f := 25) rfl ?_); refine gl 10 Tryd.func25 #[.pointer (some ⟨g, 0, none⟩), .int .i64 (wrap64 ((a1.size : Int) + 1))] ?_; (with_reducible refine (spec_l01Next.calls _ _ _ _ _ _ _ _ w0 _ ?side1 ?side2 A3.out).mono ?_); (case side1 => repeat (first | (with_reducible first | exact HI0.out | apply IsS67.alloc | apply IsS67.drewN | apply IsS67.drew | apply IsS67.set_1 | apply IsS67.set_2) | exact HI0.out)); (case side2 => repeat (first | (with_reducible first | exact HB.out | apply below_alloc | apply pw_below_drewN | apply below_drew1 | refine below_set ?_ (IsS67.ge HI0.out)) | exact HB.out)); rintro e w8 ⟨rfl, hi, hb, hk⟩; refine ⟨_, rfl, ?_⟩; replace HK := asd (KeepBut.trans (by repeat (first | (with_reducible first | exact HK.out | apply KeepBut.set_ | apply keep_drewN | apply keep_drew | apply keep_alloc) | exact HK.out)) hk (.inl rfl)); replace HB := asd (hb); replace HI0 := asd (hi); (try clear hb); (try clear hb2); (try clear hk); (try clear hi)) | ((with_reducible refine gate_callee (f := 25) rfl ?_); refine gl 12 Tryd.func25 #[.pointer (some ⟨g, 0, none⟩), .int .i64 8] ?_; (with_reducible refine (spec_l01Next.calls _ _ _ _ _ _ _ _ w0 _ ?side1 ?side2 A4.out).mono ?_); (case side1 => repeat (first | (with_reducible first | exact HI0.out | apply IsS67.alloc | apply IsS67.drewN | apply IsS67.drew | apply IsS67.set_1 | apply IsS67.set_2) | exact HI0.out)); (case side2 => repeat (first | (with_reducible first | exact HB.out | apply below_alloc | apply pw_below_drewN | apply below_drew1 | refine below_set ?_ (IsS67.ge HI0.out)) | exact HB.out)); rintro e w9 ⟨rfl, hi, hb, hk⟩; refine ⟨_, rfl, ?_⟩; replace HK := asd (KeepBut.trans (by repeat (first | (with_reducible first | exact HK.out | apply KeepBut.set_ | apply keep_drewN | apply keep_drew | apply keep_alloc) | exact HK.out)) hk (.inl rfl)); replace HB := asd (hb); replace HI0 := asd (hi); (try clear hb); (try clear hb2); (try clear hk); (try clear hi)))
  go_ret
  exact ⟨by first | rfl | (simp [errW_none, errW_some] <;> rfl) | (simp [*, errW_none, errW_some] <;> rfl), by repeat (first | (with_reducible first | exact HI0.out | apply IsS67.alloc | apply IsS67.drewN | apply IsS67.drew | apply IsS67.set_1 | apply IsS67.set_2) | exact HI0.out), by repeat (first | (with_reducible first | exact HB.out | apply below_alloc | apply pw_below_drewN | apply below_drew1 | refine below_set ?_ (IsS67.ge HI0.out)) | exact HB.out), by repeat (first | (with_reducible first | exact HK.out | apply KeepBut.set_ | apply keep_drewN | apply keep_drew | apply keep_alloc) | exact HK.out)⟩
/-! ### spec_DrawReadFrieze: function 12 -/
def spec_DrawReadFrieze.f (k : Nat) (l0 : List Int) : Option (ByteArray) := (spec_l01From.f k l0).bind fun bt307 => ((spec_l08Draw.f k bt307.1 bt307.2.1 bt307.2.2).bind fun bt311 => ((spec_FriezeText.f k bt311.1 bt311.2.1 bt311.2.2.1).bind fun bt318 => ((spec_l01Next.f bt307.1 bt311.2.2.2.1 bt311.2.2.2.2 3).bind fun bt320 => (if bt320.1 = 0 then ((spec_l01Damage.f bt307.1 bt320.2.1 bt320.2.2 bt318.1).bind fun bt323 => (some bt323.1)) else (some bt318.1)))))
set_option maxHeartbeats 8000000 in
set_option maxRecDepth 100000 in
theorem spec_DrawReadFrieze.calls (k : Nat) (A0 : Option Addr) (c0 : Nat) (l0 : List Int) (r : ByteArray) (w : World) (hr0 : Kd.C (Kd.int .u8) w A0 l0.length l0) (hc0 : l0.length ≤ c0) (h : spec_DrawReadFrieze.f k l0 = some r) :
  Calls Tryd.prog 12 #[.slice A0 l0.length c0] w fun e w' => e = .returned (.string r) ∧ Below w.heap.size w w' := by
 have HR0 := Aside0.mk hr0
 have HC0 := Aside0.mk hc0
 clear hr0 hc0
 have HB := asd (Below.refl w.heap.size w)
 have H : ((spec_l01From.f k l0).bind fun bt307 => ((spec_l08Draw.f k bt307.1 bt307.2.1 bt307.2.2).bind fun bt311 => ((spec_FriezeText.f k bt311.1 bt311.2.1 bt311.2.2.1).bind fun bt318 => ((spec_l01Next.f bt307.1 bt311.2.2.2.1 bt311.2.2.2.2 3).bind fun bt320 => (if bt320.1 = 0 then ((spec_l01Damage.f bt307.1 bt320.2.1 bt320.2.2 bt318.1).bind fun bt323 => (some bt323.1)) else (some bt318.1)))))) = some r := h
 clear h
 obtain ⟨⟨t307, t308, t309⟩, A2, H⟩ := ob H
 try dsimp only at H
 obtain ⟨⟨t311, t312, t313, t316, t317⟩, A3, H⟩ := ob H
 try dsimp only at H
 obtain ⟨⟨t318, t319⟩, A4, H⟩ := ob H
 try dsimp only at H
 obtain ⟨⟨t320, t321, t322⟩, A5, H⟩ := ob H
 try dsimp only at H
 by_cases c6 : t320 = 0
 rw [if_pos c6] at H
 have c6b0 : (t320 == 0) = true := beq_iff_eq.mpr c6
 have c6b1 : (t320 != 0) = false := bne_eq_false_iff_eq.mpr c6
 clear c6
 obtain ⟨⟨t323, t324, t325⟩, A7, H⟩ := ob H
 try dsimp only at H
 obtain rfl := Option.some.inj H
 rotate_left
 rw [if_neg c6] at H
 have c6b0 : (t320 == 0) = false := beq_eq_false_iff_ne.mpr c6
 have c6b1 : (t320 != 0) = true := bne_iff_ne.mpr c6
 obtain rfl := Option.some.inj H
 rotate_left
 all_goals
  go_enter Tryd.func12, Tryd.ntmps12
  go_wp2_with (first | ((with_reducible refine gate_callee (f := 24) rfl ?_); refine gl 7 Tryd.func24 #[.slice A0 l0.length c0] ?_; (with_reducible refine (spec_l01From.calls _ _ _ _ _ _ _ w _ ?side1 ?side2 ?side3 A2.out).mono ?_); (case side1 => repeat (first | (with_reducible first | exact HB.out | apply below_alloc | apply pw_below_drewN | apply below_drew1) | exact HB.out)); (case side2 => exact HR0.out); (case side3 => exact HC0.out); rintro e w8 ⟨g310, rfl, hi, hb, hb2⟩; refine ⟨_, rfl, ?_⟩; replace HB := asd (hb); have HI310 := asd (hi); (try clear hb); (try clear hb2); (try clear hk); (try clear hi)) | ((with_reducible refine gate_callee (f := 23) rfl ?_); refine gl 10 Tryd.func23 #[.pointer (some ⟨g310, 0, none⟩)] ?_; (with_reducible refine (spec_l08Draw.calls _ _ _ _ _ _ _ _ _ _ w _ ?side1 ?side2 A3.out).mono ?_); (case side1 => repeat (first | (with_reducible first | exact HI310.out | apply IsS67.alloc | apply IsS67.drewN | apply IsS67.drew | apply IsS67.set_1 | apply IsS67.set_2) | exact HI310.out)); (case side2 => repeat (first | (with_reducible first | exact HB.out | apply below_alloc | apply pw_below_drewN | apply below_drew1 | refine below_set ?_ (IsS67.ge HI310.out)) | exact HB.out)); rintro e w9 ⟨v314, rfl, ho0, hi, hb, hk⟩; refine ⟨_, rfl, ?_⟩; have HO315 := asd (Kd.R_lower ho0 (below_size (by repeat (first | (with_reducible first | exact HB.out | apply below_alloc | apply pw_below_drewN | apply below_drew1 | refine below_set ?_ (IsS67.ge HI310.out)) | exact HB.out)))); replace HB := asd (hb); replace HI310 := asd (hi); (try clear hb); (try clear hb2); (try clear hk); (try clear hi); (try clear ho0); obtain ⟨Ao10, co10, eo10⟩ := Kd.R_slice HO315.out; subst eo10) | ((with_reducible refine gate_callee (f := 6) rfl ?_); refine gl 11 Tryd.func6 #[.agg #[.int .i64 t311, .int .i64 t312, .slice Ao10 t313.length co10]] ?_; (with_reducible refine (spec_FriezeText.calls _ _ _ _ _ _ _ _ _ ?side1 ?side2 A4.out).mono ?_); (case side1 => exact ks (Kd.R_reads' HO315.out).2.2); (case side2 => exact (Kd.R_reads' HO315.out).2.1); rintro e w11 ⟨rfl, hb⟩; refine ⟨_, rfl, ?_⟩; replace HO315 := asd (Kd.R_below (kr HO315) hb); replace HB := asd (below_step (by repeat (first | (with_reducible first | exact HB.out | apply below_alloc | apply pw_below_drewN | apply below_drew1 | refine below_set ?_ (IsS67.ge HI310.out)) | exact HB.out)) hb); replace HI310 := asd (IsS67.below (by repeat (first | (with_reducible first | exact HI310.out | apply IsS67.alloc | apply IsS67.drewN | apply IsS67.drew | apply IsS67.set_1 | apply IsS67.set_2) | exact HI310.out)) hb); (try clear hb)) | ((with_reducible refine gate_callee (f := 25) rfl ?_); refine gl 15 Tryd.func25 #[.pointer (some ⟨g310, 0, none⟩), .int .i64 3] ?_; (with_reducible refine (spec_l01Next.calls _ _ _ _ _ _ _ _ w _ ?side1 ?side2 A5.out).mono ?_); (case side1 => repeat (first | (with_reducible first | exact HI310.out | apply IsS67.alloc | apply IsS67.drewN | apply IsS67.drew | apply IsS67.set_1 | apply IsS67.set_2) | exact HI310.out)); (case side2 => repeat (first | (with_reducible first | exact HB.out | apply below_alloc | apply pw_below_drewN | apply below_drew1 | refine below_set ?_ (IsS67.ge HI310.out)) | exact HB.out)); rintro e w12 ⟨rfl, hi, hb, hk⟩; refine ⟨_, rfl, ?_⟩; replace HO315 := asd (Kd.R_mono (Kd.R_keep (IsS67.apart (show IsS67 w _ g310 t307 t316 t317 from by repeat (first | (with_reducible first | exact HI310.out | apply IsS67.alloc | apply IsS67.drewN | apply IsS67.drew | apply IsS67.set_1 | apply IsS67.set_2) | exact HI310.out)) (kr HO315) (by decide)) hk (fun _ h => h.2)) (fun _ h => h.1)); replace HB := asd (hb); replace HI310 := asd (hi); (try clear hb); (try clear hb2); (try clear hk); (try clear hi)) | ((with_reducible refine gate_callee (f := 26) rfl ?_); refine gl 19 Tryd.func26 #[.pointer (some ⟨g310, 0, none⟩), .string t318] ?_; (with_reducible refine (spec_l01Damage.calls _ _ _ _ _ _ _ _ w _ ?side1 ?side2 A7.out).mono ?_); (case side1 => repeat (first | (with_reducible first | exact HI310.out | apply IsS67.alloc | apply IsS67.drewN | apply IsS67.drew | apply IsS67.set_1 | apply IsS67.set_2) | exact HI310.out)); (case side2 => repeat (first | (with_reducible first | exact HB.out | apply below_alloc | apply pw_below_drewN | apply below_drew1 | refine below_set ?_ (IsS67.ge HI310.out)) | exact HB.out)); rintro e w13 ⟨rfl, hi, hb, hk⟩; refine ⟨_, rfl, ?_⟩; replace HO315 := asd (Kd.R_mono (Kd.R_keep (IsS67.apart (show IsS67 w _ g310 t307 t321 t322 from by repeat (first | (with_reducible first | exact HI310.out | apply IsS67.alloc | apply IsS67.drewN | apply IsS67.drew | apply IsS67.set_1 | apply IsS67.set_2) | exact HI310.out)) (kr HO315) (by decide)) hk (fun _ h => h.2)) (fun _ h => h.1)); replace HB := asd (hb); replace HI310 := asd (hi); (try clear hb); (try clear hb2); (try clear hk); (try clear hi)))
  go_ret
  exact ⟨by first | rfl | (simp [errW_none, errW_some] <;> rfl) | (simp [*, errW_none, errW_some] <;> rfl), by repeat (first | (with_reducible first | exact HB.out | apply below_alloc | apply pw_below_drewN | apply below_drew1 | refine below_set ?_ (IsS67.ge HI310.out)) | exact HB.out)⟩
/-! ### stringslite_HasSuffix: function 59 -/
def stringslite_HasSuffix.f (a0 : ByteArray) (a1 : ByteArray) : Option (Bool) := if (a0.size : Int) ≥ (a1.size : Int) then (if 0 ≤ (wrap64 ((a0.size : Int) - (a1.size : Int))) then (if (wrap64 ((a0.size : Int) - (a1.size : Int))) ≤ (a0.size : Int) then (some ((a0.extract ((wrap64 ((a0.size : Int) - (a1.size : Int))) : Int).toNat a0.size).toList == a1.toList)) else (none)) else (none)) else (some false)
set_option maxHeartbeats 8000000 in
set_option maxRecDepth 100000 in
theorem stringslite_HasSuffix.calls (a0 : ByteArray) (a1 : ByteArray) (r : Bool) (w : World) (h : stringslite_HasSuffix.f a0 a1 = some r) :
  Calls Tryd.prog 59 #[.string a0, .string a1] w fun e w' => e = .returned (.bool r) ∧ Drawn0 w w' := by
 have H : (if (a0.size : Int) ≥ (a1.size : Int) then (if 0 ≤ (wrap64 ((a0.size : Int) - (a1.size : Int))) then (if (wrap64 ((a0.size : Int) - (a1.size : Int))) ≤ (a0.size : Int) then (some ((a0.extract ((wrap64 ((a0.size : Int) - (a1.size : Int))) : Int).toNat a0.size).toList == a1.toList)) else (none)) else (none)) else (some false)) = some r := h
 clear h
 by_cases c3 : (a0.size : Int) ≥ (a1.size : Int)
 ·rw [if_pos c3] at H
  have c3b0 : decide ((a1.size : Int) ≤ (a0.size : Int)) = true := decide_eq_true c3
  have c3b1 : decide (a1.size ≤ a0.size) = true := decide_eq_true (Int.ofNat_le.mp c3)
  clear c3
  obtain ⟨ji4, hji4⟩ : ∃ j_ : Int, (wrap64 ((a0.size : Int) - (a1.size : Int))) = j_ := ⟨_, rfl⟩
  replace H : (if 0 ≤ (ji4) then (if (ji4) ≤ (a0.size : Int) then (some ((a0.extract ((ji4) : Int).toNat a0.size).toList == a1.toList)) else (none)) else (none)) = some r := by first | (rw [hji4] at H; first | done | exact H) | (simp only [hji4] at H ⊢; exact H)
  have hji4w : (IntKind.i64.wrap ((a0.size : Int) - (a1.size : Int))) = ji4 := (i64_w _).trans hji4
  by_cases c5 : 0 ≤ (ji4)
  ·rw [if_pos c5] at H
   have c5b0 := eq_true c5
   have c5b1 := decide_eq_true c5
   clear c5
   by_cases c6 : (ji4) ≤ (a0.size : Int)
   ·rw [if_pos c6] at H
    have c6b0 := eq_true c6
    have c6b1 := decide_eq_true c6
    clear c6
    obtain rfl := Option.some.inj H
    go_enter Tryd.func59, Tryd.ntmps59
    go_wp2
    go_ret
    exact ⟨by first | rfl | (simp; done) | (simp only [← hji4] <;> (first | rfl | simp)) | (simp [*]; done), by repeat (first | exact Drawn0.refl _ | apply Drawn0.step)⟩
   ·rw [if_neg c6] at H
    exact absurd H (by simp)
  ·rw [if_neg c5] at H
   exact absurd H (by simp)
 ·rw [if_neg c3] at H
  have c3b0 : decide ((a1.size : Int) ≤ (a0.size : Int)) = false := decide_eq_false c3
  have c3b1 : decide (a1.size ≤ a0.size) = false := decide_eq_false (fun h => c3 (Int.ofNat_le.mpr h))
  clear c3
  obtain rfl := Option.some.inj H
  go_enter Tryd.func59, Tryd.ntmps59
  go_wp2
  go_ret
  exact ⟨by first | rfl | (simp; done) | (simp [*]; done), by repeat (first | exact Drawn0.refl _ | apply Drawn0.step)⟩
/-! ### stringslite_CutSuffix: function 52 -/
def stringslite_CutSuffix.f (a0 : ByteArray) (a1 : ByteArray) : Option (ByteArray × Bool) := (stringslite_HasSuffix.f a0 a1).bind fun t326 => (if t326 = true then (if 0 ≤ (wrap64 ((a0.size : Int) - (a1.size : Int))) then (if (wrap64 ((a0.size : Int) - (a1.size : Int))) ≤ (a0.size : Int) then (some (a0.extract 0 ((wrap64 ((a0.size : Int) - (a1.size : Int))) : Int).toNat, true)) else (none)) else (none)) else (some (a0, false)))
set_option maxHeartbeats 8000000 in
set_option maxRecDepth 100000 in
theorem stringslite_CutSuffix.calls (a0 : ByteArray) (a1 : ByteArray) (r1 : ByteArray) (r2 : Bool) (w : World) (h : stringslite_CutSuffix.f a0 a1 = some (r1, r2)) :
  Calls Tryd.prog 52 #[.string a0, .string a1] w fun e w' => e = .returned (.tuple #[.string r1, .bool r2]) ∧ Drawn0 w w' := by
 have H : ((stringslite_HasSuffix.f a0 a1).bind fun t326 => (if t326 = true then (if 0 ≤ (wrap64 ((a0.size : Int) - (a1.size : Int))) then (if (wrap64 ((a0.size : Int) - (a1.size : Int))) ≤ (a0.size : Int) then (some (a0.extract 0 ((wrap64 ((a0.size : Int) - (a1.size : Int))) : Int).toNat, true)) else (none)) else (none)) else (some (a0, false)))) = some (r1, r2) := h
 clear h
 obtain ⟨t326, A3, H⟩ := ob H
 try dsimp only at H
 by_cases c4 : t326 = true
 subst c4
 replace H := ifT H
 obtain ⟨ji5, hji5⟩ : ∃ j_ : Int, (wrap64 ((a0.size : Int) - (a1.size : Int))) = j_ := ⟨_, rfl⟩
 replace H : (if 0 ≤ (ji5) then (if (ji5) ≤ (a0.size : Int) then (some (a0.extract 0 ((ji5) : Int).toNat, true)) else (none)) else (none)) = some (r1, r2) := by first | (rw [hji5] at H; first | done | exact H) | (simp only [hji5] at H ⊢; exact H)
 (try rw [hji5] at A3)
 have hji5w : (IntKind.i64.wrap ((a0.size : Int) - (a1.size : Int))) = ji5 := (i64_w _).trans hji5
 by_cases c6 : 0 ≤ (ji5)
 rw [if_pos c6] at H
 have c6b0 := eq_true c6
 have c6b1 := decide_eq_true c6
 clear c6
 by_cases c7 : (ji5) ≤ (a0.size : Int)
 rw [if_pos c7] at H
 have c7b0 := eq_true c7
 have c7b1 := decide_eq_true c7
 clear c7
 rotate_left
 ·rw [if_neg c7] at H
  exact absurd H (by simp)
 ·rw [if_neg c6] at H
  exact absurd H (by simp)
 replace c4 := Bool.eq_false_iff.mpr c4
 subst c4
 replace H := ifF H
 rotate_left
 all_goals
  simp only [Option.some.injEq, Prod.mk.injEq] at H
  obtain ⟨rfl, rfl⟩ := H
  go_enter Tryd.func52, Tryd.ntmps52
  go_wp2_with (first | ((with_reducible refine gate_callee (f := 59) rfl ?_); refine gl 8 Tryd.func59 #[.string a0, .string a1] ?_; (with_reducible refine (stringslite_HasSuffix.calls _ _ _ _ A3.out).mono ?_); rintro e w' ⟨rfl, ⟨nd, rfl⟩⟩; refine ⟨_, rfl, ?_⟩))
  go_ret2
 ·exact ⟨by first | rfl | (simp; done) | (simp only [← hji5] <;> (first | rfl | simp)) | (simp [*]; done), by repeat (first | exact Drawn0.refl _ | apply Drawn0.step)⟩
 ·exact ⟨by first | rfl | (simp; done) | (simp [*]; done), by repeat (first | exact Drawn0.refl _ | apply Drawn0.step)⟩
/-! ### strings_CutSuffix: function 41 -/
def strings_CutSuffix.f (a0 : ByteArray) (a1 : ByteArray) : Option (ByteArray × Bool) := (stringslite_CutSuffix.f a0 a1).bind fun bt327 => (some (bt327.1, bt327.2))
set_option maxHeartbeats 8000000 in
set_option maxRecDepth 100000 in
theorem strings_CutSuffix.calls (a0 : ByteArray) (a1 : ByteArray) (r1 : ByteArray) (r2 : Bool) (w : World) (h : strings_CutSuffix.f a0 a1 = some (r1, r2)) :
  Calls Tryd.prog 41 #[.string a0, .string a1] w fun e w' => e = .returned (.tuple #[.string r1, .bool r2]) ∧ Drawn0 w w' := by
 have H : ((stringslite_CutSuffix.f a0 a1).bind fun bt327 => (some (bt327.1, bt327.2))) = some (r1, r2) := h
 clear h
 obtain ⟨⟨t327, t328⟩, A3, H⟩ := ob H
 try dsimp only at H
 simp only [Option.some.injEq, Prod.mk.injEq] at H
 obtain ⟨rfl, rfl⟩ := H
 go_enter Tryd.func41, Tryd.ntmps41
 go_wp2_with (first | ((with_reducible refine gate_callee (f := 52) rfl ?_); refine gl 8 Tryd.func52 #[.string a0, .string a1] ?_; (with_reducible refine (stringslite_CutSuffix.calls _ _ _ _ _ A3.out).mono ?_); rintro e w' ⟨rfl, ⟨nd, rfl⟩⟩; refine ⟨_, rfl, ?_⟩))
 go_ret2
 exact ⟨by first | rfl | (simp; done) | (simp [*]; done), by repeat (first | exact Drawn0.refl _ | apply Drawn0.step)⟩
/-! ### strings_Split: function 42 -/
/-- A text's pieces between a separator that is not empty. -/
def strings_Split.f (a0 a1 : ByteArray) : Option (List ByteArray) := if a0.size < 4294967281 ∧ 1 ≤ a1.size then some (Lib.splitB a1 0 (Lib.countB a0 a1) a0) else none
theorem strings_Split.made (w : World) (rs : List ByteArray) (n : Nat) (hn : n = rs.length) (hm : rs.length ≤ maxLen) : Kd.R Kd.string 9 (w.alloc (.cells (rs.map Value.string).toArray 9)) w.heap.size (fun _ => True) (.slice (some ⟨w.heap.size, 0, none⟩) n n) rs := by
 subst hn
 refine ⟨fun _ _ => trivial, rs.map Value.string, ?_, ?_⟩
 ·have := World.ownsRow_lit (base := w.heap.size) (e := 9) (size := Kd.string.sz) w (rs.map Value.string).toArray rs.length (Nat.le_refl _) hm (by show (rs.map Value.string).toArray.size = rs.length * 1; simp)
  simpa using this
 ·refine ⟨by simp [Kd.string, Kd.scalar], fun j p hp => ?_⟩
  show _ = [Value.string p]
  have hj : j < rs.length := (List.getElem?_eq_some_iff.1 hp).1
  have e : (rs.map Value.string)[j]? = some (Value.string p) := by rw [List.getElem?_map, hp]; rfl
  show ((rs.map Value.string).drop (j * 1)).take 1 = [Value.string p]
  rw [Nat.mul_one, List.drop_eq_getElem_cons (by simpa using hj), List.take_succ_cons, List.take_zero]
  congr 1
  have := List.getElem?_eq_some_iff.1 e
  exact this.2
theorem strings_Split.calls (a0 a1 : ByteArray) (r : List ByteArray) (w : World) (htab : texts.Tab w) (h : strings_Split.f a0 a1 = some r) : Calls Tryd.prog 42 #[.string a0, .string a1] w fun e w' => ∃ v0_ : Value, e = .returned (v0_) ∧ Kd.R Kd.string 9 w' w.heap.size (fun _ => True) v0_ r ∧ Below w.heap.size w w' := by
 unfold strings_Split.f at h
 by_cases hc : a0.size < 4294967281 ∧ 1 ≤ a1.size
 ·rw [if_pos hc] at h
  obtain rfl := Option.some.inj h
  obtain ⟨m, hm⟩ := htab.maxlen
  refine (Tryd.strings_Split a0 a1 m w hc.1 hm hc.2).mono ?_
  rintro e w' ⟨rfl, rfl⟩
  have hl := Lib.splitB_all a1 hc.2 0 _ a0 rfl
  have hle := Lib.countB_le a1 hc.2 a0.size a0 (Nat.le_refl _)
  exact ⟨_, rfl, strings_Split.made w _ _ hl.symm (by unfold maxLen; omega), below_alloc (Below.refl _ _) _⟩
 ·rw [if_neg hc] at h; cases h
/-! ### impl_readDigits: function 43 -/
def impl_readDigits.l0 : Nat → ByteArray → List Int → Int → Int → Option (List Int × Bool)
 | 0, _, _, _, _ => none
 | k + 1, x0, x4, x8, x9 => if x9 < x8 then (if 0 ≤ x9 then (if x9 < (x0.size : Int) then (if (bt x0 x9) < 48 then (some (([] : List Int), false)) else (if (bt x0 x9) > 57 then (some (([] : List Int), false)) else (if x4.length < 17592186044416 then (impl_readDigits.l0 k x0 (x4 ++ [((bt x0 x9) - 48) % 256]) x8 (wrap64 (x9 + 1))) else (none)))) else (none)) else (none)) else (some (x4, true))
def impl_readDigits.f (k : Nat) (a0 : ByteArray) : Option (List Int × Bool) := impl_readDigits.l0 k a0 (([] : List Int)) (a0.size : Int) 0
set_option maxHeartbeats 8000000 in
set_option maxRecDepth 100000 in
theorem impl_readDigits.calls (k : Nat) (a0 : ByteArray) (r1 : List Int) (r2 : Bool) (w : World) (h : impl_readDigits.f k a0 = some (r1, r2)) :
  Calls Tryd.prog 43 #[.string a0] w fun e w' => ∃ v0_ : Value, e = .returned (.tuple #[v0_, .bool r2]) ∧ Kd.R (Kd.int .i64) 2 w' w.heap.size (fun _ => True) v0_ r1 ∧ Below w.heap.size w w' := by
 have HB := asd (Below.refl w.heap.size w)
 have H : (impl_readDigits.l0 k a0 (([] : List Int)) (a0.size : Int) 0) = some (r1, r2) := h
 clear h
 obtain ⟨y329, hy329⟩ : ∃ y_ : List Int, y_ = (([] : List Int)) := ⟨_, rfl⟩
 replace H : (impl_readDigits.l0 k a0 y329 (a0.size : Int) 0) = some (r1, r2) := by first | (rw [hy329]; with_reducible exact H) | (have H2_ := (Option.bind_some _ _).symm.trans H; rw [hy329]; with_reducible exact H2_) | (have H2_ := (Option.bind_some _ _).symm.trans H; with_reducible exact H2_) | with_reducible exact H | (rw [hy329]; exact H) | exact H
 have Ny329 := Aside0.mk hy329
 clear hy329
 have H' := Aside0.mk H
 clear H
 go_enter Tryd.func43, Tryd.ntmps43
 go_wp2_with (first | ((with_reducible refine gd 6 rfl ?_); refine Kd.R_lit (Kd.int .i64) _ 2 ?hg (N := 6) ?hd (xs := ([] : List Int)) (inner := []) (ok := fun _ => True) (okp := fun _ => True) ?hr ?hp (fun _ hk => hk) trivial (Below.refl _ _) (Nat.le_refl _) (by simp) ?_; (case hd => rfl); (case hg => rfl); (case hr => first | (go_simp; done) | (go_simp; rfl)); (case hp => exact (Reps.none _ _)); intro v330 w2 ho3 hb hg_ hnew_; clear hg_ hnew_; (first | rw [← Ny329.out] at ho3 | (simp only [Int.reduceToNat] at ho3; rw [← Ny329.out] at ho3)); have HO331 := asd (Kd.R_lower ho3 (bsz0 HB)); replace HB := bS0 HB hb; clear hb ho3))
 go_loopg [4, 9] k (fun kq v4 v9 w' => ∃ (x4_1 : List Int) (x9_1 : Int), v9 = .int .i64 x9_1 ∧ Aside0 (impl_readDigits.l0 kq a0 x4_1 (a0.size : Int) x9_1 = some (r1, r2)) ∧ Aside0 (kq ≤ k) ∧ Aside0 (Kd.R (Kd.int .i64) 2 w' w.heap.size (fun _ => True) v4 x4_1) ∧ Aside0 (Below w.heap.size w w'))
 case atStart => exact ⟨(y329), (0), (by first | rfl | (simp; done) | (simp [*]; done)), H', ⟨Nat.le_refl _⟩, ⟨by (with_reducible repeat (first | apply Kd.R_alloc | apply Kd.R_drewN | apply Kd.R_drew)); exact HO331.out⟩, ⟨bbw0 HB⟩⟩
 case round =>
  clear H'
  try clear p2
  obtain ⟨x4_1, x9_1, rfl, HA, HK1, HO_4, HB⟩ := hrel
  cases gk with
  | zero => exact absurd HA.out (by simp [impl_readDigits.l0])
  | succ k1 =>
   have H := HA.out
   clear HA
   simp only [impl_readDigits.l0] at H
   by_cases c4 : x9_1 < (a0.size : Int)
   rw [if_pos c4] at H
   have c4b0 := decide_eq_true c4
   clear c4
   by_cases c5 : 0 ≤ x9_1
   rw [if_pos c5] at H
   have c5b0 := decide_eq_true c5
   clear c5
   by_cases c6 : x9_1 < (a0.size : Int)
   rw [if_pos c6] at H
   have c6b0 := decide_eq_true c6
   clear c6
   by_cases c8 : (bt a0 x9_1) < 48
   rw [if_pos c8] at H
   have c8b0 := decide_eq_true c8
   clear c8
   rotate_left
   rw [if_neg c8] at H
   have c8b0 := decide_eq_false c8
   clear c8
   by_cases c10 : (bt a0 x9_1) > 57
   rw [if_pos c10] at H
   have c10b0 : decide (57 < (bt a0 x9_1)) = true := decide_eq_true c10
   clear c10
   rotate_left
   rw [if_neg c10] at H
   have c10b0 : decide (57 < (bt a0 x9_1)) = false := decide_eq_false c10
   clear c10
   by_cases c12 : x4_1.length < 17592186044416
   rw [if_pos c12] at H
   have LMc12 := Aside0.mk c12
   clear c12
   obtain ⟨y332, hy332⟩ : ∃ y_ : List Int, y_ = (x4_1 ++ [((bt a0 x9_1) - 48) % 256]) := ⟨_, rfl⟩
   replace H : (impl_readDigits.l0 k1 a0 y332 (a0.size : Int) (wrap64 (x9_1 + 1))) = some (r1, r2) := by first | (rw [hy332]; with_reducible exact H) | (have H2_ := (Option.bind_some _ _).symm.trans H; rw [hy332]; with_reducible exact H2_) | (have H2_ := (Option.bind_some _ _).symm.trans H; with_reducible exact H2_) | with_reducible exact H | (rw [hy332]; exact H) | exact H
   have Ny332 := Aside0.mk hy332
   clear hy332
   have H' := Aside0.mk H
   clear H
   rotate_left
   ·rw [if_neg c12] at H
    exact absurd H (by simp)
   ·rw [if_neg c6] at H
    exact absurd H (by simp)
   ·rw [if_neg c5] at H
    exact absurd H (by simp)
   rw [if_neg c4] at H
   have c4b0 := decide_eq_false c4
   clear c4
   rotate_left
   simp only [Option.some.injEq, Prod.mk.injEq] at H
   obtain ⟨rfl, rfl⟩ := H
   rotate_left
   simp only [Option.some.injEq, Prod.mk.injEq] at H
   obtain ⟨rfl, rfl⟩ := H
   rotate_left 2
   ·simp only [Option.some.injEq, Prod.mk.injEq] at H
    obtain ⟨rfl, rfl⟩ := H
    go_wp2
    go_ret2
    exact ⟨_, by first | rfl | (simp [errW_none, errW_some] <;> rfl) | (simp [*, errW_none, errW_some] <;> rfl), by (with_reducible repeat (first | apply Kd.R_alloc | apply Kd.R_drewN | apply Kd.R_drew)); exact HO_4.out, bbw0 HB⟩
   all_goals
    have p7 : 0 ≤ (x9_1 : Int) := od
    have q7 : x9_1 < (a0.size : Int) := od
    have hx7 := bt_at a0 x9_1
    replace p7 := eq_true p7
    replace q7 := eq_true q7
   rotate_left
   have p9 : 0 ≤ (x9_1 : Int) := od
   have q9 : x9_1 < (a0.size : Int) := od
   have hx9 := bt_at a0 x9_1
   replace p9 := eq_true p9
   replace q9 := eq_true q9
   rotate_left
   ·have p9 : 0 ≤ (x9_1 : Int) := od
    have q9 : x9_1 < (a0.size : Int) := od
    have hx9 := bt_at a0 x9_1
    replace p9 := eq_true p9
    replace q9 := eq_true q9
    have p11 : 0 ≤ (x9_1 : Int) := od
    have q11 : x9_1 < (a0.size : Int) := od
    have hx11 := bt_at a0 x9_1
    replace p11 := eq_true p11
    replace q11 := eq_true q11
    go_wp2_with (first | ((with_reducible refine gate_builtin (b := .append) (xs := #[.tmp 22, .tmp 28]) rfl ?_); at_builtin; refine Kd.R_append (Kd.int .i64) (w0 := w) w.heap.size rfl (.tmp 22) (.tmp 28) 22 2 (.int .i64 0) 8 rfl Tryd.underlying22 info2 rfl (by decide) (by omega) u4 x4_1 (((bt a0 x9_1) - 48) % 256) [.int .i64 (((bt a0 x9_1) - 48) % 256)] (fun _ => True) (fun _ => False) rfl rfl ?aP (fun _ hk => hk.elim) ?aF ?aO ?aB ?aS ?aL ?_; (case aP => exact rfl); (case aB => exact (bbw0 HB)); (case aF => exact (fun _ _ => trivial)); (case aO => exact (kr HO_4)); (case aS => exact (bsz0 HB)); (case aL => have := LMc12.out; omega); intro v333 w13 ho hb hg hat; rw [← Ny332.out] at ho; have n0_ := asd (hb); have n1_ := asd (ho); clear HB; clear HO_4; have HB := n0_; have HO334 := n1_; clear n0_ n1_; clear ho hb hg hat))
    go_roundg k1
    case measure => have := HK1.out; omega
    case rel => exact ⟨(y332), (wrap64 (x9_1 + 1)), (by first | rfl | (simp; done) | (simp [*]; done)), H', ⟨by have := HK1.out; omega⟩, ⟨by (with_reducible repeat (first | apply Kd.R_alloc | apply Kd.R_drewN | apply Kd.R_drew)); exact HO334.out⟩, ⟨bbw0 HB⟩⟩
   all_goals
    go_wp2
    go_ret2
    exact ⟨_, by first | rfl | (simp [errW_none, errW_some] <;> rfl) | (simp [*, errW_none, errW_some] <;> rfl), by first | exact Kd.R_nil _ _ _ _ _ | exact Kd.N_nil _ _ _ _ _ | exact Kd.V_nil _ _ _ _ _ | exact Kd.Q_nil _ _ _ _ _ | exact Kd.S_nil _ _ _ _ _, bbw0 HB⟩
/-! ### impl_readRows: function 27 -/
def impl_readRows.l0 : Nat → Bool → List ByteArray → List (List Int) → List ByteArray → Int → Int → Option (Int × (List (List Int)) × Bool)
 | 0, _, _, _, _, _, _ => none
 | k + 1, x6, x7, x8, x21, x22, x23 => if x23 < x22 then (if 0 ≤ x23 then (if x23 < (x21.length : Int) then ((impl_readDigits.f k (rdOf ByteArray.empty x21 x23)).bind fun bt344 => (if bt344.2 = true then (if 0 < (x7.length : Int) then (if ((rdOf ByteArray.empty x21 x23).size : Int) = ((rdOf ByteArray.empty x7 0).size : Int) then (if x8.length < 5864062014805 then (impl_readRows.l0 k x6 x7 (x8 ++ [bt344.1]) x21 x22 (wrap64 (x23 + 1))) else (none)) else (some (0, ([] : List (List Int)), false))) else (none)) else (some (0, ([] : List (List Int)), false)))) else (none)) else (none)) else (if 0 < (x7.length : Int) then (some (((rdOf ByteArray.empty x7 0).size : Int), x8, x6)) else (none))
def impl_readRows.f (k : Nat) (a0 : ByteArray) : Option (Int × (List (List Int)) × Bool) := (strings_CutSuffix.f a0 (⟨#[10]⟩ : ByteArray)).bind fun bt335 => ((strings_Split.f bt335.1 (⟨#[10]⟩ : ByteArray)).bind fun t337 => (impl_readRows.l0 k bt335.2 t337 (([] : List (List Int))) t337 (t337.length : Int) 0))
set_option maxHeartbeats 8000000 in
set_option maxRecDepth 100000 in
theorem impl_readRows.calls (k : Nat) (a0 : ByteArray) (r1 : Int) (r2 : List (List Int)) (r3 : Bool) (w : World) (htab : texts.Tab w) (h : impl_readRows.f k a0 = some (r1, r2, r3)) :
  Calls Tryd.prog 27 #[.string a0] w fun e w' => ∃ v1_ : Value, e = .returned (.tuple #[.int .i64 r1, v1_, .bool r3]) ∧ Kd.S (Kd.slice 2 (Kd.int .i64)) 22 w' w.heap.size (fun _ => True) v1_ r2 ∧ Below w.heap.size w w' := by
 have HTAB := Aside0.mk htab
 clear htab
 have HB := asd (Below.refl w.heap.size w)
 have H : ((strings_CutSuffix.f a0 (⟨#[10]⟩ : ByteArray)).bind fun bt335 => ((strings_Split.f bt335.1 (⟨#[10]⟩ : ByteArray)).bind fun t337 => (impl_readRows.l0 k bt335.2 t337 (([] : List (List Int))) t337 (t337.length : Int) 0))) = some (r1, r2, r3) := h
 clear h
 obtain ⟨⟨t335, t336⟩, A2, H⟩ := ob H
 try dsimp only at H
 obtain ⟨t337, A3, H⟩ := ob H
 try dsimp only at H
 obtain ⟨y340, hy340⟩ : ∃ y_ : List (List Int), y_ = (([] : List (List Int))) := ⟨_, rfl⟩
 replace H : (impl_readRows.l0 k t336 t337 y340 t337 (t337.length : Int) 0) = some (r1, r2, r3) := by first | (rw [hy340]; with_reducible exact H) | (have H2_ := (Option.bind_some _ _).symm.trans H; rw [hy340]; with_reducible exact H2_) | (have H2_ := (Option.bind_some _ _).symm.trans H; with_reducible exact H2_) | with_reducible exact H | (rw [hy340]; exact H) | exact H
 have Ny340 := Aside0.mk hy340
 clear hy340
 have H' := Aside0.mk H
 clear H
 go_enter Tryd.func27, Tryd.ntmps27
 go_wp2_with (first | ((with_reducible refine gate_callee (f := 41) rfl ?_); refine gl 15 Tryd.func41 #[.string a0, .string (⟨#[10]⟩ : ByteArray)] ?_; (with_reducible refine (strings_CutSuffix.calls _ _ _ _ _ A2.out).mono ?_); rintro e w' ⟨rfl, ⟨nd, rfl⟩⟩; refine ⟨_, rfl, ?_⟩) | ((with_reducible refine gate_callee (f := 42) rfl ?_); refine gl 19 Tryd.func42 #[.string t335, .string (⟨#[10]⟩ : ByteArray)] ?_; (with_reducible refine (strings_Split.calls _ _ _ _ (texts.tabB HTAB.out (by repeat (first | (with_reducible first | exact HB.out | exact Below.refl _ _ | apply below_alloc | apply pw_below_drewN | apply below_drew1) | exact HB.out))) A3.out).mono ?_); rintro e w4 ⟨v338, rfl, ho0, hb⟩; refine ⟨_, rfl, ?_⟩; have HO339 := asd (Kd.R_lower ho0 (bsz0 HB)); replace HB := bS0 HB hb; (try clear hb); (try clear hb2); (try clear hk); (try clear hi); (try clear ho0)) | ((with_reducible refine gd 20 rfl ?_); (try (refine gate_guard (by rfl) ?_; dsimp only)); refine Kd.S_lit (Kd.slice 2 (Kd.int .i64)) _ 22 ?hg (N := 20) ?hd (xs := ([] : List (List Int))) (inner := []) (ok := fun _ => True) (okp := fun _ => True) ?hr ?hp (fun _ hk => hk) trivial (Below.refl _ _) (Nat.le_refl _) (by simp) ?_; (case hd => rfl); (case hg => rfl); (case hr => first | (go_simp; done) | (go_simp; rfl)); (case hp => exact (Reps.none _ _)); intro v341 w5 ho6 hb hg_ hnew_; clear hg_ hnew_; (first | rw [← Ny340.out] at ho6 | (simp only [Int.reduceToNat] at ho6; rw [← Ny340.out] at ho6)); replace HO339 := asd (Kd.R_below (kr HO339) hb); have HO342 := asd (Kd.S_lower ho6 (bsz0 HB)); replace HB := bS0 HB hb; clear hb ho6; obtain ⟨Ao7, co7, eo7⟩ := Kd.R_slice HO339.out; subst eo7))
 go_loopg [8, 23] k (fun kq v8 v23 w' => ∃ (x8_1 : List (List Int)) (x23_1 : Int), v23 = .int .i64 x23_1 ∧ Aside0 (impl_readRows.l0 kq t336 t337 x8_1 t337 (t337.length : Int) x23_1 = some (r1, r2, r3)) ∧ Aside0 (kq ≤ k) ∧ Aside0 (Kd.R Kd.string 9 w' w.heap.size (fun _ => True) (.slice Ao7 t337.length co7) t337) ∧ Aside0 (Kd.S (Kd.slice 2 (Kd.int .i64)) 22 w' w.heap.size (fun _ => True) v8 x8_1) ∧ Aside0 (Kd.R Kd.string 9 w' w.heap.size (fun _ => True) (.slice Ao7 t337.length co7) t337) ∧ Aside0 (Below w.heap.size w w'))
 case atStart => exact ⟨(y340), (0), (by first | rfl | (simp; done) | (simp [*]; done)), H', ⟨Nat.le_refl _⟩, ⟨by (with_reducible repeat (first | apply Kd.R_alloc | apply Kd.R_drewN | apply Kd.R_drew)); exact HO339.out⟩, ⟨by (with_reducible repeat (first | apply Kd.S_alloc | apply Kd.S_drewN | apply Kd.S_drew)); exact HO342.out⟩, ⟨by (with_reducible repeat (first | apply Kd.R_alloc | apply Kd.R_drewN | apply Kd.R_drew)); exact HO339.out⟩, ⟨bbw0 HB⟩⟩
 case round =>
  clear H'
  try clear c2
  try clear p2
  try clear c4
  obtain ⟨x8_1, x23_1, rfl, HA, HK1, HO_7, HO_8, HO_21, HB⟩ := hrel
  cases gk with
  | zero => exact absurd HA.out (by simp [impl_readRows.l0])
  | succ k1 =>
   have H := HA.out
   clear HA
   simp only [impl_readRows.l0] at H
   by_cases c8 : x23_1 < (t337.length : Int)
   rw [if_pos c8] at H
   have c8b0 := decide_eq_true c8
   clear c8
   by_cases c9 : 0 ≤ x23_1
   rw [if_pos c9] at H
   have c9b0 := decide_eq_true c9
   clear c9
   by_cases c10 : x23_1 < (t337.length : Int)
   rw [if_pos c10] at H
   have c10b0 := decide_eq_true c10
   clear c10
   obtain ⟨⟨t344, t345⟩, A11, H⟩ := ob H
   try dsimp only at H
   by_cases c12 : t345 = true
   subst c12
   replace H := ifT H
   by_cases c13 : 0 < (t337.length : Int)
   rw [if_pos c13] at H
   have c13b0 := decide_eq_true c13
   have c13b1 : decide (0 < t337.length) = true := decide_eq_true (by omega)
   clear c13
   by_cases c14 : ((rdOf ByteArray.empty t337 x23_1).size : Int) = ((rdOf ByteArray.empty t337 0).size : Int)
   rw [if_pos c14] at H
   have c14b0 : (((rdOf ByteArray.empty t337 x23_1).size : Int) == ((rdOf ByteArray.empty t337 0).size : Int)) = true := beq_iff_eq.mpr c14
   have c14b1 : (((rdOf ByteArray.empty t337 x23_1).size : Int) != ((rdOf ByteArray.empty t337 0).size : Int)) = false := bne_eq_false_iff_eq.mpr c14
   have c14b2 : ((rdOf ByteArray.empty t337 x23_1).size == (rdOf ByteArray.empty t337 0).size) = true := by first | simpa using c14 | (simp at c14 ⊢; omega)
   clear c14
   by_cases c15 : x8_1.length < 5864062014805
   rw [if_pos c15] at H
   have LMc15 := Aside0.mk c15
   clear c15
   obtain ⟨y349, hy349⟩ : ∃ y_ : List (List Int), y_ = (x8_1 ++ [t344]) := ⟨_, rfl⟩
   replace H : (impl_readRows.l0 k1 t336 t337 y349 t337 (t337.length : Int) (wrap64 (x23_1 + 1))) = some (r1, r2, r3) := by first | (rw [hy349]; with_reducible exact H) | (have H2_ := (Option.bind_some _ _).symm.trans H; rw [hy349]; with_reducible exact H2_) | (have H2_ := (Option.bind_some _ _).symm.trans H; with_reducible exact H2_) | with_reducible exact H | (rw [hy349]; exact H) | exact H
   have Ny349 := Aside0.mk hy349
   clear hy349
   have H' := Aside0.mk H
   clear H
   rotate_left
   ·rw [if_neg c15] at H
    exact absurd H (by simp)
   rw [if_neg c14] at H
   have c14b0 : (((rdOf ByteArray.empty t337 x23_1).size : Int) == ((rdOf ByteArray.empty t337 0).size : Int)) = false := beq_eq_false_iff_ne.mpr c14
   have c14b1 : (((rdOf ByteArray.empty t337 x23_1).size : Int) != ((rdOf ByteArray.empty t337 0).size : Int)) = true := bne_iff_ne.mpr c14
   have c14b2 : ((rdOf ByteArray.empty t337 x23_1).size == (rdOf ByteArray.empty t337 0).size) = false := by first | simpa using c14 | (simp at c14 ⊢; omega)
   rotate_left
   ·rw [if_neg c13] at H
    exact absurd H (by simp)
   replace c12 := Bool.eq_false_iff.mpr c12
   subst c12
   replace H := ifF H
   rotate_left
   ·rw [if_neg c10] at H
    exact absurd H (by simp)
   ·rw [if_neg c9] at H
    exact absurd H (by simp)
   rw [if_neg c8] at H
   have c8b0 := decide_eq_false c8
   clear c8
   by_cases c21 : 0 < (t337.length : Int)
   rw [if_pos c21] at H
   have c21b0 := decide_eq_true c21
   have c21b1 : decide (0 < t337.length) = true := decide_eq_true (by omega)
   clear c21
   rotate_left
   ·rw [if_neg c21] at H
    exact absurd H (by simp)
   rotate_left
   simp only [Option.some.injEq, Prod.mk.injEq] at H
   obtain ⟨rfl, rfl, rfl⟩ := H
   rotate_left
   simp only [Option.some.injEq, Prod.mk.injEq] at H
   obtain ⟨rfl, rfl, rfl⟩ := H
   rotate_left
   ·simp only [Option.some.injEq, Prod.mk.injEq] at H
    obtain ⟨rfl, rfl, rfl⟩ := H
    have p352 : 0 ≤ (0 : Int) := (by omega)
    have q352 : 0 < (t337.length : Int) := od
    obtain ⟨ad352, e352, hx352_0⟩ := Kd.at_string (Kd.R_reads' HO_7.out).2.2 0 p352 q352
    cases e352
    have qi352 : (0 < t337.length) = True := eq_true (by omega)
    (try rw [show ((0 : Int)).toNat = 0 from rfl] at hx352_0)
    (try rw [Addr.add_zero'] at hx352_0)
    replace p352 := eq_true p352
    replace q352 := eq_true q352
    go_wp2
    go_ret3
    exact ⟨_, by first | rfl | (simp [errW_none, errW_some] <;> rfl) | (simp [*, errW_none, errW_some] <;> rfl), by (with_reducible repeat (first | apply Kd.S_alloc | apply Kd.S_drewN | apply Kd.S_drew)); exact HO_8.out, bbw0 HB⟩
   all_goals
    have p343 : 0 ≤ (x23_1 : Int) := od
    have q343 : x23_1 < (t337.length : Int) := od
    obtain ⟨ad343, e343, hx343_0⟩ := Kd.at_string (Kd.R_reads' HO_21.out).2.2 x23_1 p343 q343
    cases e343
    replace p343 := eq_true p343
    replace q343 := eq_true q343
   ·go_wp2_with (first | ((with_reducible refine gate_callee (f := 43) rfl ?_); refine gl 29 Tryd.func43 #[.string (rdOf ByteArray.empty t337 x23_1)] ?_; (with_reducible refine (impl_readDigits.calls _ _ _ _ _ A11.out).mono ?_); rintro e w16 ⟨v346, rfl, ho0, hb⟩; refine ⟨_, rfl, ?_⟩; replace HO_7 := asd (Kd.R_below (kr HO_7) hb); replace HO_8 := asd (Kd.S_elder' (by (with_reducible repeat (first | apply Kd.S_alloc | apply Kd.S_drewN | apply Kd.S_drew)); exact HO_8.out) (Kd.R_base ho0) hb); replace HO_21 := asd (Kd.R_below (kr HO_21) hb); have HO347 := asd (Kd.R_lower ho0 (bsz0 HB)); replace HB := bS0 HB hb; (try clear hb); (try clear hb2); (try clear hk); (try clear hi); (try clear ho0); have p348 : 0 ≤ (0 : Int) := (by omega); have q348 : 0 < (t337.length : Int) := od; obtain ⟨ad348, e348, hx348_0⟩ := Kd.at_string (Kd.R_reads' HO_7.out).2.2 0 p348 q348; obtain rfl : ad343 = ad348 := (by injection e348); have qi348 : (0 < t337.length) = True := eq_true (by omega); (try rw [show ((0 : Int)).toNat = 0 from rfl] at hx348_0); (try rw [Addr.add_zero'] at hx348_0); replace p348 := eq_true p348; replace q348 := eq_true q348; obtain ⟨Ao18, co18, eo18⟩ := Kd.R_slice HO347.out; subst eo18) | ((with_reducible refine gate_builtin (b := .append) (xs := #[.tmp 43, .tmp 45]) rfl ?_); (try (refine gate_guard (by rfl) ?_; dsimp only)); at_builtin; refine Kd.S_append (Kd.slice 2 (Kd.int .i64)) (w0 := w) w.heap.size rfl (.tmp 43) (.tmp 45) 51 22 (.slice none 0 0) 24 rfl Tryd.underlying51 info22 rfl (by decide) (by omega) u8 x8_1 t344 [.slice Ao18 t344.length co18] (fun _ => True) (fun k_ => some k_ = (.slice Ao18 t344.length co18 : Value).ownBlock) rfl rfl ?aP (fun k_ hk_ => ((Kd.R_mono (ok' := fun k_ => ((fun _ => True)) k_ ∧ some k_ ≠ (u8 : Value).ownBlock) (Kd.R_apart' (HO347.out) (Kd.S_typed HO_8.out) (by decide)) (fun k_ hk => ⟨trivial, hk.2⟩))).1 k_ hk_.symm) ?aF ?aO ?aB ?aS ?aL ?_; (case aP => exact Kd.M_row (Kd.R_mono (Kd.R_tight rfl (Kd.R_mono (ok' := fun k_ => ((fun _ => True)) k_ ∧ some k_ ≠ (u8 : Value).ownBlock) (Kd.R_apart' (HO347.out) (Kd.S_typed HO_8.out) (by decide)) (fun k_ hk => ⟨trivial, hk.2⟩))) (fun _ h_ => h_))); (case aB => exact (bbw0 HB)); (case aF => exact (fun _ _ => trivial)); (case aO => exact (by (with_reducible repeat (first | apply Kd.S_alloc | apply Kd.S_drewN | apply Kd.S_drew)); exact Kd.S_mono HO_8.out (fun k_ hk => ⟨trivial, fun e_ => hk.2 e_⟩))); (case aS => exact (bsz0 HB)); (case aL => have := LMc15.out; omega); intro v350 w17 ho hb hg hat; rw [← Ny349.out] at ho; have n0_ := asd (Kd.R_over' (kr HO_7) (Kd.S_typed (by (with_reducible repeat (first | apply Kd.S_alloc | apply Kd.S_drewN | apply Kd.S_drew)); exact HO_8.out)) (by decide) hg); have n1_ := asd (Kd.R_over' (kr HO_21) (Kd.S_typed (by (with_reducible repeat (first | apply Kd.S_alloc | apply Kd.S_drewN | apply Kd.S_drew)); exact HO_8.out)) (by decide) hg); have n2_ := asd (hb); have n3_ := asd (ho); clear HO_7; clear HO_21; clear HB; clear HO_8; clear HO347; have HO_7 := n0_; have HO_21 := n1_; have HB := n2_; have HO351 := n3_; clear n0_ n1_ n2_ n3_; clear ho hb hg hat))
    go_roundg k1
    case measure => have := HK1.out; omega
    case rel => exact ⟨(y349), (wrap64 (x23_1 + 1)), (by first | rfl | (simp; done) | (simp [*]; done)), H', ⟨by have := HK1.out; omega⟩, ⟨by (with_reducible repeat (first | apply Kd.R_alloc | apply Kd.R_drewN | apply Kd.R_drew)); exact HO_7.out⟩, ⟨by (with_reducible repeat (first | apply Kd.S_alloc | apply Kd.S_drewN | apply Kd.S_drew)); exact HO351.out⟩, ⟨by (with_reducible repeat (first | apply Kd.R_alloc | apply Kd.R_drewN | apply Kd.R_drew)); exact HO_21.out⟩, ⟨bbw0 HB⟩⟩
   focus go_wp2_with (first | ((with_reducible refine gate_callee (f := 43) rfl ?_); refine gl 29 Tryd.func43 #[.string (rdOf ByteArray.empty t337 x23_1)] ?_; (with_reducible refine (impl_readDigits.calls _ _ _ _ _ A11.out).mono ?_); rintro e w19 ⟨v346, rfl, ho0, hb⟩; refine ⟨_, rfl, ?_⟩; replace HO_7 := asd (Kd.R_below (kr HO_7) hb); replace HO_8 := asd (Kd.S_elder' (by (with_reducible repeat (first | apply Kd.S_alloc | apply Kd.S_drewN | apply Kd.S_drew)); exact HO_8.out) (Kd.R_base ho0) hb); replace HO_21 := asd (Kd.R_below (kr HO_21) hb); have HO347 := asd (Kd.R_lower ho0 (bsz0 HB)); replace HB := bS0 HB hb; (try clear hb); (try clear hb2); (try clear hk); (try clear hi); (try clear ho0); have p348 : 0 ≤ (0 : Int) := (by omega); have q348 : 0 < (t337.length : Int) := od; obtain ⟨ad348, e348, hx348_0⟩ := Kd.at_string (Kd.R_reads' HO_7.out).2.2 0 p348 q348; obtain rfl : ad343 = ad348 := (by injection e348); have qi348 : (0 < t337.length) = True := eq_true (by omega); (try rw [show ((0 : Int)).toNat = 0 from rfl] at hx348_0); (try rw [Addr.add_zero'] at hx348_0); replace p348 := eq_true p348; replace q348 := eq_true q348))
   rotate_left
   focus go_wp2_with (first | ((with_reducible refine gate_callee (f := 43) rfl ?_); refine gl 29 Tryd.func43 #[.string (rdOf ByteArray.empty t337 x23_1)] ?_; (with_reducible refine (impl_readDigits.calls _ _ _ _ _ A11.out).mono ?_); rintro e w20 ⟨v346, rfl, ho0, hb⟩; refine ⟨_, rfl, ?_⟩; replace HO_7 := asd (Kd.R_below (kr HO_7) hb); replace HO_8 := asd (Kd.S_elder' (by (with_reducible repeat (first | apply Kd.S_alloc | apply Kd.S_drewN | apply Kd.S_drew)); exact HO_8.out) (Kd.R_base ho0) hb); replace HO_21 := asd (Kd.R_below (kr HO_21) hb); have HO347 := asd (Kd.R_lower ho0 (bsz0 HB)); replace HB := bS0 HB hb; (try clear hb); (try clear hb2); (try clear hk); (try clear hi); (try clear ho0)))
   rotate_left
   all_goals
    go_ret3
    exact ⟨_, by first | rfl | (simp [errW_none, errW_some] <;> rfl) | (simp [*, errW_none, errW_some] <;> rfl), by first | exact Kd.S_nil _ _ _ _ _ | exact Kd.N_nil _ _ _ _ _ | exact Kd.V_nil _ _ _ _ _ | exact Kd.Q_nil _ _ _ _ _ | exact Kd.R_nil _ _ _ _ _, bbw0 HB⟩
/-! ### slices_Grow_int64_int64: function 44 -/
/-- Room for so many numbers, at no slice. -/
def slices_Grow_int64_int64.f (l0 : List Int) (a1 : Int) : Option (List Int) := if l0 = [] ∧ 0 ≤ a1 ∧ a1 < 17592186044416 then some [] else none
/-- The slice is nil. -/
def slices_Grow_int64_int64.RC (A : Option Addr) (c : Nat) : Prop := A = none ∧ c = 0
set_option maxHeartbeats 8000000 in
set_option maxRecDepth 100000 in
theorem slices_Grow_int64_int64.calls (A0 : Option Addr) (c0 : Nat) (l0 : List Int) (a1 : Int) (r : List Int) (w : World) (hr0 : slices_Grow_int64_int64.RC A0 c0) (hc0 : l0.length ≤ c0) (h : slices_Grow_int64_int64.f l0 a1 = some r) : Calls Tryd.prog 44 #[.slice A0 l0.length c0, .int .i64 a1] w fun e w' => ∃ v0_ : Value, e = .returned (v0_) ∧ Kd.R (Kd.int .i64) 2 w' w.heap.size (fun _ => True) v0_ r ∧ Below w.heap.size w w' := by
 obtain ⟨rfl, rfl⟩ := hr0
 obtain rfl : l0 = [] := List.eq_nil_of_length_eq_zero (by omega)
 unfold slices_Grow_int64_int64.f at h
 by_cases hc : ([] : List Int) = [] ∧ 0 ≤ a1 ∧ a1 < 17592186044416
 ·rw [if_pos hc] at h
  obtain rfl := Option.some.inj h
  obtain ⟨_, h0, h1⟩ := hc
  have hw0 : wrap64 (a1 - 0) = a1 := by unfold wrap64; omega
  have hw1 : wrap64 ((0 : Int) - 0) = 0 := by unfold wrap64; omega
  have n0 : decide (a1 < 0) = false := decide_eq_false (by omega)
  have n0' : (a1 < 0) = False := eq_false (by omega)
  simp only [List.length_nil]
  by_cases hp : 0 < a1
  ·have p0 : decide (0 < a1) = true := decide_eq_true hp
   have p1 : decide (a1 > 0) = true := decide_eq_true hp
   have p2 : (0 < a1) = True := eq_true hp
   have HO0 : Kd.R (Kd.int .i64) 2 w w.heap.size (fun _ => True) (.slice none 0 0) [] := Kd.R_nil _ _ _ _ _
   go_enter Tryd.func44, Tryd.ntmps44
   go_wp2_with (first | ((with_reducible refine gate_builtin (b := .append) (xs := #[.tmp 20, .tmp 21]) rfl ?_); at_builtin; refine Kd.R_append_zeros (Kd.int .i64) (w0 := w) w.heap.size rfl (.tmp 20) (.tmp 21) 22 3 2 (.int .i64 0) 8 rfl Tryd.underlying22 Tryd.underlying3 info2 rfl (by decide) (by omega) (.slice none 0 0) [] 0 (a1 : Int) (fun _ => True) rfl rfl rfl (fun _ _ => trivial) HO0 h0 (Below.refl _ _) (Nat.le_refl _) (by simp; omega) ?_; intro v1 w1 ho hb hg hat; obtain ⟨Ao, co, eo⟩ := Kd.R_slice ho; subst eo; have hlen : (([] : List Int) ++ List.replicate a1.toNat 0).length = a1.toNat := by simp))
   go_ret
   refine ⟨_, rfl, ?_, hb⟩
   have := Kd.R_take (m := 0) ho (Nat.zero_le _)
   simpa using this
  ·have hz : a1 = 0 := by omega
   subst hz
   go_enter Tryd.func44, Tryd.ntmps44
   go_wp2
   go_ret
   exact ⟨_, rfl, Kd.R_nil _ _ _ _ _, Below.refl _ _⟩
 ·rw [if_neg hc] at h; cases h
/-! ### slices_Concat_int64_int64: function 28 -/
mutual
def slices_Concat_int64_int64.l0 : Nat → List (List Int) → Int → List (List Int) → Int → Int → Option (List Int)
 | 0, _, _, _, _, _ => none
 | k + 1, x0, x3, x9, x10, x11 => if x11 < x10 then (if 0 ≤ x11 then (if x11 < (x9.length : Int) then (if (wrap64 (x3 + ((rd_L2 x9 x11).length : Int))) < 0 then (none) else (slices_Concat_int64_int64.l0 k x0 (wrap64 (x3 + ((rd_L2 x9 x11).length : Int))) x9 x10 (wrap64 (x11 + 1)))) else (none)) else (none)) else ((slices_Grow_int64_int64.f ([] : List Int) x3).bind fun t354 => (slices_Concat_int64_int64.l1 k t354 x0 (x0.length : Int) 0))
def slices_Concat_int64_int64.l1 : Nat → List Int → List (List Int) → Int → Int → Option (List Int)
 | 0, _, _, _, _ => none
 | k + 1, x6, x25, x26, x27 => if x27 < x26 then (if 0 ≤ x27 then (if x27 < (x25.length : Int) then (if x6.length + (rd_L2 x25 x27).length < 17592186044416 then (slices_Concat_int64_int64.l1 k (x6 ++ (rd_L2 x25 x27)) x25 x26 (wrap64 (x27 + 1))) else (none)) else (none)) else (none)) else (some x6)
end
def slices_Concat_int64_int64.f (k : Nat) (l0 : List (List Int)) : Option (List Int) := slices_Concat_int64_int64.l0 k l0 0 l0 (l0.length : Int) 0
set_option maxHeartbeats 8000000 in
set_option maxRecDepth 100000 in
theorem slices_Concat_int64_int64.calls (k : Nat) (A0 : Option Addr) (c0 : Nat) (l0 : List (List Int)) (r : List Int) (w : World) (hr0 : Kd.C (Kd.slice 2 (Kd.int .i64)) w A0 l0.length l0) (hc0 : l0.length ≤ c0) (h : slices_Concat_int64_int64.f k l0 = some r) :
  Calls Tryd.prog 28 #[.slice A0 l0.length c0] w fun e w' => ∃ v0_ : Value, e = .returned (v0_) ∧ Kd.R (Kd.int .i64) 2 w' w.heap.size (fun _ => True) v0_ r ∧ Below w.heap.size w w' := by
 have HR0 := Aside0.mk hr0
 have HC0 := Aside0.mk hc0
 clear hr0 hc0
 have HB := asd (Below.refl w.heap.size w)
 have H : (slices_Concat_int64_int64.l0 k l0 0 l0 (l0.length : Int) 0) = some r := h
 clear h
 have H' := Aside0.mk H
 clear H
 go_enter Tryd.func28, Tryd.ntmps28
 go_wp2
 go_loopg [3, 11] k (fun kq v3 v11 w' => ∃ (x3_1 : Int) (x11_1 : Int), v3 = .int .i64 x3_1 ∧ v11 = .int .i64 x11_1 ∧ Aside0 (slices_Concat_int64_int64.l0 kq l0 x3_1 l0 (l0.length : Int) x11_1 = some r) ∧ Aside0 (kq ≤ k) ∧ Aside0 (Below w.heap.size w w'))
 case atStart => exact ⟨(0), (0), (by first | rfl | (simp; done) | (simp [*]; done)), (by first | rfl | (simp; done) | (simp [*]; done)), H', ⟨Nat.le_refl _⟩, ⟨bbw0 HB⟩⟩
 case round =>
  clear H'
  obtain ⟨x3_1, x11_1, rfl, rfl, HA, HK1, HB⟩ := hrel
  cases gk with
  | zero => exact absurd HA.out (by simp [slices_Concat_int64_int64.l0])
  | succ k1 =>
   have H := HA.out
   clear HA
   simp only [slices_Concat_int64_int64.l0] at H
   by_cases c2 : x11_1 < (l0.length : Int)
   ·rw [if_pos c2] at H
    have c2b0 := decide_eq_true c2
    clear c2
    by_cases c3 : 0 ≤ x11_1
    ·rw [if_pos c3] at H
     have c3b0 := decide_eq_true c3
     clear c3
     by_cases c4 : x11_1 < (l0.length : Int)
     ·rw [if_pos c4] at H
      have c4b0 := decide_eq_true c4
      clear c4
      by_cases c5 : (wrap64 (x3_1 + ((rd_L2 l0 x11_1).length : Int))) < 0
      ·rw [if_pos c5] at H
       exact absurd H (by simp)
      ·rw [if_neg c5] at H
       have c5b0 := decide_eq_false c5
       clear c5
       have H' := Aside0.mk H
       clear H
       have p353 : 0 ≤ (x11_1 : Int) := od
       have q353 : x11_1 < (l0.length : Int) := od
       obtain ⟨ad353, A353_0, c353_0, e353, hx353_0, hl353_0, hi353_0⟩ := at_L2 HR0.out x11_1 p353 q353
       cases e353
       replace hx353_0 := xb HB hx353_0
       have HR353_0 := Aside0.mk hi353_0
       have HC353_0 := Aside0.mk hl353_0
       clear hi353_0 hl353_0
       replace p353 := eq_true p353
       replace q353 := eq_true q353
       go_wp2
       go_roundg k1
       case measure => have := HK1.out; omega
       case rel => exact ⟨(wrap64 (x3_1 + ((rd_L2 l0 x11_1).length : Int))), (wrap64 (x11_1 + 1)), (by first | rfl | (simp; done) | (simp [*]; done)), (by first | rfl | (simp; done) | (simp [*]; done)), H', ⟨by have := HK1.out; omega⟩, ⟨bbw0 HB⟩⟩
     ·rw [if_neg c4] at H
      exact absurd H (by simp)
    ·rw [if_neg c3] at H
     exact absurd H (by simp)
   ·rw [if_neg c2] at H
    have c2b0 := decide_eq_false c2
    clear c2
    obtain ⟨t354, A6, H⟩ := ob H
    try dsimp only at H
    have H' := Aside0.mk H
    clear H
    go_wp2_with (first | ((with_reducible refine gate_callee (f := 44) rfl ?_); refine gl 24 Tryd.func44 #[.slice none 0 0, .int .i64 x3_1] ?_; (refine (slices_Grow_int64_int64.calls _ _ _ _ _ _ ?side1 ?side2 A6.out).mono ?_); (case side1 => exact ⟨rfl, rfl⟩); (case side2 => exact Nat.le_refl _); rintro e w7 ⟨v355, rfl, ho0, hb⟩; refine ⟨_, rfl, ?_⟩; have HO356 := asd (Kd.R_lower ho0 (bsz0 HB)); replace HB := bS0 HB hb; (try clear hb); (try clear hb2); (try clear hk); (try clear hi); (try clear ho0)))
    go_loopg [6, 27] k1 (fun kq v6 v27 w' => ∃ (x6_2 : List Int) (x27_2 : Int), v27 = .int .i64 x27_2 ∧ Aside0 (slices_Concat_int64_int64.l1 kq x6_2 l0 (l0.length : Int) x27_2 = some r) ∧ Aside0 (kq ≤ k1) ∧ Aside0 (Kd.R (Kd.int .i64) 2 w' w.heap.size (fun _ => True) v6 x6_2) ∧ Aside0 (Below w.heap.size w w'))
    case atStart => exact ⟨(t354), (0), (by first | rfl | (simp; done) | (simp [*]; done)), H', ⟨Nat.le_refl _⟩, ⟨by (with_reducible repeat (first | apply Kd.R_alloc | apply Kd.R_drewN | apply Kd.R_drew)); exact HO356.out⟩, ⟨bbw0 HB⟩⟩
    case round =>
     clear H'
     try clear c2
     try clear c2b0
     try clear p2
     try clear c3
     try clear c3b0
     try clear p3
     try clear q3
     try clear hx3
     try clear c4
     try clear c4b0
     try clear c5
     try clear c5b0
     try clear p6
     try clear hx353_0
     try clear p353
     try clear q353
     obtain ⟨x6_2, x27_2, rfl, HA, HK2, HO_6, HB⟩ := hrel
     cases gk with
     | zero => exact absurd HA.out (by simp [slices_Concat_int64_int64.l1])
     | succ k2 =>
      have H := HA.out
      clear HA
      simp only [slices_Concat_int64_int64.l1] at H
      by_cases c8 : x27_2 < (l0.length : Int)
      ·rw [if_pos c8] at H
       have c8b0 := decide_eq_true c8
       clear c8
       by_cases c9 : 0 ≤ x27_2
       ·rw [if_pos c9] at H
        have c9b0 := decide_eq_true c9
        clear c9
        by_cases c10 : x27_2 < (l0.length : Int)
        ·rw [if_pos c10] at H
         have c10b0 := decide_eq_true c10
         clear c10
         by_cases c11 : x6_2.length + (rd_L2 l0 x27_2).length < 17592186044416
         ·rw [if_pos c11] at H
          have LMc11 := Aside0.mk c11
          clear c11
          obtain ⟨y358, hy358⟩ : ∃ y_ : List Int, y_ = (x6_2 ++ (rd_L2 l0 x27_2)) := ⟨_, rfl⟩
          replace H : (slices_Concat_int64_int64.l1 k2 y358 l0 (l0.length : Int) (wrap64 (x27_2 + 1))) = some r := by first | (rw [hy358]; with_reducible exact H) | (have H2_ := (Option.bind_some _ _).symm.trans H; rw [hy358]; with_reducible exact H2_) | (have H2_ := (Option.bind_some _ _).symm.trans H; with_reducible exact H2_) | with_reducible exact H | (rw [hy358]; exact H) | exact H
          have Ny358 := Aside0.mk hy358
          clear hy358
          have H' := Aside0.mk H
          clear H
          have p357 : 0 ≤ (x27_2 : Int) := od
          have q357 : x27_2 < (l0.length : Int) := od
          obtain ⟨ad357, A357_0, c357_0, e357, hx357_0, hl357_0, hi357_0⟩ := at_L2 HR0.out x27_2 p357 q357
          cases e357
          replace hx357_0 := xb HB hx357_0
          have HR357_0 := Aside0.mk hi357_0
          have HC357_0 := Aside0.mk hl357_0
          clear hi357_0 hl357_0
          replace p357 := eq_true p357
          replace q357 := eq_true q357
          go_wp2_with (first | ((with_reducible refine gate_builtin (b := .append) (xs := #[.tmp 31, .tmp 32]) rfl ?_); at_builtin; refine Kd.R_append_rows (Kd.int .i64) (w0 := w) w.heap.size rfl (.tmp 31) (.tmp 32) 22 2 (.int .i64 0) 8 rfl Tryd.underlying22 info2 rfl (by decide) (by omega) u6 x6_2 (rd_L2 l0 x27_2) _ _ _ (fun _ => True) (fun _ => False) rfl rfl ?aO ?aR (fun _ _ h => h) (fun _ h => h.elim) ?aF ?aB ?aS ?aL ?_; (case aR => repeat (first | exact (Kd.C_below HR357_0.out HB.out) | (with_reducible refine Kd.C_alloc ?_ _) | (with_reducible refine Kd.C_drewN ?_ _) | (with_reducible refine Kd.C_drew ?_))); (case aB => exact (bbw0 HB)); (case aF => exact (fun _ _ => trivial)); (case aO => exact (kr HO_6)); (case aS => exact (bsz0 HB)); (case aL => have := LMc11.out; omega); intro v359 w12 ho hb hg hat; rw [← Ny358.out] at ho; have n0_ := asd (hb); have n1_ := asd (ho); clear HB; clear HO_6; have HB := n0_; have HO360 := n1_; clear n0_ n1_; clear ho hb hg hat))
          go_roundg k2
          case measure => have := HK1.out; have := HK2.out; omega
          case rel => exact ⟨(y358), (wrap64 (x27_2 + 1)), (by first | rfl | (simp; done) | (simp [*]; done)), H', ⟨by have := HK1.out; have := HK2.out; omega⟩, ⟨by (with_reducible repeat (first | apply Kd.R_alloc | apply Kd.R_drewN | apply Kd.R_drew)); exact HO360.out⟩, ⟨bbw0 HB⟩⟩
         ·rw [if_neg c11] at H
          exact absurd H (by simp)
        ·rw [if_neg c10] at H
         exact absurd H (by simp)
       ·rw [if_neg c9] at H
        exact absurd H (by simp)
      ·rw [if_neg c8] at H
       have c8b0 := decide_eq_false c8
       clear c8
       obtain rfl := Option.some.inj H
       go_wp2
       go_ret
       exact ⟨_, by first | rfl | (simp [errW_none, errW_some] <;> rfl) | (simp [*, errW_none, errW_some] <;> rfl), by (with_reducible repeat (first | apply Kd.R_alloc | apply Kd.R_drewN | apply Kd.R_drew)); exact HO_6.out, bbw0 HB⟩
/-! ### impl_ReadFrieze: function 13 -/
def impl_ReadFrieze.f (k : Nat) (a0 : ByteArray) : Option (Int × Int × List Int × Int) := (impl_readRows.f k a0).bind fun bt362 => ((slices_Concat_int64_int64.f k bt362.2.1).bind fun t367 => (if bt362.2.2 = true then ((impl_IsFrieze.f (bt362.2.1.length : Int) bt362.1 t367).bind fun t371 => (if t371 = true then (some ((bt362.2.1.length : Int), bt362.1, t367, 0)) else (some (0, 0, ([] : List Int), 6)))) else (some (0, 0, ([] : List Int), 6))))
set_option maxHeartbeats 8000000 in
set_option maxRecDepth 100000 in
theorem impl_ReadFrieze.calls (k : Nat) (a0 : ByteArray) (r1 : Int) (r2 : Int) (r3 : List Int) (r4 : Int) (w : World) (htab : texts.Tab w) (h : impl_ReadFrieze.f k a0 = some (r1, r2, r3, r4)) :
  Calls Tryd.prog 13 #[.string a0] w fun e w' => ∃ v2_ : Value, e = .returned (.tuple #[.agg #[.int .i64 r1, .int .i64 r2, v2_], .int .i64 r4]) ∧ Kd.R (Kd.int .i64) 2 w' w.heap.size (fun _ => True) v2_ r3 ∧ Below w.heap.size w w' := by
 have HTAB := Aside0.mk htab
 clear htab
 have hu28 := Tryd.underlying28
 have HB := asd (Below.refl w.heap.size w)
 have H : ((impl_readRows.f k a0).bind fun bt362 => ((slices_Concat_int64_int64.f k bt362.2.1).bind fun t367 => (if bt362.2.2 = true then ((impl_IsFrieze.f (bt362.2.1.length : Int) bt362.1 t367).bind fun t371 => (if t371 = true then (some ((bt362.2.1.length : Int), bt362.1, t367, 0)) else (some (0, 0, ([] : List Int), 6)))) else (some (0, 0, ([] : List Int), 6))))) = some (r1, r2, r3, r4) := h
 clear h
 obtain ⟨⟨t362, t363, t364⟩, A2, H⟩ := ob H
 try dsimp only at H
 obtain ⟨t367, A3, H⟩ := ob H
 try dsimp only at H
 by_cases c4 : t364 = true
 ·subst c4
  replace H := ifT H
  obtain ⟨t371, A5, H⟩ := ob H
  try dsimp only at H
  by_cases c6 : t371 = true
  ·subst c6
   replace H := ifT H
   simp only [Option.some.injEq, Prod.mk.injEq] at H
   obtain ⟨rfl, rfl, rfl, rfl⟩ := H
   go_enter Tryd.func13, Tryd.ntmps13
   go_wp2_with (first | ((with_reducible refine gd 2 rfl ?_); refine bx #[.int .i64 0, .int .i64 0, .slice none 0 0] 28 ?_; intro gb361 hg w7 BK361 hb; have GE361 := ngw0 hg HB; replace HB := bS0 HB hb; clear hb hg) | ((with_reducible refine gate_callee (f := 27) rfl ?_); refine gl 10 Tryd.func27 #[.string a0] ?_; (with_reducible refine (impl_readRows.calls _ _ _ _ _ _ (texts.tabB HTAB.out (by repeat (first | (with_reducible first | exact HB.out | exact Below.refl _ _ | apply below_alloc | apply pw_below_drewN | apply below_drew1 | refine below_set ?_ GE361.out | refine below_set ?_ GE370.out) | exact HB.out))) A2.out).mono ?_); rintro e w8 ⟨v365, rfl, ho0, hb⟩; refine ⟨_, rfl, ?_⟩; have HO366 := asd (Kd.S_lower ho0 (bsz1 HB GE361)); replace BK361 := bB BK361 hb; replace HB := bS1 HB GE361 hb; (try clear hb); (try clear hb2); (try clear hk); (try clear hi); (try clear ho0); obtain ⟨Ao9, co9, eo9⟩ := Kd.S_slice HO366.out; subst eo9) | ((with_reducible refine gate_callee (f := 28) rfl ?_); refine gl 18 Tryd.func28 #[.slice Ao9 t363.length co9] ?_; (with_reducible refine (slices_Concat_int64_int64.calls _ _ _ _ _ _ ?side1 ?side2 A3.out).mono ?_); (case side1 => exact ks (Kd.S_reads' HO366.out).2.2); (case side2 => exact (Kd.S_reads' HO366.out).2.1); rintro e w10 ⟨v368, rfl, ho0, hb⟩; refine ⟨_, rfl, ?_⟩; replace HO366 := asd (Kd.S_elder' (by (with_reducible repeat (first | apply Kd.S_alloc | apply Kd.S_drewN | apply Kd.S_drew)); exact HO366.out) (Kd.R_base ho0) hb); have HO369 := asd (Kd.R_lower ho0 (bsz1 HB GE361)); replace BK361 := bB BK361 hb; replace HB := bS1 HB GE361 hb; (try clear hb); (try clear hb2); (try clear hk); (try clear hi); (try clear ho0); obtain ⟨Ao11, co11, eo11⟩ := Kd.R_slice HO369.out; subst eo11) | ((with_reducible refine gd 7 rfl ?_); refine bx #[.int .i64 0, .int .i64 0, .slice none 0 0] 28 ?_; intro gb370 hg w12 BK370 hb; replace HO366 := asd (Kd.S_below (by (with_reducible repeat (first | apply Kd.S_alloc | apply Kd.S_drewN | apply Kd.S_drew)); exact HO366.out) hb); replace HO369 := asd (Kd.R_below (kr HO369) hb); have GE370 := ngw1 hg HB GE361; replace HB := bS1 HB GE361 hb; have NB361_370 := nlt hg BK361; have NB370_361 := nsy (nlt hg BK361); replace BK361 := bB BK361 hb; clear hb hg; have hnb13 := NB370_361.out; have hnc13 := NB361_370.out; obtain ⟨hcz14_0, hcz14_1, hcz14_2, hfz14_0, hfz14_1, hfz14_2⟩ := bz3 BK370) | (go_at_call 19; (with_reducible refine (impl_IsFrieze.calls _ _ _ _ _ _ _ ?side1 ?side2 A5.out).mono ?_); (case side1 => refine (Kd.R_reads' (e := 2) (base := w.heap.size) (ok := fun k_ => True) (n := t367.length) (c := co11) ?_).2.2; exact (by (with_reducible repeat (first | apply Kd.R_alloc | apply Kd.R_drewN | apply Kd.R_drew)); exact (Kd.R_mono (rw3 (Kd.R_types HO369.out BK370.out (by decide))) (fun _ h_ => h_.1)))); (case side2 => exact (Kd.R_reads' HO369.out).2.1); rintro e w15 ⟨rfl, hb⟩; replace HO366 := asd (Kd.S_below (by (with_reducible repeat (first | apply Kd.S_alloc | apply Kd.S_drewN | apply Kd.S_drew)); exact (Kd.S_mono (Kd.S_far (p := ⟨gb370, 2, none⟩) (Kd.S_far (p := ⟨gb370, 1, none⟩) (Kd.S_far (p := ⟨gb370, 0, none⟩) (Kd.S_types HO366.out BK370.out (by decide)) (fun _ hk => hk.2) (.int .i64 (t363.length : Int))) (fun _ hk => hk.2) (.int .i64 t362)) (fun _ hk => hk.2) (.slice Ao11 t367.length co11)) (fun _ h_ => h_.1))) hb); replace HO369 := asd (Kd.R_below (by (with_reducible repeat (first | apply Kd.R_alloc | apply Kd.R_drewN | apply Kd.R_drew)); exact (Kd.R_mono (rw3 (Kd.R_types HO369.out BK370.out (by decide))) (fun _ h_ => h_.1))) hb); replace BK361 := asd (blk_below (g := gb361) (o := .cells #[.int .i64 0, .int .i64 0, .slice none 0 0] 28 (0, 0)) (bq1 BK361 NB361_370) hb); replace BK370 := asd (blk_below (g := gb370) (o := .cells #[.int .i64 (t363.length : Int), .int .i64 t362, .slice Ao11 t367.length co11] 28 (0, 0)) (bq0 BK370) hb); replace HB := bS2 HB GE361 GE370 hb; (try clear hb); obtain ⟨hcz16_0, hcz16_1, hcz16_2, hfz16_0, hfz16_1, hfz16_2⟩ := bz3 BK370; obtain ⟨hcz17_0, hcz17_1, hcz17_2, hfz17_0, hfz17_1, hfz17_2⟩ := bz3 BK361))
   refine bodyPost_ret (results_ct rfl _ _ gb361 28 #[.int .i64 (t363.length : Int), .int .i64 t362, .slice Ao11 t367.length co11] (0, 0) _ rfl (bq0 BK361) Tryd.underlying28 rfl (by kernel_rfl)) rfl ?_
   exact ⟨_, by first | rfl | (simp [errW_none, errW_some] <;> rfl) | (simp [*, errW_none, errW_some] <;> rfl), by (with_reducible repeat (first | apply Kd.R_alloc | apply Kd.R_drewN | apply Kd.R_drew)); exact Kd.R_mono (rw3 (Kd.R_types HO369.out BK361.out (by decide))) (fun _ hk => trivial), bbw2 HB GE361 GE370⟩
  ·replace c6 := Bool.eq_false_iff.mpr c6
   subst c6
   replace H := ifF H
   simp only [Option.some.injEq, Prod.mk.injEq] at H
   obtain ⟨rfl, rfl, rfl, rfl⟩ := H
   go_enter Tryd.func13, Tryd.ntmps13
   go_wp2_with (first | ((with_reducible refine gd 2 rfl ?_); refine bx #[.int .i64 0, .int .i64 0, .slice none 0 0] 28 ?_; intro gb361 hg w18 BK361 hb; have GE361 := ngw0 hg HB; replace HB := bS0 HB hb; clear hb hg) | ((with_reducible refine gate_callee (f := 27) rfl ?_); refine gl 10 Tryd.func27 #[.string a0] ?_; (with_reducible refine (impl_readRows.calls _ _ _ _ _ _ (texts.tabB HTAB.out (by repeat (first | (with_reducible first | exact HB.out | exact Below.refl _ _ | apply below_alloc | apply pw_below_drewN | apply below_drew1 | refine below_set ?_ GE361.out | refine below_set ?_ GE370.out) | exact HB.out))) A2.out).mono ?_); rintro e w19 ⟨v365, rfl, ho0, hb⟩; refine ⟨_, rfl, ?_⟩; have HO366 := asd (Kd.S_lower ho0 (bsz1 HB GE361)); replace BK361 := bB BK361 hb; replace HB := bS1 HB GE361 hb; (try clear hb); (try clear hb2); (try clear hk); (try clear hi); (try clear ho0); obtain ⟨Ao20, co20, eo20⟩ := Kd.S_slice HO366.out; subst eo20) | ((with_reducible refine gate_callee (f := 28) rfl ?_); refine gl 18 Tryd.func28 #[.slice Ao20 t363.length co20] ?_; (with_reducible refine (slices_Concat_int64_int64.calls _ _ _ _ _ _ ?side1 ?side2 A3.out).mono ?_); (case side1 => exact ks (Kd.S_reads' HO366.out).2.2); (case side2 => exact (Kd.S_reads' HO366.out).2.1); rintro e w21 ⟨v368, rfl, ho0, hb⟩; refine ⟨_, rfl, ?_⟩; replace HO366 := asd (Kd.S_elder' (by (with_reducible repeat (first | apply Kd.S_alloc | apply Kd.S_drewN | apply Kd.S_drew)); exact HO366.out) (Kd.R_base ho0) hb); have HO369 := asd (Kd.R_lower ho0 (bsz1 HB GE361)); replace BK361 := bB BK361 hb; replace HB := bS1 HB GE361 hb; (try clear hb); (try clear hb2); (try clear hk); (try clear hi); (try clear ho0); obtain ⟨Ao22, co22, eo22⟩ := Kd.R_slice HO369.out; subst eo22) | ((with_reducible refine gd 7 rfl ?_); refine bx #[.int .i64 0, .int .i64 0, .slice none 0 0] 28 ?_; intro gb370 hg w23 BK370 hb; replace HO366 := asd (Kd.S_below (by (with_reducible repeat (first | apply Kd.S_alloc | apply Kd.S_drewN | apply Kd.S_drew)); exact HO366.out) hb); replace HO369 := asd (Kd.R_below (kr HO369) hb); have GE370 := ngw1 hg HB GE361; replace HB := bS1 HB GE361 hb; have NB361_370 := nlt hg BK361; have NB370_361 := nsy (nlt hg BK361); replace BK361 := bB BK361 hb; clear hb hg; have hnb24 := NB370_361.out; have hnc24 := NB361_370.out; obtain ⟨hcz25_0, hcz25_1, hcz25_2, hfz25_0, hfz25_1, hfz25_2⟩ := bz3 BK370) | (go_at_call 19; (with_reducible refine (impl_IsFrieze.calls _ _ _ _ _ _ _ ?side1 ?side2 A5.out).mono ?_); (case side1 => refine (Kd.R_reads' (e := 2) (base := w.heap.size) (ok := fun k_ => True) (n := t367.length) (c := co22) ?_).2.2; exact (by (with_reducible repeat (first | apply Kd.R_alloc | apply Kd.R_drewN | apply Kd.R_drew)); exact (Kd.R_mono (rw3 (Kd.R_types HO369.out BK370.out (by decide))) (fun _ h_ => h_.1)))); (case side2 => exact (Kd.R_reads' HO369.out).2.1); rintro e w26 ⟨rfl, hb⟩; replace HO366 := asd (Kd.S_below (by (with_reducible repeat (first | apply Kd.S_alloc | apply Kd.S_drewN | apply Kd.S_drew)); exact (Kd.S_mono (Kd.S_far (p := ⟨gb370, 2, none⟩) (Kd.S_far (p := ⟨gb370, 1, none⟩) (Kd.S_far (p := ⟨gb370, 0, none⟩) (Kd.S_types HO366.out BK370.out (by decide)) (fun _ hk => hk.2) (.int .i64 (t363.length : Int))) (fun _ hk => hk.2) (.int .i64 t362)) (fun _ hk => hk.2) (.slice Ao22 t367.length co22)) (fun _ h_ => h_.1))) hb); replace HO369 := asd (Kd.R_below (by (with_reducible repeat (first | apply Kd.R_alloc | apply Kd.R_drewN | apply Kd.R_drew)); exact (Kd.R_mono (rw3 (Kd.R_types HO369.out BK370.out (by decide))) (fun _ h_ => h_.1))) hb); replace BK361 := asd (blk_below (g := gb361) (o := .cells #[.int .i64 0, .int .i64 0, .slice none 0 0] 28 (0, 0)) (bq1 BK361 NB361_370) hb); replace BK370 := asd (blk_below (g := gb370) (o := .cells #[.int .i64 (t363.length : Int), .int .i64 t362, .slice Ao22 t367.length co22] 28 (0, 0)) (bq0 BK370) hb); replace HB := bS2 HB GE361 GE370 hb; (try clear hb); obtain ⟨hcz27_0, hcz27_1, hcz27_2, hfz27_0, hfz27_1, hfz27_2⟩ := bz3 BK361))
   refine bodyPost_ret (results_ct rfl _ _ gb361 28 #[.int .i64 0, .int .i64 0, .slice none 0 0] (0, 0) _ rfl (bq0 BK361) Tryd.underlying28 rfl (by kernel_rfl)) rfl ?_
   exact ⟨_, by first | rfl | (simp [errW_none, errW_some] <;> rfl) | (simp [*, errW_none, errW_some] <;> rfl), by first | exact Kd.R_nil _ _ _ _ _ | exact Kd.N_nil _ _ _ _ _ | exact Kd.V_nil _ _ _ _ _ | exact Kd.Q_nil _ _ _ _ _ | exact Kd.S_nil _ _ _ _ _, bbw2 HB GE361 GE370⟩
 ·replace c4 := Bool.eq_false_iff.mpr c4
  subst c4
  replace H := ifF H
  simp only [Option.some.injEq, Prod.mk.injEq] at H
  obtain ⟨rfl, rfl, rfl, rfl⟩ := H
  go_enter Tryd.func13, Tryd.ntmps13
  go_wp2_with (first | ((with_reducible refine gd 2 rfl ?_); refine bx #[.int .i64 0, .int .i64 0, .slice none 0 0] 28 ?_; intro gb361 hg w28 BK361 hb; have GE361 := ngw0 hg HB; replace HB := bS0 HB hb; clear hb hg) | ((with_reducible refine gate_callee (f := 27) rfl ?_); refine gl 10 Tryd.func27 #[.string a0] ?_; (with_reducible refine (impl_readRows.calls _ _ _ _ _ _ (texts.tabB HTAB.out (by repeat (first | (with_reducible first | exact HB.out | exact Below.refl _ _ | apply below_alloc | apply pw_below_drewN | apply below_drew1 | refine below_set ?_ GE361.out | refine below_set ?_ GE370.out) | exact HB.out))) A2.out).mono ?_); rintro e w29 ⟨v365, rfl, ho0, hb⟩; refine ⟨_, rfl, ?_⟩; have HO366 := asd (Kd.S_lower ho0 (bsz1 HB GE361)); replace BK361 := bB BK361 hb; replace HB := bS1 HB GE361 hb; (try clear hb); (try clear hb2); (try clear hk); (try clear hi); (try clear ho0); obtain ⟨Ao30, co30, eo30⟩ := Kd.S_slice HO366.out; subst eo30) | ((with_reducible refine gate_callee (f := 28) rfl ?_); refine gl 18 Tryd.func28 #[.slice Ao30 t363.length co30] ?_; (with_reducible refine (slices_Concat_int64_int64.calls _ _ _ _ _ _ ?side1 ?side2 A3.out).mono ?_); (case side1 => exact ks (Kd.S_reads' HO366.out).2.2); (case side2 => exact (Kd.S_reads' HO366.out).2.1); rintro e w31 ⟨v368, rfl, ho0, hb⟩; refine ⟨_, rfl, ?_⟩; replace HO366 := asd (Kd.S_elder' (by (with_reducible repeat (first | apply Kd.S_alloc | apply Kd.S_drewN | apply Kd.S_drew)); exact HO366.out) (Kd.R_base ho0) hb); have HO369 := asd (Kd.R_lower ho0 (bsz1 HB GE361)); replace BK361 := bB BK361 hb; replace HB := bS1 HB GE361 hb; (try clear hb); (try clear hb2); (try clear hk); (try clear hi); (try clear ho0); obtain ⟨Ao32, co32, eo32⟩ := Kd.R_slice HO369.out; subst eo32) | ((with_reducible refine gd 7 rfl ?_); refine bx #[.int .i64 0, .int .i64 0, .slice none 0 0] 28 ?_; intro gb370 hg w33 BK370 hb; replace HO366 := asd (Kd.S_below (by (with_reducible repeat (first | apply Kd.S_alloc | apply Kd.S_drewN | apply Kd.S_drew)); exact HO366.out) hb); replace HO369 := asd (Kd.R_below (kr HO369) hb); have GE370 := ngw1 hg HB GE361; replace HB := bS1 HB GE361 hb; have NB361_370 := nlt hg BK361; have NB370_361 := nsy (nlt hg BK361); replace BK361 := bB BK361 hb; clear hb hg; have hnb34 := NB370_361.out; have hnc34 := NB361_370.out; obtain ⟨hcz35_0, hcz35_1, hcz35_2, hfz35_0, hfz35_1, hfz35_2⟩ := bz3 BK370; obtain ⟨hcz36_0, hcz36_1, hcz36_2, hfz36_0, hfz36_1, hfz36_2⟩ := bz3 BK361))
  refine bodyPost_ret (results_ct rfl _ _ gb361 28 #[.int .i64 0, .int .i64 0, .slice none 0 0] (0, 0) _ rfl (bq1 BK361 NB361_370) Tryd.underlying28 rfl (by kernel_rfl)) rfl ?_
  exact ⟨_, by first | rfl | (simp [errW_none, errW_some] <;> rfl) | (simp [*, errW_none, errW_some] <;> rfl), by first | exact Kd.R_nil _ _ _ _ _ | exact Kd.N_nil _ _ _ _ _ | exact Kd.V_nil _ _ _ _ _ | exact Kd.Q_nil _ _ _ _ _ | exact Kd.S_nil _ _ _ _ _, bbw2 HB GE361 GE370⟩
end Go.Proofs.YtnblfcibgokccaaDoor.PG
