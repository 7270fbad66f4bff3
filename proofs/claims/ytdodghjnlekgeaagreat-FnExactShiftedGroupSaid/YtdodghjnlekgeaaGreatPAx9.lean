/- Walks written by program: each Go function that the law reaches comes to the plain function beside it. -/
import Derived.Test.YtdodghjnlekgeaaGreatPAx0
import Derived.Test.YtdodghjnlekgeaaGreatPAx3
import Derived.Test.YtdodghjnlekgeaaGreatPAx4
import Derived.Test.YtdodghjnlekgeaaGreatPAx6
import Derived.Test.YtdodghjnlekgeaaGreatPAx7
import Derived.Test.YtdodghjnlekgeaaGreatPAx8
namespace Go.Proofs.YtdodghjnlekgeaaGreat.PA
open Go.RowKit Go.Proofs.YtdodghjnlekgeaaGreatW.PrintWords Go.Proofs.YtdodghjnlekgeaaGreatW.PrintLast Go.Proofs.YtdodghjnlekgeaaGreatW.PrintMore
attribute [local go_sem] max2_int min2_int max_two min_two max_three min_three max_four min_four   -- for this text's walks alone
set_option linter.unusedVariables false
set_option linter.unusedSimpArgs false

attribute [local go_sem high] eqA46 eqA48
/-! ### spec_l06Place: function 80 -/
def spec_l06Place.l0 : Nat → List (S48) → Int → Int → Int → Int → Int → Int → Int → Int → Option (Int)
 | 0, _, _, _, _, _, _, _, _, _ => none
 | k + 1, x0, x5, x6, x270000, x270001, x270002, x270003, x270004, x270005 => if x5 < x6 then (if 0 ≤ (wrap64 (Int.tdiv (wrap64 (x5 + x6)) 2)) then (if (wrap64 (Int.tdiv (wrap64 (x5 + x6)) 2)) < (x0.length : Int) then ((spec_l05Less.f k ((rd_T48 x0 (wrap64 (Int.tdiv (wrap64 (x5 + x6)) 2))).f0.f0) ((rd_T48 x0 (wrap64 (Int.tdiv (wrap64 (x5 + x6)) 2))).f0.f1) ((rd_T48 x0 (wrap64 (Int.tdiv (wrap64 (x5 + x6)) 2))).f0.f2) ((rd_T48 x0 (wrap64 (Int.tdiv (wrap64 (x5 + x6)) 2))).f0.f3) ((rd_T48 x0 (wrap64 (Int.tdiv (wrap64 (x5 + x6)) 2))).f1.f0) ((rd_T48 x0 (wrap64 (Int.tdiv (wrap64 (x5 + x6)) 2))).f1.f1) x270000 x270001 x270002 x270003 x270004 x270005).bind fun t271 => (if t271 = true then (spec_l06Place.l0 k x0 (wrap64 ((wrap64 (Int.tdiv (wrap64 (x5 + x6)) 2)) + 1)) x6 x270000 x270001 x270002 x270003 x270004 x270005) else (spec_l06Place.l0 k x0 x5 (wrap64 (Int.tdiv (wrap64 (x5 + x6)) 2)) x270000 x270001 x270002 x270003 x270004 x270005))) else (none)) else (none)) else (some x5)
def spec_l06Place.f (k : Nat) (l0 : List (S48)) (a1_0 : Int) (a1_1 : Int) (a1_2 : Int) (a1_3 : Int) (a1_4 : Int) (a1_5 : Int) : Option (Int) := spec_l06Place.l0 k l0 0 (l0.length : Int) a1_0 a1_1 a1_2 a1_3 a1_4 a1_5
theorem spec_l06Place.mono_l : ∀ k, (∀ y0 y1 y2 y3 y4 y5 y6 y7 y8, LeO (spec_l06Place.l0 k y0 y1 y2 y3 y4 y5 y6 y7 y8) (spec_l06Place.l0 (k + 1) y0 y1 y2 y3 y4 y5 y6 y7 y8))
 | 0 => fun _ _ _ _ _ _ _ _ _ r h => by simp [spec_l06Place.l0] at h
 | k + 1 => by
  have ih0 := spec_l06Place.mono_l k
  ·intro y0 y1 y2 y3 y4 y5 y6 y7 y8
   unfold spec_l06Place.l0
   repeat' first
   | (with_reducible exact ih0 _ _ _ _ _ _ _ _ _)
   | (with_reducible exact spec_l05Less.mono _ _ _ _ _ _ _ _ _ _ _ _ _)
   | (with_reducible exact LeO.refl _)
   | (with_reducible exact LeO.none _)
   | (with_reducible refine LeO.ite ?_ ?_)
   | (with_reducible refine LeO.bind ?_ (fun _ => ?_))
   | exact ih0 _ _ _ _ _ _ _ _ _
   | exact spec_l05Less.mono _ _ _ _ _ _ _ _ _ _ _ _ _
   | exact LeO.none _
   | refine LeO.ite ?_ ?_
   | refine LeO.bind ?_ (fun _ => ?_)
theorem spec_l06Place.mono : ∀ a0 a1 a2 a3 a4 a5 a6 k, LeO (spec_l06Place.f k a0 a1 a2 a3 a4 a5 a6) (spec_l06Place.f (k + 1) a0 a1 a2 a3 a4 a5 a6) := by
 intro a0 a1 a2 a3 a4 a5 a6 k
 have ih0 := spec_l06Place.mono_l k
 unfold spec_l06Place.f
 repeat' first
   | (with_reducible exact ih0 _ _ _ _ _ _ _ _ _)
   | (with_reducible exact spec_l05Less.mono _ _ _ _ _ _ _ _ _ _ _ _ _)
   | (with_reducible exact LeO.refl _)
   | (with_reducible exact LeO.none _)
   | (with_reducible refine LeO.ite ?_ ?_)
   | (with_reducible refine LeO.bind ?_ (fun _ => ?_))
   | exact ih0 _ _ _ _ _ _ _ _ _
   | exact spec_l05Less.mono _ _ _ _ _ _ _ _ _ _ _ _ _
   | exact LeO.none _
   | refine LeO.ite ?_ ?_
   | refine LeO.bind ?_ (fun _ => ?_)
set_option maxHeartbeats 8000000 in
set_option maxRecDepth 100000 in
theorem spec_l06Place.calls (k : Nat) (A0 : Option Addr) (c0 : Nat) (l0 : List (S48)) (a1_0 : Int) (a1_1 : Int) (a1_2 : Int) (a1_3 : Int) (a1_4 : Int) (a1_5 : Int) (r : Int) (w : World) (hr0 : Kd.C k48 w A0 l0.length l0) (hc0 : l0.length ≤ c0) (h : spec_l06Place.f k l0 a1_0 a1_1 a1_2 a1_3 a1_4 a1_5 = some r) :
  Calls Tryz.prog 80 #[.slice A0 l0.length c0, .agg #[.int .i64 a1_0, .int .i64 a1_1, .int .i64 a1_2, .int .i64 a1_3, .int .i64 a1_4, .int .i64 a1_5]] w fun e w' => e = .returned (.int .i64 r) ∧ Below w.heap.size w w' := by
 have hu48 := Tryz.underlying48
 have HR0 := Aside0.mk hr0
 have HC0 := Aside0.mk hc0
 clear hr0 hc0
 have HB := asd (Below.refl w.heap.size w)
 have H : (spec_l06Place.l0 k l0 0 (l0.length : Int) a1_0 a1_1 a1_2 a1_3 a1_4 a1_5) = some r := h
 clear h
 have H' := Aside0.mk H
 clear H
 go_enter Tryz.func80, Tryz.ntmps80
 go_wp2_with (first | ((with_reducible refine gd 3 rfl ?_); refine bx #[.int .i64 a1_0, .int .i64 a1_1, .int .i64 a1_2, .int .i64 a1_3, .int .i64 a1_4, .int .i64 a1_5] 48 ?_; intro gb269 hg w3 BK269 hb; have GE269 := ngw0 hg HB; replace HB := bS0 HB hb; clear hb hg))
 go_loopg [5, 6] k (fun kq v5 v6 w' => ∃ (x5_1 : Int) (x6_1 : Int), v5 = .int .i64 x5_1 ∧ v6 = .int .i64 x6_1 ∧ Aside0 (spec_l06Place.l0 kq l0 x5_1 x6_1 a1_0 a1_1 a1_2 a1_3 a1_4 a1_5 = some r) ∧ Aside0 (kq ≤ k) ∧ Aside0 (w'.heap[gb269]? = some (.cells #[.int .i64 a1_0, .int .i64 a1_1, .int .i64 a1_2, .int .i64 a1_3, .int .i64 a1_4, .int .i64 a1_5] 48 (0, 0))) ∧ Aside0 (Below w.heap.size w w'))
 case atStart => exact ⟨(0), ((l0.length : Int)), (by first | rfl | (simp; done) | (simp [*]; done)), (by first | rfl | (simp; done) | (simp [*]; done)), H', ⟨Nat.le_refl _⟩, ⟨bkp BK269⟩, ⟨bbw1 HB GE269⟩⟩
 case round =>
  clear H'
  try clear p2
  obtain ⟨x5_1, x6_1, rfl, rfl, HA, HK1, BK269, HB⟩ := hrel
  cases gk with
  | zero => exact absurd HA.out (by simp [spec_l06Place.l0])
  | succ k1 =>
   have H := HA.out
   clear HA
   simp only [spec_l06Place.l0] at H
   by_cases c4 : x5_1 < x6_1
   rw [if_pos c4] at H
   have c4b0 := decide_eq_true c4
   clear c4
   obtain ⟨ji5, hji5⟩ : ∃ j_ : Int, (wrap64 (Int.tdiv (wrap64 (x5_1 + x6_1)) 2)) = j_ := ⟨_, rfl⟩
   replace H : (if 0 ≤ (ji5) then (if (ji5) < (l0.length : Int) then ((spec_l05Less.f k1 ((rd_T48 l0 (ji5)).f0.f0) ((rd_T48 l0 (ji5)).f0.f1) ((rd_T48 l0 (ji5)).f0.f2) ((rd_T48 l0 (ji5)).f0.f3) ((rd_T48 l0 (ji5)).f1.f0) ((rd_T48 l0 (ji5)).f1.f1) a1_0 a1_1 a1_2 a1_3 a1_4 a1_5).bind fun t271 => (if t271 = true then (spec_l06Place.l0 k1 l0 (wrap64 ((ji5) + 1)) x6_1 a1_0 a1_1 a1_2 a1_3 a1_4 a1_5) else (spec_l06Place.l0 k1 l0 x5_1 ji5 a1_0 a1_1 a1_2 a1_3 a1_4 a1_5))) else (none)) else (none)) = some r := by first | (rw [hji5] at H; first | done | exact H) | (simp only [hji5] at H ⊢; exact H)
   have hji5w : (IntKind.i64.wrap (Int.tdiv (wrap64 (x5_1 + x6_1)) 2)) = ji5 := (i64_w _).trans hji5
   by_cases c6 : 0 ≤ (ji5)
   rw [if_pos c6] at H
   have c6b0 := decide_eq_true c6
   clear c6
   by_cases c7 : (ji5) < (l0.length : Int)
   rw [if_pos c7] at H
   have c7b0 := decide_eq_true c7
   clear c7
   obtain ⟨t271, A8, H⟩ := ob H
   try dsimp only at H
   by_cases c9 : t271 = true
   subst c9
   replace H := ifT H
   have H' := Aside0.mk H
   clear H
   rotate_left
   replace c9 := Bool.eq_false_iff.mpr c9
   subst c9
   replace H := ifF H
   have H' := Aside0.mk H
   clear H
   rotate_left
   ·rw [if_neg c7] at H
    exact absurd H (by simp)
   ·rw [if_neg c6] at H
    exact absurd H (by simp)
   rw [if_neg c4] at H
   have c4b0 := decide_eq_false c4
   clear c4
   obtain rfl := Option.some.inj H
   rotate_left
   rotate_left 2
   ·go_wp2
    go_ret
    exact er (bbw1 HB GE269)
   all_goals
    try go_wp2
    replace BK269 := asd (blk_drew BK269.out)
    replace HB := asd (below_drew1 HB.out)
    obtain ⟨p270, q270, ad270, e270, hw270_0, hw270_1, hw270_2, hw270_3, hw270_4, hw270_5, hx270_0, hx270_1, hx270_2, hx270_3, hx270_4, hx270_5⟩ := at_T48w HR0.out HB (ji5)
    cases e270
    refine sh 6 (cb6 BK269 (ex6 HB hw270_0 hw270_1 hw270_2 hw270_3 hw270_4 hw270_5)) (fun hHeld => ?_)
    generalize wr.drew = w10 at BK269 HB hx270_0 hx270_1 hx270_2 hx270_3 hx270_4 hx270_5 hHeld ⊢
    refine pure_ (i := 0) (N := some 17) (v := ?_) (a' := ?_) (bT 6 1) rfl rfl (by kernel_rfl) (fun _ _ _ h => h) (Or.inl ⟨by rfl, ?_⟩) ?_ ?_
    rotate_left
    ·intro w'
     go_simp
     with_reducible rfl
    rotate_left
    ·simp only [Act.put, sA, sB, sC, i64_w, i32_w]
     rfl
    refine pure_ (i := 1) (N := some 18) (v := ?_) (a' := ?_) (bT 6 2) rfl rfl (by kernel_rfl) (fun _ _ _ h => h) (Or.inl ⟨by rfl, ?_⟩) ?_ ?_
    rotate_left
    ·intro w'
     go_simp
     with_reducible rfl
    rotate_left
    ·simp only [Act.put, sA, sB, sC, i64_w, i32_w]
     rfl
    refine pure_ (i := 2) (N := some 19) (v := ?_) (a' := ?_) (bT 6 3) rfl rfl (by kernel_rfl) (fun _ _ _ h => h) (Or.inl ⟨by rfl, ?_⟩) ?_ ?_
    rotate_left
    ·intro w'
     go_simp
     with_reducible rfl
    rotate_left
    ·simp only [Act.put, sA, sB, sC, i64_w, i32_w]
     rfl
    refine take_ (i := 3) (N := some 20) (v := ?_) (a' := ?_) (bT 6 4) rfl rfl (by kernel_rfl) (fun _ _ _ h => h) (Or.inl ⟨by rfl, ?_⟩) hHeld ?_ ?_
    rotate_left
    ·rintro w' ⟨s0, s1, s2, s3, s4, s5, s6, s7, s8, s9, s10, s11⟩
     go_simp
     with_reducible rfl
    rotate_left
    ·simp only [Act.put, sA, sB, sC, i64_w, i32_w]
     rfl
    refine take_ (i := 4) (N := some 21) (v := ?_) (a' := ?_) (bT 6 5) rfl rfl (by kernel_rfl) (fun _ _ _ h => h) (Or.inl ⟨by rfl, ?_⟩) hHeld ?_ ?_
    rotate_left
    ·rintro w' ⟨s0, s1, s2, s3, s4, s5, s6, s7, s8, s9, s10, s11⟩
     go_simp
     with_reducible rfl
    rotate_left
    ·simp only [Act.put, sA, sB, sC, i64_w, i32_w]
     rfl
    refine one_ (i := 5) (N := some 22) (bT 6 6) rfl rfl (by kernel_rfl) (by decide) (fun K hK => ?_)
    refine goes_ Tryz.func78 (by kernel_rfl) rfl #[.agg #[.int .i64 ((rd_T48 l0 (ji5)).f0.f0), .int .i64 ((rd_T48 l0 (ji5)).f0.f1), .int .i64 ((rd_T48 l0 (ji5)).f0.f2), .int .i64 ((rd_T48 l0 (ji5)).f0.f3), .int .i64 ((rd_T48 l0 (ji5)).f1.f0), .int .i64 ((rd_T48 l0 (ji5)).f1.f1)], .agg #[.int .i64 a1_0, .int .i64 a1_1, .int .i64 a1_2, .int .i64 a1_3, .int .i64 a1_4, .int .i64 a1_5]] (by rfl) rfl rfl (by (try simp only [List.map_toArray, List.map_cons, List.map_nil]); first | done | (simp only [hji5]; rfl) | rfl | (simp only [List.length_drop, List.length_take]; rfl)) ?_
    with_reducible refine (spec_l05Less.calls _ _ _ _ _ _ _ _ _ _ _ _ _ _ _ A8.out).mono ?_
    rintro e w11 ⟨rfl, hb⟩
    refine ⟨_, rfl, ?_⟩
    replace BK269 := bB BK269 hb
    replace HB := bS1 HB GE269 hb
    (try clear hb)
    (try clear hb2)
    (try clear hk)
    (try clear hi)
    refine hK.out _ _ (cb6 BK269 (ex6 HB hw270_0 hw270_1 hw270_2 hw270_3 hw270_4 hw270_5)).out (fun hHeld => ?_)
    clear hK K
    refine norm_ (a' := ?_) ?_ ?_
    rotate_left
    ·show Act.put _ (some 22) _ = _
     simp only [Act.put, sA, sB, sC, i64_w, i32_w]
     rfl
    refine done_ (by kernel_rfl) ?_
    try go_wp2
    go_roundg k1
    case measure => have := HK1.out; omega
   ·case rel => exact ⟨(wrap64 ((ji5) + 1)), (x6_1), (by first | rfl | (simp; done) | (simp only [← hji5] <;> (first | rfl | simp)) | (simp [*]; done)), (by first | rfl | (simp; done) | (simp [*]; done)), H', ⟨by have := HK1.out; omega⟩, ⟨bkp BK269⟩, ⟨bbw1 HB GE269⟩⟩
   ·case rel => exact ⟨(x5_1), (ji5), (by first | rfl | (simp; done) | (simp [*]; done)), (by first | rfl | (simp; done) | (simp only [← hji5] <;> (first | rfl | simp)) | (simp [*]; done)), H', ⟨by have := HK1.out; omega⟩, ⟨bkp BK269⟩, ⟨bbw1 HB GE269⟩⟩
/-! ### spec_l06Has: function 49 -/
def spec_l06Has.f (k : Nat) (l0 : List (S48)) (a1_0 : Int) (a1_1 : Int) (a1_2 : Int) (a1_3 : Int) (a1_4 : Int) (a1_5 : Int) : Option (Bool) := (spec_l06Place.f k l0 a1_0 a1_1 a1_2 a1_3 a1_4 a1_5).bind fun t273 => (if t273 < (l0.length : Int) then (if 0 ≤ t273 then (some ((((rd_T48 l0 t273).f0.f0) == a1_0 && (((rd_T48 l0 t273).f0.f1) == a1_1 && (((rd_T48 l0 t273).f0.f2) == a1_2 && (((rd_T48 l0 t273).f0.f3) == a1_3)))) && ((((rd_T48 l0 t273).f1.f0) == a1_4 && (((rd_T48 l0 t273).f1.f1) == a1_5))))) else (none)) else (some false))
set_option maxHeartbeats 8000000 in
set_option maxRecDepth 100000 in
theorem spec_l06Has.calls (k : Nat) (A0 : Option Addr) (c0 : Nat) (l0 : List (S48)) (a1_0 : Int) (a1_1 : Int) (a1_2 : Int) (a1_3 : Int) (a1_4 : Int) (a1_5 : Int) (r : Bool) (w : World) (hr0 : Kd.C k48 w A0 l0.length l0) (hc0 : l0.length ≤ c0) (h : spec_l06Has.f k l0 a1_0 a1_1 a1_2 a1_3 a1_4 a1_5 = some r) :
  Calls Tryz.prog 49 #[.slice A0 l0.length c0, .agg #[.int .i64 a1_0, .int .i64 a1_1, .int .i64 a1_2, .int .i64 a1_3, .int .i64 a1_4, .int .i64 a1_5]] w fun e w' => e = .returned (.bool r) ∧ Below w.heap.size w w' := by
 have hu48 := Tryz.underlying48
 have HR0 := Aside0.mk hr0
 have HC0 := Aside0.mk hc0
 clear hr0 hc0
 have HB := asd (Below.refl w.heap.size w)
 have H : ((spec_l06Place.f k l0 a1_0 a1_1 a1_2 a1_3 a1_4 a1_5).bind fun t273 => (if t273 < (l0.length : Int) then (if 0 ≤ t273 then (some ((((rd_T48 l0 t273).f0.f0) == a1_0 && (((rd_T48 l0 t273).f0.f1) == a1_1 && (((rd_T48 l0 t273).f0.f2) == a1_2 && (((rd_T48 l0 t273).f0.f3) == a1_3)))) && ((((rd_T48 l0 t273).f1.f0) == a1_4 && (((rd_T48 l0 t273).f1.f1) == a1_5))))) else (none)) else (some false))) = some r := h
 clear h
 obtain ⟨t273, A3, H⟩ := ob H
 try dsimp only at H
 by_cases c4 : t273 < (l0.length : Int)
 ·rw [if_pos c4] at H
  have c4b0 := decide_eq_true c4
  clear c4
  by_cases c5 : 0 ≤ t273
  ·rw [if_pos c5] at H
   have c5b0 := decide_eq_true c5
   clear c5
   obtain rfl := Option.some.inj H
   go_enter Tryz.func49, Tryz.ntmps49
   go_wp2_with (first | ((with_reducible refine gd 3 rfl ?_); refine bx #[.int .i64 a1_0, .int .i64 a1_1, .int .i64 a1_2, .int .i64 a1_3, .int .i64 a1_4, .int .i64 a1_5] 48 ?_; intro gb272 hg w6 BK272 hb; have GE272 := ngw0 hg HB; replace HB := bS0 HB hb; clear hb hg; obtain ⟨hcz7_0, hcz7_1, hcz7_2, hcz7_3, hcz7_4, hcz7_5, hfz7_0, hfz7_1, hfz7_2, hfz7_3, hfz7_4, hfz7_5⟩ := bz6 BK272) | (go_at_call 80; (with_reducible refine (spec_l06Place.calls _ _ _ _ _ _ _ _ _ _ _ _ ?side1 ?side2 A3.out).mono ?_); (case side1 => exact ks (Kd.C_below HR0.out HB.out)); (case side2 => exact HC0.out); rintro e w8 ⟨rfl, hb⟩; replace BK272 := bB BK272 hb; replace HB := bS1 HB GE272 hb; (try clear hb); obtain ⟨p274, q274, ad274, e274, hx274_0, hx274_1, hx274_2, hx274_3, hx274_4, hx274_5⟩ := at_T48x HR0.out HB t273; cases e274; obtain ⟨hcz9_0, hcz9_1, hcz9_2, hcz9_3, hcz9_4, hcz9_5, hfz9_0, hfz9_1, hfz9_2, hfz9_3, hfz9_4, hfz9_5⟩ := bz6 BK272))
   repeat (go_quiet (first | ((with_reducible refine gd 3 rfl ?_); refine bx #[.int .i64 a1_0, .int .i64 a1_1, .int .i64 a1_2, .int .i64 a1_3, .int .i64 a1_4, .int .i64 a1_5] 48 ?_; intro gb272 hg w6 BK272 hb; have GE272 := ngw0 hg HB; replace HB := bS0 HB hb; clear hb hg; obtain ⟨hcz7_0, hcz7_1, hcz7_2, hcz7_3, hcz7_4, hcz7_5, hfz7_0, hfz7_1, hfz7_2, hfz7_3, hfz7_4, hfz7_5⟩ := bz6 BK272) | (go_at_call 80; (with_reducible refine (spec_l06Place.calls _ _ _ _ _ _ _ _ _ _ _ _ ?side1 ?side2 A3.out).mono ?_); (case side1 => exact ks (Kd.C_below HR0.out HB.out)); (case side2 => exact HC0.out); rintro e w8 ⟨rfl, hb⟩; replace BK272 := bB BK272 hb; replace HB := bS1 HB GE272 hb; (try clear hb); obtain ⟨p274, q274, ad274, e274, hx274_0, hx274_1, hx274_2, hx274_3, hx274_4, hx274_5⟩ := at_T48x HR0.out HB t273; cases e274; obtain ⟨hcz9_0, hcz9_1, hcz9_2, hcz9_3, hcz9_4, hcz9_5, hfz9_0, hfz9_1, hfz9_2, hfz9_3, hfz9_4, hfz9_5⟩ := bz6 BK272)); try go_wp2_with (first | ((with_reducible refine gd 3 rfl ?_); refine bx #[.int .i64 a1_0, .int .i64 a1_1, .int .i64 a1_2, .int .i64 a1_3, .int .i64 a1_4, .int .i64 a1_5] 48 ?_; intro gb272 hg w6 BK272 hb; have GE272 := ngw0 hg HB; replace HB := bS0 HB hb; clear hb hg; obtain ⟨hcz7_0, hcz7_1, hcz7_2, hcz7_3, hcz7_4, hcz7_5, hfz7_0, hfz7_1, hfz7_2, hfz7_3, hfz7_4, hfz7_5⟩ := bz6 BK272) | (go_at_call 80; (with_reducible refine (spec_l06Place.calls _ _ _ _ _ _ _ _ _ _ _ _ ?side1 ?side2 A3.out).mono ?_); (case side1 => exact ks (Kd.C_below HR0.out HB.out)); (case side2 => exact HC0.out); rintro e w8 ⟨rfl, hb⟩; replace BK272 := bB BK272 hb; replace HB := bS1 HB GE272 hb; (try clear hb); obtain ⟨p274, q274, ad274, e274, hx274_0, hx274_1, hx274_2, hx274_3, hx274_4, hx274_5⟩ := at_T48x HR0.out HB t273; cases e274; obtain ⟨hcz9_0, hcz9_1, hcz9_2, hcz9_3, hcz9_4, hcz9_5, hfz9_0, hfz9_1, hfz9_2, hfz9_3, hfz9_4, hfz9_5⟩ := bz6 BK272)))
   go_ret
   exact er (bbw1 HB GE272)
  ·rw [if_neg c5] at H
   exact absurd H (by simp)
 ·rw [if_neg c4] at H
  have c4b0 := decide_eq_false c4
  clear c4
  obtain rfl := Option.some.inj H
  go_enter Tryz.func49, Tryz.ntmps49
  go_wp2_with (first | ((with_reducible refine gd 3 rfl ?_); refine bx #[.int .i64 a1_0, .int .i64 a1_1, .int .i64 a1_2, .int .i64 a1_3, .int .i64 a1_4, .int .i64 a1_5] 48 ?_; intro gb272 hg w10 BK272 hb; have GE272 := ngw0 hg HB; replace HB := bS0 HB hb; clear hb hg; obtain ⟨hcz11_0, hcz11_1, hcz11_2, hcz11_3, hcz11_4, hcz11_5, hfz11_0, hfz11_1, hfz11_2, hfz11_3, hfz11_4, hfz11_5⟩ := bz6 BK272) | (go_at_call 80; (with_reducible refine (spec_l06Place.calls _ _ _ _ _ _ _ _ _ _ _ _ ?side1 ?side2 A3.out).mono ?_); (case side1 => exact ks (Kd.C_below HR0.out HB.out)); (case side2 => exact HC0.out); rintro e w12 ⟨rfl, hb⟩; replace BK272 := bB BK272 hb; replace HB := bS1 HB GE272 hb; (try clear hb)))
  repeat (go_quiet (first | ((with_reducible refine gd 3 rfl ?_); refine bx #[.int .i64 a1_0, .int .i64 a1_1, .int .i64 a1_2, .int .i64 a1_3, .int .i64 a1_4, .int .i64 a1_5] 48 ?_; intro gb272 hg w10 BK272 hb; have GE272 := ngw0 hg HB; replace HB := bS0 HB hb; clear hb hg; obtain ⟨hcz11_0, hcz11_1, hcz11_2, hcz11_3, hcz11_4, hcz11_5, hfz11_0, hfz11_1, hfz11_2, hfz11_3, hfz11_4, hfz11_5⟩ := bz6 BK272) | (go_at_call 80; (with_reducible refine (spec_l06Place.calls _ _ _ _ _ _ _ _ _ _ _ _ ?side1 ?side2 A3.out).mono ?_); (case side1 => exact ks (Kd.C_below HR0.out HB.out)); (case side2 => exact HC0.out); rintro e w12 ⟨rfl, hb⟩; replace BK272 := bB BK272 hb; replace HB := bS1 HB GE272 hb; (try clear hb))); try go_wp2_with (first | ((with_reducible refine gd 3 rfl ?_); refine bx #[.int .i64 a1_0, .int .i64 a1_1, .int .i64 a1_2, .int .i64 a1_3, .int .i64 a1_4, .int .i64 a1_5] 48 ?_; intro gb272 hg w10 BK272 hb; have GE272 := ngw0 hg HB; replace HB := bS0 HB hb; clear hb hg; obtain ⟨hcz11_0, hcz11_1, hcz11_2, hcz11_3, hcz11_4, hcz11_5, hfz11_0, hfz11_1, hfz11_2, hfz11_3, hfz11_4, hfz11_5⟩ := bz6 BK272) | (go_at_call 80; (with_reducible refine (spec_l06Place.calls _ _ _ _ _ _ _ _ _ _ _ _ ?side1 ?side2 A3.out).mono ?_); (case side1 => exact ks (Kd.C_below HR0.out HB.out)); (case side2 => exact HC0.out); rintro e w12 ⟨rfl, hb⟩; replace BK272 := bB BK272 hb; replace HB := bS1 HB GE272 hb; (try clear hb))))
  go_ret
  exact er (bbw1 HB GE272)
/-! ### spec_l02Unit: function 97 -/
def spec_l02Unit.f  : Option (Int × Int × Int × Int) := some (1, 0, 0, 1)
set_option maxHeartbeats 8000000 in
set_option maxRecDepth 100000 in
theorem spec_l02Unit.calls  (r1 : Int) (r2 : Int) (r3 : Int) (r4 : Int) (w : World) (h : spec_l02Unit.f  = some (r1, r2, r3, r4)) :
  Calls Tryz.prog 97 #[] w fun e w' => e = .returned (.agg #[.int .i64 r1, .int .i64 r2, .int .i64 r3, .int .i64 r4]) ∧ Below w.heap.size w w' := by
 have hu46 := Tryz.underlying46
 have HB := asd (Below.refl w.heap.size w)
 have H : (some (1, 0, 0, 1)) = some (r1, r2, r3, r4) := h
 clear h
 simp only [Option.some.injEq, Prod.mk.injEq] at H
 obtain ⟨rfl, rfl, rfl, rfl⟩ := H
 go_enter Tryz.func97, Tryz.ntmps97
 go_wp2_with (first | ((with_reducible refine gd 0 rfl ?_); refine bx #[.int .i64 0, .int .i64 0, .int .i64 0, .int .i64 0] 46 ?_; intro gb275 hg w1 BK275 hb; have GE275 := ngw0 hg HB; replace HB := bS0 HB hb; clear hb hg; obtain ⟨hcz2_0, hcz2_1, hcz2_2, hcz2_3, hfz2_0, hfz2_1, hfz2_2, hfz2_3⟩ := bz4 BK275))
 refine bodyPost_ret (results_cell_row rfl _ _ gb275 46 #[.int .i64 1, .int .i64 0, .int .i64 0, .int .i64 1] (0, 0) _ rfl (bq0 BK275) Tryz.underlying46 rfl (by kernel_rfl)) rfl ?_
 exact er (bbw1 HB GE275)
/-! ### spec_l06Unit: function 64 -/
def spec_l06Unit.f  : Option (Int × Int × Int × Int × Int × Int) := (spec_l02Unit.f).bind fun bt277 => (some (bt277.1, bt277.2.1, bt277.2.2.1, bt277.2.2.2, 0, 0))
set_option maxHeartbeats 8000000 in
set_option maxRecDepth 100000 in
theorem spec_l06Unit.calls  (r1 : Int) (r2 : Int) (r3 : Int) (r4 : Int) (r5 : Int) (r6 : Int) (w : World) (h : spec_l06Unit.f  = some (r1, r2, r3, r4, r5, r6)) :
  Calls Tryz.prog 64 #[] w fun e w' => e = .returned (.agg #[.int .i64 r1, .int .i64 r2, .int .i64 r3, .int .i64 r4, .int .i64 r5, .int .i64 r6]) ∧ Below w.heap.size w w' := by
 have hu48 := Tryz.underlying48
 have HB := asd (Below.refl w.heap.size w)
 have H : ((spec_l02Unit.f).bind fun bt277 => (some (bt277.1, bt277.2.1, bt277.2.2.1, bt277.2.2.2, 0, 0))) = some (r1, r2, r3, r4, r5, r6) := h
 clear h
 obtain ⟨⟨t277, t278, t279, t280⟩, A1, H⟩ := ob H
 try dsimp only at H
 simp only [Option.some.injEq, Prod.mk.injEq] at H
 obtain ⟨rfl, rfl, rfl, rfl, rfl, rfl⟩ := H
 go_enter Tryz.func64, Tryz.ntmps64
 go_wp2_with (first | ((with_reducible refine gd 0 rfl ?_); refine bx #[.int .i64 0, .int .i64 0, .int .i64 0, .int .i64 0, .int .i64 0, .int .i64 0] 48 ?_; intro gb276 hg w2 BK276 hb; have GE276 := ngw0 hg HB; replace HB := bS0 HB hb; clear hb hg) | ((with_reducible refine gate_callee (f := 97) rfl ?_); refine gl 1 Tryz.func97 #[] ?_; (with_reducible refine (spec_l02Unit.calls _ _ _ _ _ A1.out).mono ?_); rintro e w3 ⟨rfl, hb⟩; refine ⟨_, rfl, ?_⟩; replace BK276 := bB BK276 hb; replace HB := bS1 HB GE276 hb; (try clear hb); obtain ⟨hcz4_0, hcz4_1, hcz4_2, hcz4_3, hcz4_4, hcz4_5, hfz4_0, hfz4_1, hfz4_2, hfz4_3, hfz4_4, hfz4_5⟩ := bz6 BK276))
 refine bodyPost_ret (results_cell_row rfl _ _ gb276 48 #[.int .i64 t277, .int .i64 t278, .int .i64 t279, .int .i64 t280, .int .i64 0, .int .i64 0] (0, 0) _ rfl (bq0 BK276) Tryz.underlying48 rfl (by kernel_rfl)) rfl ?_
 exact er (bbw1 HB GE276)
/-! ### spec_l02Multiply: function 98 -/
def spec_l02Multiply.f (a0_0 : Int) (a0_1 : Int) (a0_2 : Int) (a0_3 : Int) (a1_0 : Int) (a1_1 : Int) (a1_2 : Int) (a1_3 : Int) : Option (Int × Int × Int × Int) := some (wrap64 ((wrap64 (a0_0 * a1_0)) + (wrap64 (a0_1 * a1_2))), wrap64 ((wrap64 (a0_0 * a1_1)) + (wrap64 (a0_1 * a1_3))), wrap64 ((wrap64 (a0_2 * a1_0)) + (wrap64 (a0_3 * a1_2))), wrap64 ((wrap64 (a0_2 * a1_1)) + (wrap64 (a0_3 * a1_3))))
set_option maxHeartbeats 8000000 in
set_option maxRecDepth 100000 in
theorem spec_l02Multiply.calls (a0_0 : Int) (a0_1 : Int) (a0_2 : Int) (a0_3 : Int) (a1_0 : Int) (a1_1 : Int) (a1_2 : Int) (a1_3 : Int) (r1 : Int) (r2 : Int) (r3 : Int) (r4 : Int) (w : World) (h : spec_l02Multiply.f a0_0 a0_1 a0_2 a0_3 a1_0 a1_1 a1_2 a1_3 = some (r1, r2, r3, r4)) :
  Calls Tryz.prog 98 #[.agg #[.int .i64 a0_0, .int .i64 a0_1, .int .i64 a0_2, .int .i64 a0_3], .agg #[.int .i64 a1_0, .int .i64 a1_1, .int .i64 a1_2, .int .i64 a1_3]] w fun e w' => e = .returned (.agg #[.int .i64 r1, .int .i64 r2, .int .i64 r3, .int .i64 r4]) ∧ Below w.heap.size w w' := by
 have hu46 := Tryz.underlying46
 have HB := asd (Below.refl w.heap.size w)
 have H : (some (wrap64 ((wrap64 (a0_0 * a1_0)) + (wrap64 (a0_1 * a1_2))), wrap64 ((wrap64 (a0_0 * a1_1)) + (wrap64 (a0_1 * a1_3))), wrap64 ((wrap64 (a0_2 * a1_0)) + (wrap64 (a0_3 * a1_2))), wrap64 ((wrap64 (a0_2 * a1_1)) + (wrap64 (a0_3 * a1_3))))) = some (r1, r2, r3, r4) := h
 clear h
 simp only [Option.some.injEq, Prod.mk.injEq] at H
 obtain ⟨rfl, rfl, rfl, rfl⟩ := H
 go_enter Tryz.func98, Tryz.ntmps98
 go_wp2_with (first | ((with_reducible refine gd 2 rfl ?_); refine bx #[.int .i64 a0_0, .int .i64 a0_1, .int .i64 a0_2, .int .i64 a0_3] 46 ?_; intro gb281 hg w3 BK281 hb; have GE281 := ngw0 hg HB; replace HB := bS0 HB hb; clear hb hg) | ((with_reducible refine gd 3 rfl ?_); refine bx #[.int .i64 a1_0, .int .i64 a1_1, .int .i64 a1_2, .int .i64 a1_3] 46 ?_; intro gb282 hg w4 BK282 hb; have GE282 := ngw1 hg HB GE281; replace HB := bS1 HB GE281 hb; have NB281_282 := nlt hg BK281; have NB282_281 := nsy (nlt hg BK281); replace BK281 := bB BK281 hb; clear hb hg) | ((with_reducible refine gd 4 rfl ?_); refine bx #[.int .i64 0, .int .i64 0, .int .i64 0, .int .i64 0] 46 ?_; intro gb283 hg w5 BK283 hb; have GE283 := ngw2 hg HB GE281 GE282; replace HB := bS2 HB GE281 GE282 hb; have NB281_283 := nlt hg BK281; have NB283_281 := nsy (nlt hg BK281); replace BK281 := bB BK281 hb; have NB282_283 := nlt hg BK282; have NB283_282 := nsy (nlt hg BK282); replace BK282 := bB BK282 hb; clear hb hg; have hnb6 := NB281_282.out; have hnc6 := NB282_281.out; have hnb7 := NB281_283.out; have hnc7 := NB283_281.out; obtain ⟨hcz8_0, hcz8_1, hcz8_2, hcz8_3, hfz8_0, hfz8_1, hfz8_2, hfz8_3⟩ := bz4 BK281; have hnb9 := NB282_283.out; have hnc9 := NB283_282.out; obtain ⟨hcz10_0, hcz10_1, hcz10_2, hcz10_3, hfz10_0, hfz10_1, hfz10_2, hfz10_3⟩ := bz4 BK282; obtain ⟨hcz11_0, hcz11_1, hcz11_2, hcz11_3, hfz11_0, hfz11_1, hfz11_2, hfz11_3⟩ := bz4 BK283))
 refine bodyPost_ret (results_cell_row rfl _ _ gb283 46 #[.int .i64 (wrap64 ((wrap64 (a0_0 * a1_0)) + (wrap64 (a0_1 * a1_2)))), .int .i64 (wrap64 ((wrap64 (a0_0 * a1_1)) + (wrap64 (a0_1 * a1_3)))), .int .i64 (wrap64 ((wrap64 (a0_2 * a1_0)) + (wrap64 (a0_3 * a1_2)))), .int .i64 (wrap64 ((wrap64 (a0_2 * a1_1)) + (wrap64 (a0_3 * a1_3))))] (0, 0) _ rfl (bq0 BK283) Tryz.underlying46 rfl (by kernel_rfl)) rfl ?_
 exact er (bbw3 HB GE281 GE282 GE283)
/-! ### spec_l05Compose: function 65 -/
def spec_l05Compose.f (a0_0 : Int) (a0_1 : Int) (a0_2 : Int) (a0_3 : Int) (a0_4 : Int) (a0_5 : Int) (a1_0 : Int) (a1_1 : Int) (a1_2 : Int) (a1_3 : Int) (a1_4 : Int) (a1_5 : Int) : Option (Int × Int × Int × Int × Int × Int) := (spec_l02Multiply.f a0_0 a0_1 a0_2 a0_3 a1_0 a1_1 a1_2 a1_3).bind fun bt287 => ((spec_l02Apply.f a0_0 a0_1 a0_2 a0_3 a1_4 a1_5).bind fun bt291 => ((spec_l01Add.f bt291.1 bt291.2 a0_4 a0_5).bind fun bt293 => (some (bt287.1, bt287.2.1, bt287.2.2.1, bt287.2.2.2, bt293.1, bt293.2))))
def spec_l05Compose.T1 : Bool × List (List Nat × List Nat) := (true, [([], []), ([0], [0]), ([], []), ([2], [2]), ([1, 3], [1, 3]), ([], []), ([5], [5]), ([], []), ([7], [7]), ([6, 8, 4], [6, 8]), ([], []), ([10], [10]), ([9, 11, 9], [9, 11]), ([4, 12], [4, 12]), ([13, 12, 0, 1, 2, 3, 4, 5, 6, 7, 8, 9, 10, 11, 12, 13], [13])])
def spec_l05Compose.B1 : List Nat := [0, 1, 0, 4, 15, 0, 32, 0, 128, 511, 0, 1024, 4095, 8191, 16383]
theorem spec_l05Compose.tab1 : rtab .any (opsOf Tryz.f65 1) = spec_l05Compose.T1 := by kernel_rfl
theorem spec_l05Compose.bits1 : waitsOk spec_l05Compose.T1.2 spec_l05Compose.B1 = true := by kernel_rfl
set_option maxHeartbeats 8000000 in
set_option maxRecDepth 100000 in
theorem spec_l05Compose.calls (a0_0 : Int) (a0_1 : Int) (a0_2 : Int) (a0_3 : Int) (a0_4 : Int) (a0_5 : Int) (a1_0 : Int) (a1_1 : Int) (a1_2 : Int) (a1_3 : Int) (a1_4 : Int) (a1_5 : Int) (r1 : Int) (r2 : Int) (r3 : Int) (r4 : Int) (r5 : Int) (r6 : Int) (w : World) (h : spec_l05Compose.f a0_0 a0_1 a0_2 a0_3 a0_4 a0_5 a1_0 a1_1 a1_2 a1_3 a1_4 a1_5 = some (r1, r2, r3, r4, r5, r6)) :
  Calls Tryz.prog 65 #[.agg #[.int .i64 a0_0, .int .i64 a0_1, .int .i64 a0_2, .int .i64 a0_3, .int .i64 a0_4, .int .i64 a0_5], .agg #[.int .i64 a1_0, .int .i64 a1_1, .int .i64 a1_2, .int .i64 a1_3, .int .i64 a1_4, .int .i64 a1_5]] w fun e w' => e = .returned (.agg #[.int .i64 r1, .int .i64 r2, .int .i64 r3, .int .i64 r4, .int .i64 r5, .int .i64 r6]) ∧ Below w.heap.size w w' := by
 have hu48 := Tryz.underlying48
 have hu46 := Tryz.underlying46
 have hu38 := Tryz.underlying38
 have HB := asd (Below.refl w.heap.size w)
 have H : ((spec_l02Multiply.f a0_0 a0_1 a0_2 a0_3 a1_0 a1_1 a1_2 a1_3).bind fun bt287 => ((spec_l02Apply.f a0_0 a0_1 a0_2 a0_3 a1_4 a1_5).bind fun bt291 => ((spec_l01Add.f bt291.1 bt291.2 a0_4 a0_5).bind fun bt293 => (some (bt287.1, bt287.2.1, bt287.2.2.1, bt287.2.2.2, bt293.1, bt293.2))))) = some (r1, r2, r3, r4, r5, r6) := h
 clear h
 obtain ⟨⟨t287, t288, t289, t290⟩, A3, H⟩ := ob H
 try dsimp only at H
 obtain ⟨⟨t291, t292⟩, A4, H⟩ := ob H
 try dsimp only at H
 obtain ⟨⟨t293, t294⟩, A5, H⟩ := ob H
 try dsimp only at H
 simp only [Option.some.injEq, Prod.mk.injEq] at H
 obtain ⟨rfl, rfl, rfl, rfl, rfl, rfl⟩ := H
 go_enter Tryz.func65, Tryz.ntmps65
 try go_wp2_with (first | ((with_reducible refine gd 2 rfl ?_); refine bx #[.int .i64 a0_0, .int .i64 a0_1, .int .i64 a0_2, .int .i64 a0_3, .int .i64 a0_4, .int .i64 a0_5] 48 ?_; intro gb284 hg w6 BK284 hb; have GE284 := ngw0 hg HB; replace HB := bS0 HB hb; clear hb hg) | ((with_reducible refine gd 3 rfl ?_); refine bx #[.int .i64 a1_0, .int .i64 a1_1, .int .i64 a1_2, .int .i64 a1_3, .int .i64 a1_4, .int .i64 a1_5] 48 ?_; intro gb285 hg w7 BK285 hb; have GE285 := ngw1 hg HB GE284; replace HB := bS1 HB GE284 hb; have NB284_285 := nlt hg BK284; have NB285_284 := nsy (nlt hg BK284); replace BK284 := bB BK284 hb; clear hb hg) | ((with_reducible refine gd 4 rfl ?_); refine bx #[.int .i64 0, .int .i64 0, .int .i64 0, .int .i64 0, .int .i64 0, .int .i64 0] 48 ?_; intro gb286 hg w8 BK286 hb; have GE286 := ngw2 hg HB GE284 GE285; replace HB := bS2 HB GE284 GE285 hb; have NB284_286 := nlt hg BK284; have NB286_284 := nsy (nlt hg BK284); replace BK284 := bB BK284 hb; have NB285_286 := nlt hg BK285; have NB286_285 := nsy (nlt hg BK285); replace BK285 := bB BK285 hb; clear hb hg))
 replace BK284 := asd (blk_drew BK284.out)
 replace BK285 := asd (blk_drew BK285.out)
 replace BK286 := asd (blk_drew BK286.out)
 replace HB := asd (below_drew1 HB.out)
 refine sh 15 (cb6 BK284 (eb6 BK285)) (fun hHeld => ?_); refine with_tabW spec_l05Compose.tab1 spec_l05Compose.bits1 (fun HT_ HW_ => ?_)
 generalize w8.drew = w9 at BK284 BK285 BK286 HB hHeld ⊢
 refine pu 0 (some 5) (bT 15 1) HT_ ?_
 refine pu 2 (some 7) (bs 15 5) HT_ ?_
 refine pu 5 (some 10) (bs 15 37) HT_ ?_
 refine pu 7 (some 12) (bs 15 165) HT_ ?_
 refine pu 10 (some 15) (bs 15 1189) HT_ ?_
 refine ta 1 (some 6) (bs 15 1191) HT_ HW_ hHeld ?_
 refine ta 3 (some 8) (bs 15 1199) HT_ HW_ hHeld ?_
 refine ta 6 (some 11) (bs 15 1263) HT_ HW_ hHeld ?_
 refine ta 8 (some 13) (bs 15 1519) HT_ HW_ hHeld ?_
 refine ta 11 (some 16) (bs 15 3567) HT_ HW_ hHeld ?_
 refine ro 4 (some 9) (bs 15 3583) HT_ (fun K hK => ?_)
 refine gs Tryz.func98 #[.agg #[.int .i64 a0_0, .int .i64 a0_1, .int .i64 a0_2, .int .i64 a0_3], .agg #[.int .i64 a1_0, .int .i64 a1_1, .int .i64 a1_2, .int .i64 a1_3]] ?_
 with_reducible refine (spec_l02Multiply.calls _ _ _ _ _ _ _ _ _ _ _ _ _ A3.out).mono ?_
 rintro e w10 ⟨rfl, hb⟩
 refine ⟨_, rfl, ?_⟩
 replace BK284 := bB BK284 hb
 replace BK285 := bB BK285 hb
 replace BK286 := bB BK286 hb
 replace HB := bS3 HB GE284 GE285 GE286 hb
 (try clear hb)
 (try clear hb2)
 (try clear hk)
 (try clear hi)
 refine hK.out _ _ (cb6 BK284 (eb6 BK285)).out (fun hHeld => ?_)
 clear hK K
 refine norm_ (a' := ?_) ?_ ?_
 rotate_left
 ·show Act.put _ (some 9) _ = _
  simp only [Act.put, sA, sB, sC, i64_w, i32_w]
  rfl
 refine ro 9 (some 14) (bT 15 12) HT_ (fun K hK => ?_)
 refine gs Tryz.func43 #[.agg #[.int .i64 a0_0, .int .i64 a0_1, .int .i64 a0_2, .int .i64 a0_3], .agg #[.int .i64 a1_4, .int .i64 a1_5]] ?_
 with_reducible refine (spec_l02Apply.calls _ _ _ _ _ _ _ _ _ A4.out).mono ?_
 rintro e w11 ⟨rfl, hb⟩
 refine ⟨_, rfl, ?_⟩
 replace BK284 := bB BK284 hb
 replace BK285 := bB BK285 hb
 replace BK286 := bB BK286 hb
 replace HB := bS3 HB GE284 GE285 GE286 hb
 (try clear hb)
 (try clear hb2)
 (try clear hk)
 (try clear hi)
 refine hK.out _ _ (cb6 BK284 (eb6 BK285)).out (fun hHeld => ?_)
 clear hK K
 refine norm_ (a' := ?_) ?_ ?_
 rotate_left
 ·show Act.put _ (some 14) _ = _
  simp only [Act.put, sA, sB, sC, i64_w, i32_w]
  rfl
 refine ro 12 (some 17) (bT 15 13) HT_ (fun K hK => ?_)
 refine gs Tryz.func41 #[.agg #[.int .i64 t291, .int .i64 t292], .agg #[.int .i64 a0_4, .int .i64 a0_5]] ?_
 with_reducible refine (spec_l01Add.calls _ _ _ _ _ _ _ A5.out).mono ?_
 rintro e w12 ⟨rfl, hb⟩
 refine ⟨_, rfl, ?_⟩
 replace BK284 := bB BK284 hb
 replace BK285 := bB BK285 hb
 replace BK286 := bB BK286 hb
 replace HB := bS3 HB GE284 GE285 GE286 hb
 (try clear hb)
 (try clear hb2)
 (try clear hk)
 (try clear hi)
 refine hK.out _ _ (cb6 BK284 (eb6 BK285)).out (fun hHeld => ?_)
 clear hK K
 refine norm_ (a' := ?_) ?_ ?_
 rotate_left
 ·show Act.put _ (some 17) _ = _
  simp only [Act.put, sA, sB, sC, i64_w, i32_w]
  rfl
 refine pu 13 (some 18) (bT 15 14) HT_ ?_
 refine ro 14 (none) (bT 15 15) HT_ (fun K hK => ?_)
 have hs13 : w12.cell? ⟨gb286, 0, none⟩ = some (.int .i64 0) := bcl BK286 0
 have hfs13 := blk_frozen BK286.out 0
 have hns13_0 := NB284_286.out
 have hns13_1 := NB285_286.out
 have hms13_0 := NB286_284.out
 have hms13_1 := NB286_285.out
 have hs14 : w12.cell? ⟨gb286, 1, none⟩ = some (.int .i64 0) := bcl BK286 1
 have hfs14 := blk_frozen BK286.out 1
 have hns14_0 := NB284_286.out
 have hns14_1 := NB285_286.out
 have hms14_0 := NB286_284.out
 have hms14_1 := NB286_285.out
 have hs15 : w12.cell? ⟨gb286, 2, none⟩ = some (.int .i64 0) := bcl BK286 2
 have hfs15 := blk_frozen BK286.out 2
 have hns15_0 := NB284_286.out
 have hns15_1 := NB285_286.out
 have hms15_0 := NB286_284.out
 have hms15_1 := NB286_285.out
 have hs16 : w12.cell? ⟨gb286, 3, none⟩ = some (.int .i64 0) := bcl BK286 3
 have hfs16 := blk_frozen BK286.out 3
 have hns16_0 := NB284_286.out
 have hns16_1 := NB285_286.out
 have hms16_0 := NB286_284.out
 have hms16_1 := NB286_285.out
 have hs17 : w12.cell? ⟨gb286, 4, none⟩ = some (.int .i64 0) := bcl BK286 4
 have hfs17 := blk_frozen BK286.out 4
 have hns17_0 := NB284_286.out
 have hns17_1 := NB285_286.out
 have hms17_0 := NB286_284.out
 have hms17_1 := NB286_285.out
 have hs18 : w12.cell? ⟨gb286, 5, none⟩ = some (.int .i64 0) := bcl BK286 5
 have hfs18 := blk_frozen BK286.out 5
 have hns18_0 := NB284_286.out
 have hns18_1 := NB285_286.out
 have hms18_0 := NB286_284.out
 have hms18_1 := NB286_285.out
 refine skip_ (w1 := ?_) (by rfl) rfl ?_ ?_
 rotate_left
 ·go_simp
  rfl
 refine hK.out _ _ ⟨(cf NB284_286 ((cf NB284_286 ((cf NB284_286 ((cf NB284_286 ((cf NB284_286 ((cf NB284_286 (hHeld.1)))))))))))), (cf NB284_286 ((cf NB284_286 ((cf NB284_286 ((cf NB284_286 ((cf NB284_286 ((cf NB284_286 (hHeld.2.1)))))))))))), (cf NB284_286 ((cf NB284_286 ((cf NB284_286 ((cf NB284_286 ((cf NB284_286 ((cf NB284_286 (hHeld.2.2.1)))))))))))), (cf NB284_286 ((cf NB284_286 ((cf NB284_286 ((cf NB284_286 ((cf NB284_286 ((cf NB284_286 (hHeld.2.2.2.1)))))))))))), (cf NB284_286 ((cf NB284_286 ((cf NB284_286 ((cf NB284_286 ((cf NB284_286 ((cf NB284_286 (hHeld.2.2.2.2.1)))))))))))), (cf NB284_286 ((cf NB284_286 ((cf NB284_286 ((cf NB284_286 ((cf NB284_286 ((cf NB284_286 (hHeld.2.2.2.2.2.1)))))))))))), (cf NB285_286 ((cf NB285_286 ((cf NB285_286 ((cf NB285_286 ((cf NB285_286 ((cf NB285_286 (hHeld.2.2.2.2.2.2.1)))))))))))), (cf NB285_286 ((cf NB285_286 ((cf NB285_286 ((cf NB285_286 ((cf NB285_286 ((cf NB285_286 (hHeld.2.2.2.2.2.2.2.1)))))))))))), (cf NB285_286 ((cf NB285_286 ((cf NB285_286 ((cf NB285_286 ((cf NB285_286 ((cf NB285_286 (hHeld.2.2.2.2.2.2.2.2.1)))))))))))), (cf NB285_286 ((cf NB285_286 ((cf NB285_286 ((cf NB285_286 ((cf NB285_286 ((cf NB285_286 (hHeld.2.2.2.2.2.2.2.2.2.1)))))))))))), (cf NB285_286 ((cf NB285_286 ((cf NB285_286 ((cf NB285_286 ((cf NB285_286 ((cf NB285_286 (hHeld.2.2.2.2.2.2.2.2.2.2.1)))))))))))), (cf NB285_286 ((cf NB285_286 ((cf NB285_286 ((cf NB285_286 ((cf NB285_286 ((cf NB285_286 (hHeld.2.2.2.2.2.2.2.2.2.2.2))))))))))))⟩ (fun hHeld => ?_)
 clear hK K
 refine done_ (done_of HT_.out (by kernel_rfl)) ?_
 try go_wp2
 refine bodyPost_ret (results_cell_row rfl _ _ gb286 48 #[.int .i64 t287, .int .i64 t288, .int .i64 t289, .int .i64 t290, .int .i64 t293, .int .i64 t294] (0, 0) _ rfl (bq0 BK286) Tryz.underlying48 rfl (by kernel_rfl)) rfl ?_
 exact er (bbw3 HB GE284 GE285 GE286)

end Go.Proofs.YtdodghjnlekgeaaGreat.PA
