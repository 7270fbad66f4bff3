/- Walks written by program: each Go function that the law reaches comes to the plain function beside it. -/
import Derived.Test.YtcchmdodifkloaaPAx0
import Derived.Test.YtcchmdodifkloaaPAx2
import Derived.Test.YtcchmdodifkloaaPAx4
import Derived.Test.YtcchmdodifkloaaPAx5
namespace Go.Proofs.Ytcchmdodifkloaa.PA
open Go.RowKit Go.Proofs.YtcchmdodifkloaaW.PrintWords Go.Proofs.YtcchmdodifkloaaW.PrintLast Go.Proofs.YtcchmdodifkloaaW.PrintMore
attribute [local go_sem] max2_int min2_int max_two min_two max_three min_three max_four min_four   -- for this text's walks alone
set_option linter.unusedVariables false
set_option linter.unusedSimpArgs false

attribute [local go_sem high] eqA51
/-! ### spec_l05Less: function 59 -/
def spec_l05Less.f (k : Nat) (a0_0 : Int) (a0_1 : Int) (a0_2 : Int) (a0_3 : Int) (a0_4 : Int) (a0_5 : Int) (a1_0 : Int) (a1_1 : Int) (a1_2 : Int) (a1_3 : Int) (a1_4 : Int) (a1_5 : Int) : Option (Bool) := if (!(a0_0 == a1_0) || (!(a0_1 == a1_1) || (!(a0_2 == a1_2) || (!(a0_3 == a1_3))))) = true then ((spec_l02Less.f k a0_0 a0_1 a0_2 a0_3 a1_0 a1_1 a1_2 a1_3).bind fun t168 => (some t168)) else ((spec_l01Less.f a0_4 a0_5 a1_4 a1_5).bind fun t169 => (some t169))
set_option maxHeartbeats 8000000 in
set_option maxRecDepth 100000 in
theorem spec_l05Less.calls (k : Nat) (a0_0 : Int) (a0_1 : Int) (a0_2 : Int) (a0_3 : Int) (a0_4 : Int) (a0_5 : Int) (a1_0 : Int) (a1_1 : Int) (a1_2 : Int) (a1_3 : Int) (a1_4 : Int) (a1_5 : Int) (r : Bool) (w : World) (h : spec_l05Less.f k a0_0 a0_1 a0_2 a0_3 a0_4 a0_5 a1_0 a1_1 a1_2 a1_3 a1_4 a1_5 = some r) :
  Calls Try.prog 59 #[.agg #[.int .i64 a0_0, .int .i64 a0_1, .int .i64 a0_2, .int .i64 a0_3, .int .i64 a0_4, .int .i64 a0_5], .agg #[.int .i64 a1_0, .int .i64 a1_1, .int .i64 a1_2, .int .i64 a1_3, .int .i64 a1_4, .int .i64 a1_5]] w fun e w' => e = .returned (.bool r) ∧ Below w.heap.size w w' := by
 have hu55 := Try.underlying55
 have hu51 := Try.underlying51
 have hu53 := Try.underlying53
 have HB := Aside0.mk (Below.refl w.heap.size w)
 have H : (if (!(a0_0 == a1_0) || (!(a0_1 == a1_1) || (!(a0_2 == a1_2) || (!(a0_3 == a1_3))))) = true then ((spec_l02Less.f k a0_0 a0_1 a0_2 a0_3 a1_0 a1_1 a1_2 a1_3).bind fun t168 => (some t168)) else ((spec_l01Less.f a0_4 a0_5 a1_4 a1_5).bind fun t169 => (some t169))) = some r := h
 clear h
 by_cases c3 : (!(a0_0 == a1_0) || (!(a0_1 == a1_1) || (!(a0_2 == a1_2) || (!(a0_3 == a1_3))))) = true
 ·rw [if_pos c3] at H
  have c3b0 : (!(a0_0 == a1_0) || (!(a0_1 == a1_1) || (!(a0_2 == a1_2) || (!(a0_3 == a1_3))))) = true := c3
  clear c3
  replace H := Option.bind_eq_some_iff.mp H
  obtain ⟨t168, A40, H⟩ := H
  replace H : (some t168) = some r := H
  have A4 := Aside0.mk A40
  clear A40
  obtain rfl := Option.some.inj H
  go_enter Try.func59, Try.ntmps59
  go_wp2_with (first | ((with_reducible refine gd 2 rfl ?_); refine be #[.int .i64 a0_0, .int .i64 a0_1, .int .i64 a0_2, .int .i64 a0_3, .int .i64 a0_4, .int .i64 a0_5] 55 ?_; intro gb166 hg w5 hbox hb; have BK166 := Aside0.mk (hbox); have GW166 := ngw0 hg HB; have GE166 := ngw0 hg HB; replace HB := Aside0.mk (bst0 HB hb); clear hb hbox hg) | ((with_reducible refine gd 3 rfl ?_); refine be #[.int .i64 a1_0, .int .i64 a1_1, .int .i64 a1_2, .int .i64 a1_3, .int .i64 a1_4, .int .i64 a1_5] 55 ?_; intro gb167 hg w6 hbox hb; have BK167 := Aside0.mk (hbox); have GW167 := ngw1 hg HB GE166; have GE167 := ngw1 hg HB GE166; replace HB := Aside0.mk (bst1 HB GE166 hb); have NB166_167 := nlt hg BK166; have NB167_166 := nsy (nlt hg BK166); replace BK166 := Aside0.mk (bbl BK166 hb); clear hb hbox hg; have hnb7 := NB166_167.out; have hnc7 := NB167_166.out; obtain ⟨hcz8_0, hcz8_1, hcz8_2, hcz8_3, hcz8_4, hcz8_5, hfz8_0, hfz8_1, hfz8_2, hfz8_3, hfz8_4, hfz8_5⟩ := bz6 BK166; obtain ⟨hcz9_0, hcz9_1, hcz9_2, hcz9_3, hcz9_4, hcz9_5, hfz9_0, hfz9_1, hfz9_2, hfz9_3, hfz9_4, hfz9_5⟩ := bz6 BK167) | ((with_reducible refine gate_callee (f := 91) rfl ?_); refine gl 14 Try.func91 #[.agg #[.int .i64 a0_0, .int .i64 a0_1, .int .i64 a0_2, .int .i64 a0_3], .agg #[.int .i64 a1_0, .int .i64 a1_1, .int .i64 a1_2, .int .i64 a1_3]] ?_; (with_reducible refine (spec_l02Less.calls k a0_0 a0_1 a0_2 a0_3 a1_0 a1_1 a1_2 a1_3 t168 _ A4.out).mono ?_); rintro e w10 ⟨rfl, hb⟩; refine ⟨_, rfl, ?_⟩; replace BK166 := Aside0.mk (bbl BK166 hb); replace BK167 := Aside0.mk (bbl BK167 hb); replace HB := Aside0.mk (bst2 HB GE166 GE167 hb); (try clear hb); (try clear hb2); (try clear hk); (try clear hi)))
  go_ret
  exact ⟨by first | rfl | (simp [errW_none, errW_some] <;> rfl) | (simp [*, errW_none, errW_some] <;> rfl), bbw2 HB GE166 GE167⟩
 ·rw [if_neg c3] at H
  have c3b0 : (!(a0_0 == a1_0) || (!(a0_1 == a1_1) || (!(a0_2 == a1_2) || (!(a0_3 == a1_3))))) = false := by simpa using c3
  clear c3
  replace H := Option.bind_eq_some_iff.mp H
  obtain ⟨t169, A110, H⟩ := H
  replace H : (some t169) = some r := H
  have A11 := Aside0.mk A110
  clear A110
  obtain rfl := Option.some.inj H
  go_enter Try.func59, Try.ntmps59
  go_wp2_with (first | ((with_reducible refine gd 2 rfl ?_); refine be #[.int .i64 a0_0, .int .i64 a0_1, .int .i64 a0_2, .int .i64 a0_3, .int .i64 a0_4, .int .i64 a0_5] 55 ?_; intro gb166 hg w12 hbox hb; have BK166 := Aside0.mk (hbox); have GW166 := ngw0 hg HB; have GE166 := ngw0 hg HB; replace HB := Aside0.mk (bst0 HB hb); clear hb hbox hg) | ((with_reducible refine gd 3 rfl ?_); refine be #[.int .i64 a1_0, .int .i64 a1_1, .int .i64 a1_2, .int .i64 a1_3, .int .i64 a1_4, .int .i64 a1_5] 55 ?_; intro gb167 hg w13 hbox hb; have BK167 := Aside0.mk (hbox); have GW167 := ngw1 hg HB GE166; have GE167 := ngw1 hg HB GE166; replace HB := Aside0.mk (bst1 HB GE166 hb); have NB166_167 := nlt hg BK166; have NB167_166 := nsy (nlt hg BK166); replace BK166 := Aside0.mk (bbl BK166 hb); clear hb hbox hg; have hnb14 := NB166_167.out; have hnc14 := NB167_166.out; obtain ⟨hcz15_0, hcz15_1, hcz15_2, hcz15_3, hcz15_4, hcz15_5, hfz15_0, hfz15_1, hfz15_2, hfz15_3, hfz15_4, hfz15_5⟩ := bz6 BK166; obtain ⟨hcz16_0, hcz16_1, hcz16_2, hcz16_3, hcz16_4, hcz16_5, hfz16_0, hfz16_1, hfz16_2, hfz16_3, hfz16_4, hfz16_5⟩ := bz6 BK167) | ((with_reducible refine gate_callee (f := 92) rfl ?_); refine gl 19 Try.func92 #[.agg #[.int .i64 a0_4, .int .i64 a0_5], .agg #[.int .i64 a1_4, .int .i64 a1_5]] ?_; (with_reducible refine (spec_l01Less.calls a0_4 a0_5 a1_4 a1_5 t169 _ A11.out).mono ?_); rintro e w17 ⟨rfl, hb⟩; refine ⟨_, rfl, ?_⟩; replace BK166 := Aside0.mk (bbl BK166 hb); replace BK167 := Aside0.mk (bbl BK167 hb); replace HB := Aside0.mk (bst2 HB GE166 GE167 hb); (try clear hb); (try clear hb2); (try clear hk); (try clear hi)))
  go_ret
  exact ⟨by first | rfl | (simp [errW_none, errW_some] <;> rfl) | (simp [*, errW_none, errW_some] <;> rfl), bbw2 HB GE166 GE167⟩

attribute [local go_sem high] eqA55
/-! ### spec_l06Place: function 76 -/
def spec_l06Place.l0 : Nat → List (S55) → Int → Int → Int → Int → Int → Int → Int → Int → Option (Int)
 | 0, _, _, _, _, _, _, _, _, _ => none
 | k + 1, x0, x5, x6, x171000, x171001, x171002, x171003, x171004, x171005 => if x5 < x6 then (if 0 ≤ (wrap64 (Int.tdiv (wrap64 (x5 + x6)) 2)) then (if (wrap64 (Int.tdiv (wrap64 (x5 + x6)) 2)) < (x0.length : Int) then ((spec_l05Less.f k ((rd_T55 x0 (wrap64 (Int.tdiv (wrap64 (x5 + x6)) 2))).f0.f0) ((rd_T55 x0 (wrap64 (Int.tdiv (wrap64 (x5 + x6)) 2))).f0.f1) ((rd_T55 x0 (wrap64 (Int.tdiv (wrap64 (x5 + x6)) 2))).f0.f2) ((rd_T55 x0 (wrap64 (Int.tdiv (wrap64 (x5 + x6)) 2))).f0.f3) ((rd_T55 x0 (wrap64 (Int.tdiv (wrap64 (x5 + x6)) 2))).f1.f0) ((rd_T55 x0 (wrap64 (Int.tdiv (wrap64 (x5 + x6)) 2))).f1.f1) x171000 x171001 x171002 x171003 x171004 x171005).bind fun t172 => (if t172 = true then (spec_l06Place.l0 k x0 (wrap64 ((wrap64 (Int.tdiv (wrap64 (x5 + x6)) 2)) + 1)) x6 x171000 x171001 x171002 x171003 x171004 x171005) else (spec_l06Place.l0 k x0 x5 (wrap64 (Int.tdiv (wrap64 (x5 + x6)) 2)) x171000 x171001 x171002 x171003 x171004 x171005))) else (none)) else (none)) else (some x5)
def spec_l06Place.f (k : Nat) (l0 : List (S55)) (a1_0 : Int) (a1_1 : Int) (a1_2 : Int) (a1_3 : Int) (a1_4 : Int) (a1_5 : Int) : Option (Int) := spec_l06Place.l0 k l0 0 (l0.length : Int) a1_0 a1_1 a1_2 a1_3 a1_4 a1_5
set_option maxHeartbeats 8000000 in
set_option maxRecDepth 100000 in
theorem spec_l06Place.calls (k : Nat) (A0 : Option Addr) (c0 : Nat) (l0 : List (S55)) (a1_0 : Int) (a1_1 : Int) (a1_2 : Int) (a1_3 : Int) (a1_4 : Int) (a1_5 : Int) (r : Int) (w : World) (hr0 : Kd.C k55 w A0 l0.length l0) (hc0 : l0.length ≤ c0) (h : spec_l06Place.f k l0 a1_0 a1_1 a1_2 a1_3 a1_4 a1_5 = some r) :
  Calls Try.prog 76 #[.slice A0 l0.length c0, .agg #[.int .i64 a1_0, .int .i64 a1_1, .int .i64 a1_2, .int .i64 a1_3, .int .i64 a1_4, .int .i64 a1_5]] w fun e w' => e = .returned (.int .i64 r) ∧ Below w.heap.size w w' := by
 have hu55 := Try.underlying55
 have HR0 := Aside0.mk hr0
 have HC0 := Aside0.mk hc0
 clear hr0 hc0
 have HB := Aside0.mk (Below.refl w.heap.size w)
 have H : (spec_l06Place.l0 k l0 0 (l0.length : Int) a1_0 a1_1 a1_2 a1_3 a1_4 a1_5) = some r := h
 clear h
 have H' := Aside0.mk H
 clear H
 go_enter Try.func76, Try.ntmps76
 go_wp2_with (first | ((with_reducible refine gd 3 rfl ?_); refine be #[.int .i64 a1_0, .int .i64 a1_1, .int .i64 a1_2, .int .i64 a1_3, .int .i64 a1_4, .int .i64 a1_5] 55 ?_; intro gb170 hg w3 hbox hb; have BK170 := Aside0.mk (hbox); have GW170 := ngw0 hg HB; have GE170 := ngw0 hg HB; replace HB := Aside0.mk (bst0 HB hb); clear hb hbox hg))
 go_loopg [5, 6] k (fun kq v5 v6 w' => ∃ (x5_1 : Int) (x6_1 : Int), v5 = .int .i64 x5_1 ∧ v6 = .int .i64 x6_1 ∧ Aside0 (spec_l06Place.l0 kq l0 x5_1 x6_1 a1_0 a1_1 a1_2 a1_3 a1_4 a1_5 = some r) ∧ Aside0 (kq ≤ k) ∧ Aside0 (w'.heap[gb170]? = some (.cells #[.int .i64 a1_0, .int .i64 a1_1, .int .i64 a1_2, .int .i64 a1_3, .int .i64 a1_4, .int .i64 a1_5] 55 (0, 0))) ∧ Aside0 (Below w.heap.size w w'))
 case atStart => exact ⟨(0), ((l0.length : Int)), (by first | rfl | (simp; done) | (simp [*]; done)), (by first | rfl | (simp; done) | (simp [*]; done)), H', ⟨Nat.le_refl _⟩, ⟨bkp BK170⟩, ⟨bbw1 HB GE170⟩⟩
 case round =>
  clear H'
  try clear p2
  obtain ⟨x5_1, x6_1, rfl, rfl, HA, HK1, BK170, HB⟩ := hrel
  cases gk with
  | zero => exact absurd HA.out (by simp [spec_l06Place.l0])
  | succ k1 =>
   have H := HA.out
   clear HA
   simp only [spec_l06Place.l0] at H
   by_cases c4 : x5_1 < x6_1
   ·rw [if_pos c4] at H
    have c4b0 : decide (x5_1 < x6_1) = true := decide_eq_true c4
    clear c4
    obtain ⟨ji5, hji5⟩ : ∃ j_ : Int, (wrap64 (Int.tdiv (wrap64 (x5_1 + x6_1)) 2)) = j_ := ⟨_, rfl⟩
    replace H : (if 0 ≤ (ji5) then (if (ji5) < (l0.length : Int) then ((spec_l05Less.f k1 ((rd_T55 l0 (ji5)).f0.f0) ((rd_T55 l0 (ji5)).f0.f1) ((rd_T55 l0 (ji5)).f0.f2) ((rd_T55 l0 (ji5)).f0.f3) ((rd_T55 l0 (ji5)).f1.f0) ((rd_T55 l0 (ji5)).f1.f1) a1_0 a1_1 a1_2 a1_3 a1_4 a1_5).bind fun t172 => (if t172 = true then (spec_l06Place.l0 k1 l0 (wrap64 ((ji5) + 1)) x6_1 a1_0 a1_1 a1_2 a1_3 a1_4 a1_5) else (spec_l06Place.l0 k1 l0 x5_1 ji5 a1_0 a1_1 a1_2 a1_3 a1_4 a1_5))) else (none)) else (none)) = some r := by first | (rw [hji5] at H; first | done | exact H) | (simp only [hji5] at H ⊢; exact H)
    have hji5w : (IntKind.i64.wrap (Int.tdiv (wrap64 (x5_1 + x6_1)) 2)) = ji5 := (i64_w _).trans hji5
    by_cases c6 : 0 ≤ (ji5)
    ·rw [if_pos c6] at H
     have c6b0 : decide (0 ≤ (ji5)) = true := decide_eq_true c6
     clear c6
     by_cases c7 : (ji5) < (l0.length : Int)
     ·rw [if_pos c7] at H
      have c7b0 : decide ((ji5) < (l0.length : Int)) = true := decide_eq_true c7
      clear c7
      replace H := Option.bind_eq_some_iff.mp H
      obtain ⟨t172, A80, H⟩ := H
      replace H : (if t172 = true then (spec_l06Place.l0 k1 l0 (wrap64 ((ji5) + 1)) x6_1 a1_0 a1_1 a1_2 a1_3 a1_4 a1_5) else (spec_l06Place.l0 k1 l0 x5_1 ji5 a1_0 a1_1 a1_2 a1_3 a1_4 a1_5)) = some r := H
      have A8 := Aside0.mk A80
      clear A80
      by_cases c9 : t172 = true
      ·subst c9
       have H1 : (spec_l06Place.l0 k1 l0 (wrap64 ((ji5) + 1)) x6_1 a1_0 a1_1 a1_2 a1_3 a1_4 a1_5) = some r := by rw [if_pos rfl] at H; first | done | exact H
       clear H
       have H := H1
       clear H1
       have H' := Aside0.mk H
       clear H
       try go_wp2
       replace BK170 := Aside0.mk (blk_drew BK170.out)
       replace HB := Aside0.mk (below_drew1 HB.out)
       have p171 : 0 ≤ ((ji5) : Int) := od
       have q171 : (ji5) < (l0.length : Int) := od
       obtain ⟨ad171, e171, hx171_0, hx171_1, hx171_2, hx171_3, hx171_4, hx171_5⟩ := at_T55 HR0.out (ji5) p171 q171
       have hw171_5 := hx171_5
       have hw171_4 := hx171_4
       have hw171_3 := hx171_3
       have hw171_2 := hx171_2
       have hw171_1 := hx171_1
       have hw171_0 := hx171_0
       cases e171
       replace hx171_0 := xb HB hx171_0
       replace hx171_1 := xb HB hx171_1
       replace hx171_2 := xb HB hx171_2
       replace hx171_3 := xb HB hx171_3
       replace hx171_4 := xb HB hx171_4
       replace hx171_5 := xb HB hx171_5
       replace p171 := eq_true p171
       replace q171 := eq_true q171
       refine start_ (n := 6) (S := fun w' => w'.cell? ⟨gb170, 0, none⟩ = some (.int .i64 a1_0) ∧ w'.cell? ⟨gb170, 1, none⟩ = some (.int .i64 a1_1) ∧ w'.cell? ⟨gb170, 2, none⟩ = some (.int .i64 a1_2) ∧ w'.cell? ⟨gb170, 3, none⟩ = some (.int .i64 a1_3) ∧ w'.cell? ⟨gb170, 4, none⟩ = some (.int .i64 a1_4) ∧ w'.cell? ⟨gb170, 5, none⟩ = some (.int .i64 a1_5) ∧ w'.cell? (ad171.add (((ji5)).toNat * 6)) = some (.int .i64 ((rd_T55 l0 (ji5)).f0.f0)) ∧ w'.cell? ⟨(ad171.add (((ji5)).toNat * 6)).block, (ad171.add (((ji5)).toNat * 6)).off + 1, none⟩ = some (.int .i64 ((rd_T55 l0 (ji5)).f0.f1)) ∧ w'.cell? ⟨(ad171.add (((ji5)).toNat * 6)).block, (ad171.add (((ji5)).toNat * 6)).off + 2, none⟩ = some (.int .i64 ((rd_T55 l0 (ji5)).f0.f2)) ∧ w'.cell? ⟨(ad171.add (((ji5)).toNat * 6)).block, (ad171.add (((ji5)).toNat * 6)).off + 3, none⟩ = some (.int .i64 ((rd_T55 l0 (ji5)).f0.f3)) ∧ w'.cell? ⟨(ad171.add (((ji5)).toNat * 6)).block, (ad171.add (((ji5)).toNat * 6)).off + 4, none⟩ = some (.int .i64 ((rd_T55 l0 (ji5)).f1.f0)) ∧ w'.cell? ⟨(ad171.add (((ji5)).toNat * 6)).block, (ad171.add (((ji5)).toNat * 6)).off + 5, none⟩ = some (.int .i64 ((rd_T55 l0 (ji5)).f1.f1))) (ds := []) (bt 6 0) (by kernel_rfl) rfl rfl ⟨bcl BK170 0, bcl BK170 1, bcl BK170 2, bcl BK170 3, bcl BK170 4, bcl BK170 5, (xb HB hw171_0), (xb HB hw171_1), (xb HB hw171_2), (xb HB hw171_3), (xb HB hw171_4), (xb HB hw171_5)⟩ (fun hHeld => ?_)
       generalize wr.drew = w10 at BK170 HB hx171_0 hx171_1 hx171_2 hx171_3 hx171_4 hx171_5 hHeld ⊢
       refine pure_ (i := 0) (N := some 17) (v := ?_) (a' := ?_) (bt 6 1) rfl rfl (by kernel_rfl) (fun _ _ _ h => h) (Or.inl ⟨by rfl, ?_⟩) ?_ ?_
       rotate_left
       ·intro w'
        go_simp
        with_reducible rfl
       rotate_left
       ·simp only [Act.put, sA, sB, sC, i64_w, i32_w]
        rfl
       refine pure_ (i := 1) (N := some 18) (v := ?_) (a' := ?_) (bt 6 2) rfl rfl (by kernel_rfl) (fun _ _ _ h => h) (Or.inl ⟨by rfl, ?_⟩) ?_ ?_
       rotate_left
       ·intro w'
        go_simp
        with_reducible rfl
       rotate_left
       ·simp only [Act.put, sA, sB, sC, i64_w, i32_w]
        rfl
       refine pure_ (i := 2) (N := some 19) (v := ?_) (a' := ?_) (bt 6 3) rfl rfl (by kernel_rfl) (fun _ _ _ h => h) (Or.inl ⟨by rfl, ?_⟩) ?_ ?_
       rotate_left
       ·intro w'
        go_simp
        with_reducible rfl
       rotate_left
       ·simp only [Act.put, sA, sB, sC, i64_w, i32_w]
        rfl
       refine take_ (i := 3) (N := some 20) (v := ?_) (a' := ?_) (bt 6 4) rfl rfl (by kernel_rfl) (fun _ _ _ h => h) (Or.inl ⟨by rfl, ?_⟩) hHeld ?_ ?_
       rotate_left
       ·rintro w' ⟨s0, s1, s2, s3, s4, s5, s6, s7, s8, s9, s10, s11⟩
        go_simp
        with_reducible rfl
       rotate_left
       ·simp only [Act.put, sA, sB, sC, i64_w, i32_w]
        rfl
       refine take_ (i := 4) (N := some 21) (v := ?_) (a' := ?_) (bt 6 5) rfl rfl (by kernel_rfl) (fun _ _ _ h => h) (Or.inl ⟨by rfl, ?_⟩) hHeld ?_ ?_
       rotate_left
       ·rintro w' ⟨s0, s1, s2, s3, s4, s5, s6, s7, s8, s9, s10, s11⟩
        go_simp
        with_reducible rfl
       rotate_left
       ·simp only [Act.put, sA, sB, sC, i64_w, i32_w]
        rfl
       refine one_ (i := 5) (N := some 22) (bt 6 6) rfl rfl (by kernel_rfl) (by decide) (fun K hK => ?_)
       refine goes_ Try.func59 (by kernel_rfl) rfl #[.agg #[.int .i64 ((rd_T55 l0 (ji5)).f0.f0), .int .i64 ((rd_T55 l0 (ji5)).f0.f1), .int .i64 ((rd_T55 l0 (ji5)).f0.f2), .int .i64 ((rd_T55 l0 (ji5)).f0.f3), .int .i64 ((rd_T55 l0 (ji5)).f1.f0), .int .i64 ((rd_T55 l0 (ji5)).f1.f1)], .agg #[.int .i64 a1_0, .int .i64 a1_1, .int .i64 a1_2, .int .i64 a1_3, .int .i64 a1_4, .int .i64 a1_5]] (by rfl) rfl rfl (by (try simp only [List.map_toArray, List.map_cons, List.map_nil]); first | done | (simp only [hji5]; rfl) | rfl | (simp only [List.length_drop, List.length_take]; rfl)) ?_
       with_reducible refine (spec_l05Less.calls k1 ((rd_T55 l0 (ji5)).f0.f0) ((rd_T55 l0 (ji5)).f0.f1) ((rd_T55 l0 (ji5)).f0.f2) ((rd_T55 l0 (ji5)).f0.f3) ((rd_T55 l0 (ji5)).f1.f0) ((rd_T55 l0 (ji5)).f1.f1) a1_0 a1_1 a1_2 a1_3 a1_4 a1_5 true _ A8.out).mono ?_
       rintro e w11 ⟨rfl, hb⟩
       refine ⟨_, rfl, ?_⟩
       replace BK170 := Aside0.mk (bbl BK170 hb)
       replace HB := Aside0.mk (bst1 HB GE170 hb)
       (try clear hb)
       (try clear hb2)
       (try clear hk)
       (try clear hi)
       refine hK.out _ _ ⟨bcl BK170 0, bcl BK170 1, bcl BK170 2, bcl BK170 3, bcl BK170 4, bcl BK170 5, (xb HB hw171_0), (xb HB hw171_1), (xb HB hw171_2), (xb HB hw171_3), (xb HB hw171_4), (xb HB hw171_5)⟩ (fun hHeld => ?_)
       clear hK K
       refine norm_ (a' := ?_) ?_ ?_
       rotate_left
       ·show Act.put _ (some 22) _ = _
        simp only [Act.put, sA, sB, sC, i64_w, i32_w]
        rfl
       refine done_ (by kernel_rfl) ?_
       try go_wp2
       go_roundg k1
       case measure => have := HK1.out; omega
       case rel => exact ⟨(wrap64 ((ji5) + 1)), (x6_1), (by first | rfl | (simp; done) | (simp only [← hji5] <;> (first | rfl | simp)) | (simp [*]; done)), (by first | rfl | (simp; done) | (simp [*]; done)), H', ⟨by have := HK1.out; omega⟩, ⟨bkp BK170⟩, ⟨bbw1 HB GE170⟩⟩
      ·replace c9 := Bool.eq_false_iff.mpr c9
       subst c9
       have H1 : (spec_l06Place.l0 k1 l0 x5_1 ji5 a1_0 a1_1 a1_2 a1_3 a1_4 a1_5) = some r := by rw [if_neg (show ¬ (false = true) by decide)] at H; first | done | exact H
       clear H
       have H := H1
       clear H1
       have H' := Aside0.mk H
       clear H
       try go_wp2
       replace BK170 := Aside0.mk (blk_drew BK170.out)
       replace HB := Aside0.mk (below_drew1 HB.out)
       have p171 : 0 ≤ ((ji5) : Int) := od
       have q171 : (ji5) < (l0.length : Int) := od
       obtain ⟨ad171, e171, hx171_0, hx171_1, hx171_2, hx171_3, hx171_4, hx171_5⟩ := at_T55 HR0.out (ji5) p171 q171
       have hw171_5 := hx171_5
       have hw171_4 := hx171_4
       have hw171_3 := hx171_3
       have hw171_2 := hx171_2
       have hw171_1 := hx171_1
       have hw171_0 := hx171_0
       cases e171
       replace hx171_0 := xb HB hx171_0
       replace hx171_1 := xb HB hx171_1
       replace hx171_2 := xb HB hx171_2
       replace hx171_3 := xb HB hx171_3
       replace hx171_4 := xb HB hx171_4
       replace hx171_5 := xb HB hx171_5
       replace p171 := eq_true p171
       replace q171 := eq_true q171
       refine start_ (n := 6) (S := fun w' => w'.cell? ⟨gb170, 0, none⟩ = some (.int .i64 a1_0) ∧ w'.cell? ⟨gb170, 1, none⟩ = some (.int .i64 a1_1) ∧ w'.cell? ⟨gb170, 2, none⟩ = some (.int .i64 a1_2) ∧ w'.cell? ⟨gb170, 3, none⟩ = some (.int .i64 a1_3) ∧ w'.cell? ⟨gb170, 4, none⟩ = some (.int .i64 a1_4) ∧ w'.cell? ⟨gb170, 5, none⟩ = some (.int .i64 a1_5) ∧ w'.cell? (ad171.add (((ji5)).toNat * 6)) = some (.int .i64 ((rd_T55 l0 (ji5)).f0.f0)) ∧ w'.cell? ⟨(ad171.add (((ji5)).toNat * 6)).block, (ad171.add (((ji5)).toNat * 6)).off + 1, none⟩ = some (.int .i64 ((rd_T55 l0 (ji5)).f0.f1)) ∧ w'.cell? ⟨(ad171.add (((ji5)).toNat * 6)).block, (ad171.add (((ji5)).toNat * 6)).off + 2, none⟩ = some (.int .i64 ((rd_T55 l0 (ji5)).f0.f2)) ∧ w'.cell? ⟨(ad171.add (((ji5)).toNat * 6)).block, (ad171.add (((ji5)).toNat * 6)).off + 3, none⟩ = some (.int .i64 ((rd_T55 l0 (ji5)).f0.f3)) ∧ w'.cell? ⟨(ad171.add (((ji5)).toNat * 6)).block, (ad171.add (((ji5)).toNat * 6)).off + 4, none⟩ = some (.int .i64 ((rd_T55 l0 (ji5)).f1.f0)) ∧ w'.cell? ⟨(ad171.add (((ji5)).toNat * 6)).block, (ad171.add (((ji5)).toNat * 6)).off + 5, none⟩ = some (.int .i64 ((rd_T55 l0 (ji5)).f1.f1))) (ds := []) (bt 6 0) (by kernel_rfl) rfl rfl ⟨bcl BK170 0, bcl BK170 1, bcl BK170 2, bcl BK170 3, bcl BK170 4, bcl BK170 5, (xb HB hw171_0), (xb HB hw171_1), (xb HB hw171_2), (xb HB hw171_3), (xb HB hw171_4), (xb HB hw171_5)⟩ (fun hHeld => ?_)
       generalize wr.drew = w12 at BK170 HB hx171_0 hx171_1 hx171_2 hx171_3 hx171_4 hx171_5 hHeld ⊢
       refine pure_ (i := 0) (N := some 17) (v := ?_) (a' := ?_) (bt 6 1) rfl rfl (by kernel_rfl) (fun _ _ _ h => h) (Or.inl ⟨by rfl, ?_⟩) ?_ ?_
       rotate_left
       ·intro w'
        go_simp
        with_reducible rfl
       rotate_left
       ·simp only [Act.put, sA, sB, sC, i64_w, i32_w]
        rfl
       refine pure_ (i := 1) (N := some 18) (v := ?_) (a' := ?_) (bt 6 2) rfl rfl (by kernel_rfl) (fun _ _ _ h => h) (Or.inl ⟨by rfl, ?_⟩) ?_ ?_
       rotate_left
       ·intro w'
        go_simp
        with_reducible rfl
       rotate_left
       ·simp only [Act.put, sA, sB, sC, i64_w, i32_w]
        rfl
       refine pure_ (i := 2) (N := some 19) (v := ?_) (a' := ?_) (bt 6 3) rfl rfl (by kernel_rfl) (fun _ _ _ h => h) (Or.inl ⟨by rfl, ?_⟩) ?_ ?_
       rotate_left
       ·intro w'
        go_simp
        with_reducible rfl
       rotate_left
       ·simp only [Act.put, sA, sB, sC, i64_w, i32_w]
        rfl
       refine take_ (i := 3) (N := some 20) (v := ?_) (a' := ?_) (bt 6 4) rfl rfl (by kernel_rfl) (fun _ _ _ h => h) (Or.inl ⟨by rfl, ?_⟩) hHeld ?_ ?_
       rotate_left
       ·rintro w' ⟨s0, s1, s2, s3, s4, s5, s6, s7, s8, s9, s10, s11⟩
        go_simp
        with_reducible rfl
       rotate_left
       ·simp only [Act.put, sA, sB, sC, i64_w, i32_w]
        rfl
       refine take_ (i := 4) (N := some 21) (v := ?_) (a' := ?_) (bt 6 5) rfl rfl (by kernel_rfl) (fun _ _ _ h => h) (Or.inl ⟨by rfl, ?_⟩) hHeld ?_ ?_
       rotate_left
       ·rintro w' ⟨s0, s1, s2, s3, s4, s5, s6, s7, s8, s9, s10, s11⟩
        go_simp
        with_reducible rfl
       rotate_left
       ·simp only [Act.put, sA, sB, sC, i64_w, i32_w]
        rfl
       refine one_ (i := 5) (N := some 22) (bt 6 6) rfl rfl (by kernel_rfl) (by decide) (fun K hK => ?_)
       refine goes_ Try.func59 (by kernel_rfl) rfl #[.agg #[.int .i64 ((rd_T55 l0 (ji5)).f0.f0), .int .i64 ((rd_T55 l0 (ji5)).f0.f1), .int .i64 ((rd_T55 l0 (ji5)).f0.f2), .int .i64 ((rd_T55 l0 (ji5)).f0.f3), .int .i64 ((rd_T55 l0 (ji5)).f1.f0), .int .i64 ((rd_T55 l0 (ji5)).f1.f1)], .agg #[.int .i64 a1_0, .int .i64 a1_1, .int .i64 a1_2, .int .i64 a1_3, .int .i64 a1_4, .int .i64 a1_5]] (by rfl) rfl rfl (by (try simp only [List.map_toArray, List.map_cons, List.map_nil]); first | done | (simp only [hji5]; rfl) | rfl | (simp only [List.length_drop, List.length_take]; rfl)) ?_
       with_reducible refine (spec_l05Less.calls k1 ((rd_T55 l0 (ji5)).f0.f0) ((rd_T55 l0 (ji5)).f0.f1) ((rd_T55 l0 (ji5)).f0.f2) ((rd_T55 l0 (ji5)).f0.f3) ((rd_T55 l0 (ji5)).f1.f0) ((rd_T55 l0 (ji5)).f1.f1) a1_0 a1_1 a1_2 a1_3 a1_4 a1_5 false _ A8.out).mono ?_
       rintro e w13 ⟨rfl, hb⟩
       refine ⟨_, rfl, ?_⟩
       replace BK170 := Aside0.mk (bbl BK170 hb)
       replace HB := Aside0.mk (bst1 HB GE170 hb)
       (try clear hb)
       (try clear hb2)
       (try clear hk)
       (try clear hi)
       refine hK.out _ _ ⟨bcl BK170 0, bcl BK170 1, bcl BK170 2, bcl BK170 3, bcl BK170 4, bcl BK170 5, (xb HB hw171_0), (xb HB hw171_1), (xb HB hw171_2), (xb HB hw171_3), (xb HB hw171_4), (xb HB hw171_5)⟩ (fun hHeld => ?_)
       clear hK K
       refine norm_ (a' := ?_) ?_ ?_
       rotate_left
       ·show Act.put _ (some 22) _ = _
        simp only [Act.put, sA, sB, sC, i64_w, i32_w]
        rfl
       refine done_ (by kernel_rfl) ?_
       try go_wp2
       go_roundg k1
       case measure => have := HK1.out; omega
       case rel => exact ⟨(x5_1), (ji5), (by first | rfl | (simp; done) | (simp [*]; done)), (by first | rfl | (simp; done) | (simp only [← hji5] <;> (first | rfl | simp)) | (simp [*]; done)), H', ⟨by have := HK1.out; omega⟩, ⟨bkp BK170⟩, ⟨bbw1 HB GE170⟩⟩
     ·rw [if_neg c7] at H
      exact absurd H (by simp)
    ·rw [if_neg c6] at H
     exact absurd H (by simp)
   ·rw [if_neg c4] at H
    have c4b0 : decide (x5_1 < x6_1) = false := decide_eq_false c4
    clear c4
    obtain rfl := Option.some.inj H
    go_wp2
    go_ret
    exact ⟨by first | rfl | (simp [errW_none, errW_some] <;> rfl) | (simp [*, errW_none, errW_some] <;> rfl), bbw1 HB GE170⟩

/-! ### spec_l06Has: function 45 -/
def spec_l06Has.f (k : Nat) (l0 : List (S55)) (a1_0 : Int) (a1_1 : Int) (a1_2 : Int) (a1_3 : Int) (a1_4 : Int) (a1_5 : Int) : Option (Bool) := (spec_l06Place.f k l0 a1_0 a1_1 a1_2 a1_3 a1_4 a1_5).bind fun t174 => (if t174 < (l0.length : Int) then (if 0 ≤ t174 then (some ((((rd_T55 l0 t174).f0.f0) == a1_0 && (((rd_T55 l0 t174).f0.f1) == a1_1 && (((rd_T55 l0 t174).f0.f2) == a1_2 && (((rd_T55 l0 t174).f0.f3) == a1_3)))) && ((((rd_T55 l0 t174).f1.f0) == a1_4 && (((rd_T55 l0 t174).f1.f1) == a1_5))))) else (none)) else (some false))
set_option maxHeartbeats 8000000 in
set_option maxRecDepth 100000 in
theorem spec_l06Has.calls (k : Nat) (A0 : Option Addr) (c0 : Nat) (l0 : List (S55)) (a1_0 : Int) (a1_1 : Int) (a1_2 : Int) (a1_3 : Int) (a1_4 : Int) (a1_5 : Int) (r : Bool) (w : World) (hr0 : Kd.C k55 w A0 l0.length l0) (hc0 : l0.length ≤ c0) (h : spec_l06Has.f k l0 a1_0 a1_1 a1_2 a1_3 a1_4 a1_5 = some r) :
  Calls Try.prog 45 #[.slice A0 l0.length c0, .agg #[.int .i64 a1_0, .int .i64 a1_1, .int .i64 a1_2, .int .i64 a1_3, .int .i64 a1_4, .int .i64 a1_5]] w fun e w' => e = .returned (.bool r) ∧ Below w.heap.size w w' := by
 have hu55 := Try.underlying55
 have HR0 := Aside0.mk hr0
 have HC0 := Aside0.mk hc0
 clear hr0 hc0
 have HB := Aside0.mk (Below.refl w.heap.size w)
 have H : ((spec_l06Place.f k l0 a1_0 a1_1 a1_2 a1_3 a1_4 a1_5).bind fun t174 => (if t174 < (l0.length : Int) then (if 0 ≤ t174 then (some ((((rd_T55 l0 t174).f0.f0) == a1_0 && (((rd_T55 l0 t174).f0.f1) == a1_1 && (((rd_T55 l0 t174).f0.f2) == a1_2 && (((rd_T55 l0 t174).f0.f3) == a1_3)))) && ((((rd_T55 l0 t174).f1.f0) == a1_4 && (((rd_T55 l0 t174).f1.f1) == a1_5))))) else (none)) else (some false))) = some r := h
 clear h
 replace H := Option.bind_eq_some_iff.mp H
 obtain ⟨t174, A30, H⟩ := H
 replace H : (if t174 < (l0.length : Int) then (if 0 ≤ t174 then (some ((((rd_T55 l0 t174).f0.f0) == a1_0 && (((rd_T55 l0 t174).f0.f1) == a1_1 && (((rd_T55 l0 t174).f0.f2) == a1_2 && (((rd_T55 l0 t174).f0.f3) == a1_3)))) && ((((rd_T55 l0 t174).f1.f0) == a1_4 && (((rd_T55 l0 t174).f1.f1) == a1_5))))) else (none)) else (some false)) = some r := H
 have A3 := Aside0.mk A30
 clear A30
 by_cases c4 : t174 < (l0.length : Int)
 ·rw [if_pos c4] at H
  have c4b0 : decide (t174 < (l0.length : Int)) = true := decide_eq_true c4
  clear c4
  by_cases c5 : 0 ≤ t174
  ·rw [if_pos c5] at H
   have c5b0 : decide (0 ≤ t174) = true := decide_eq_true c5
   clear c5
   obtain rfl := Option.some.inj H
   go_enter Try.func45, Try.ntmps45
   go_wp2_with (first | ((with_reducible refine gd 3 rfl ?_); refine be #[.int .i64 a1_0, .int .i64 a1_1, .int .i64 a1_2, .int .i64 a1_3, .int .i64 a1_4, .int .i64 a1_5] 55 ?_; intro gb173 hg w6 hbox hb; have BK173 := Aside0.mk (hbox); have GW173 := ngw0 hg HB; have GE173 := ngw0 hg HB; replace HB := Aside0.mk (bst0 HB hb); clear hb hbox hg; obtain ⟨hcz7_0, hcz7_1, hcz7_2, hcz7_3, hcz7_4, hcz7_5, hfz7_0, hfz7_1, hfz7_2, hfz7_3, hfz7_4, hfz7_5⟩ := bz6 BK173) | (go_at_call 76; (with_reducible refine (spec_l06Place.calls k _ _ l0 a1_0 a1_1 a1_2 a1_3 a1_4 a1_5 t174 _ ?side1 ?side2 A3.out).mono ?_); (case side1 => repeat (first | exact (Kd.C_below HR0.out HB.out) | (with_reducible refine Kd.C_alloc ?_ _) | (with_reducible refine Kd.C_drewN ?_ _) | (with_reducible refine Kd.C_drew ?_))); (case side2 => exact HC0.out); rintro e w8 ⟨rfl, hb⟩; replace BK173 := Aside0.mk (bbl BK173 hb); replace HB := Aside0.mk (bst1 HB GE173 hb); (try clear hb); (try clear hb2); (try clear hk); (try clear hi); have p175 : 0 ≤ (t174 : Int) := od; have q175 : t174 < (l0.length : Int) := od; obtain ⟨ad175, e175, hx175_0, hx175_1, hx175_2, hx175_3, hx175_4, hx175_5⟩ := at_T55 HR0.out t174 p175 q175; cases e175; replace hx175_0 := xb HB hx175_0; replace hx175_1 := xb HB hx175_1; replace hx175_2 := xb HB hx175_2; replace hx175_3 := xb HB hx175_3; replace hx175_4 := xb HB hx175_4; replace hx175_5 := xb HB hx175_5; replace p175 := eq_true p175; replace q175 := eq_true q175; obtain ⟨hcz9_0, hcz9_1, hcz9_2, hcz9_3, hcz9_4, hcz9_5, hfz9_0, hfz9_1, hfz9_2, hfz9_3, hfz9_4, hfz9_5⟩ := bz6 BK173))
   repeat (go_quiet (first | ((with_reducible refine gd 3 rfl ?_); refine be #[.int .i64 a1_0, .int .i64 a1_1, .int .i64 a1_2, .int .i64 a1_3, .int .i64 a1_4, .int .i64 a1_5] 55 ?_; intro gb173 hg w6 hbox hb; have BK173 := Aside0.mk (hbox); have GW173 := ngw0 hg HB; have GE173 := ngw0 hg HB; replace HB := Aside0.mk (bst0 HB hb); clear hb hbox hg; obtain ⟨hcz7_0, hcz7_1, hcz7_2, hcz7_3, hcz7_4, hcz7_5, hfz7_0, hfz7_1, hfz7_2, hfz7_3, hfz7_4, hfz7_5⟩ := bz6 BK173) | (go_at_call 76; (with_reducible refine (spec_l06Place.calls k _ _ l0 a1_0 a1_1 a1_2 a1_3 a1_4 a1_5 t174 _ ?side1 ?side2 A3.out).mono ?_); (case side1 => repeat (first | exact (Kd.C_below HR0.out HB.out) | (with_reducible refine Kd.C_alloc ?_ _) | (with_reducible refine Kd.C_drewN ?_ _) | (with_reducible refine Kd.C_drew ?_))); (case side2 => exact HC0.out); rintro e w8 ⟨rfl, hb⟩; replace BK173 := Aside0.mk (bbl BK173 hb); replace HB := Aside0.mk (bst1 HB GE173 hb); (try clear hb); (try clear hb2); (try clear hk); (try clear hi); have p175 : 0 ≤ (t174 : Int) := od; have q175 : t174 < (l0.length : Int) := od; obtain ⟨ad175, e175, hx175_0, hx175_1, hx175_2, hx175_3, hx175_4, hx175_5⟩ := at_T55 HR0.out t174 p175 q175; cases e175; replace hx175_0 := xb HB hx175_0; replace hx175_1 := xb HB hx175_1; replace hx175_2 := xb HB hx175_2; replace hx175_3 := xb HB hx175_3; replace hx175_4 := xb HB hx175_4; replace hx175_5 := xb HB hx175_5; replace p175 := eq_true p175; replace q175 := eq_true q175; obtain ⟨hcz9_0, hcz9_1, hcz9_2, hcz9_3, hcz9_4, hcz9_5, hfz9_0, hfz9_1, hfz9_2, hfz9_3, hfz9_4, hfz9_5⟩ := bz6 BK173)); try go_wp2_with (first | ((with_reducible refine gd 3 rfl ?_); refine be #[.int .i64 a1_0, .int .i64 a1_1, .int .i64 a1_2, .int .i64 a1_3, .int .i64 a1_4, .int .i64 a1_5] 55 ?_; intro gb173 hg w6 hbox hb; have BK173 := Aside0.mk (hbox); have GW173 := ngw0 hg HB; have GE173 := ngw0 hg HB; replace HB := Aside0.mk (bst0 HB hb); clear hb hbox hg; obtain ⟨hcz7_0, hcz7_1, hcz7_2, hcz7_3, hcz7_4, hcz7_5, hfz7_0, hfz7_1, hfz7_2, hfz7_3, hfz7_4, hfz7_5⟩ := bz6 BK173) | (go_at_call 76; (with_reducible refine (spec_l06Place.calls k _ _ l0 a1_0 a1_1 a1_2 a1_3 a1_4 a1_5 t174 _ ?side1 ?side2 A3.out).mono ?_); (case side1 => repeat (first | exact (Kd.C_below HR0.out HB.out) | (with_reducible refine Kd.C_alloc ?_ _) | (with_reducible refine Kd.C_drewN ?_ _) | (with_reducible refine Kd.C_drew ?_))); (case side2 => exact HC0.out); rintro e w8 ⟨rfl, hb⟩; replace BK173 := Aside0.mk (bbl BK173 hb); replace HB := Aside0.mk (bst1 HB GE173 hb); (try clear hb); (try clear hb2); (try clear hk); (try clear hi); have p175 : 0 ≤ (t174 : Int) := od; have q175 : t174 < (l0.length : Int) := od; obtain ⟨ad175, e175, hx175_0, hx175_1, hx175_2, hx175_3, hx175_4, hx175_5⟩ := at_T55 HR0.out t174 p175 q175; cases e175; replace hx175_0 := xb HB hx175_0; replace hx175_1 := xb HB hx175_1; replace hx175_2 := xb HB hx175_2; replace hx175_3 := xb HB hx175_3; replace hx175_4 := xb HB hx175_4; replace hx175_5 := xb HB hx175_5; replace p175 := eq_true p175; replace q175 := eq_true q175; obtain ⟨hcz9_0, hcz9_1, hcz9_2, hcz9_3, hcz9_4, hcz9_5, hfz9_0, hfz9_1, hfz9_2, hfz9_3, hfz9_4, hfz9_5⟩ := bz6 BK173)))
   go_ret
   exact ⟨by first | rfl | (simp [errW_none, errW_some] <;> rfl) | (simp [*, errW_none, errW_some] <;> rfl), bbw1 HB GE173⟩
  ·rw [if_neg c5] at H
   exact absurd H (by simp)
 ·rw [if_neg c4] at H
  have c4b0 : decide (t174 < (l0.length : Int)) = false := decide_eq_false c4
  clear c4
  obtain rfl := Option.some.inj H
  go_enter Try.func45, Try.ntmps45
  go_wp2_with (first | ((with_reducible refine gd 3 rfl ?_); refine be #[.int .i64 a1_0, .int .i64 a1_1, .int .i64 a1_2, .int .i64 a1_3, .int .i64 a1_4, .int .i64 a1_5] 55 ?_; intro gb173 hg w10 hbox hb; have BK173 := Aside0.mk (hbox); have GW173 := ngw0 hg HB; have GE173 := ngw0 hg HB; replace HB := Aside0.mk (bst0 HB hb); clear hb hbox hg; obtain ⟨hcz11_0, hcz11_1, hcz11_2, hcz11_3, hcz11_4, hcz11_5, hfz11_0, hfz11_1, hfz11_2, hfz11_3, hfz11_4, hfz11_5⟩ := bz6 BK173) | (go_at_call 76; (with_reducible refine (spec_l06Place.calls k _ _ l0 a1_0 a1_1 a1_2 a1_3 a1_4 a1_5 t174 _ ?side1 ?side2 A3.out).mono ?_); (case side1 => repeat (first | exact (Kd.C_below HR0.out HB.out) | (with_reducible refine Kd.C_alloc ?_ _) | (with_reducible refine Kd.C_drewN ?_ _) | (with_reducible refine Kd.C_drew ?_))); (case side2 => exact HC0.out); rintro e w12 ⟨rfl, hb⟩; replace BK173 := Aside0.mk (bbl BK173 hb); replace HB := Aside0.mk (bst1 HB GE173 hb); (try clear hb); (try clear hb2); (try clear hk); (try clear hi)))
  repeat (go_quiet (first | ((with_reducible refine gd 3 rfl ?_); refine be #[.int .i64 a1_0, .int .i64 a1_1, .int .i64 a1_2, .int .i64 a1_3, .int .i64 a1_4, .int .i64 a1_5] 55 ?_; intro gb173 hg w10 hbox hb; have BK173 := Aside0.mk (hbox); have GW173 := ngw0 hg HB; have GE173 := ngw0 hg HB; replace HB := Aside0.mk (bst0 HB hb); clear hb hbox hg; obtain ⟨hcz11_0, hcz11_1, hcz11_2, hcz11_3, hcz11_4, hcz11_5, hfz11_0, hfz11_1, hfz11_2, hfz11_3, hfz11_4, hfz11_5⟩ := bz6 BK173) | (go_at_call 76; (with_reducible refine (spec_l06Place.calls k _ _ l0 a1_0 a1_1 a1_2 a1_3 a1_4 a1_5 t174 _ ?side1 ?side2 A3.out).mono ?_); (case side1 => repeat (first | exact (Kd.C_below HR0.out HB.out) | (with_reducible refine Kd.C_alloc ?_ _) | (with_reducible refine Kd.C_drewN ?_ _) | (with_reducible refine Kd.C_drew ?_))); (case side2 => exact HC0.out); rintro e w12 ⟨rfl, hb⟩; replace BK173 := Aside0.mk (bbl BK173 hb); replace HB := Aside0.mk (bst1 HB GE173 hb); (try clear hb); (try clear hb2); (try clear hk); (try clear hi))); try go_wp2_with (first | ((with_reducible refine gd 3 rfl ?_); refine be #[.int .i64 a1_0, .int .i64 a1_1, .int .i64 a1_2, .int .i64 a1_3, .int .i64 a1_4, .int .i64 a1_5] 55 ?_; intro gb173 hg w10 hbox hb; have BK173 := Aside0.mk (hbox); have GW173 := ngw0 hg HB; have GE173 := ngw0 hg HB; replace HB := Aside0.mk (bst0 HB hb); clear hb hbox hg; obtain ⟨hcz11_0, hcz11_1, hcz11_2, hcz11_3, hcz11_4, hcz11_5, hfz11_0, hfz11_1, hfz11_2, hfz11_3, hfz11_4, hfz11_5⟩ := bz6 BK173) | (go_at_call 76; (with_reducible refine (spec_l06Place.calls k _ _ l0 a1_0 a1_1 a1_2 a1_3 a1_4 a1_5 t174 _ ?side1 ?side2 A3.out).mono ?_); (case side1 => repeat (first | exact (Kd.C_below HR0.out HB.out) | (with_reducible refine Kd.C_alloc ?_ _) | (with_reducible refine Kd.C_drewN ?_ _) | (with_reducible refine Kd.C_drew ?_))); (case side2 => exact HC0.out); rintro e w12 ⟨rfl, hb⟩; replace BK173 := Aside0.mk (bbl BK173 hb); replace HB := Aside0.mk (bst1 HB GE173 hb); (try clear hb); (try clear hb2); (try clear hk); (try clear hi))))
  go_ret
  exact ⟨by first | rfl | (simp [errW_none, errW_some] <;> rfl) | (simp [*, errW_none, errW_some] <;> rfl), bbw1 HB GE173⟩

/-! ### spec_l02Multiply: function 68 -/
def spec_l02Multiply.f (a0_0 : Int) (a0_1 : Int) (a0_2 : Int) (a0_3 : Int) (a1_0 : Int) (a1_1 : Int) (a1_2 : Int) (a1_3 : Int) : Option (Int × Int × Int × Int) := some (wrap64 ((wrap64 (a0_0 * a1_0)) + (wrap64 (a0_1 * a1_2))), wrap64 ((wrap64 (a0_0 * a1_1)) + (wrap64 (a0_1 * a1_3))), wrap64 ((wrap64 (a0_2 * a1_0)) + (wrap64 (a0_3 * a1_2))), wrap64 ((wrap64 (a0_2 * a1_1)) + (wrap64 (a0_3 * a1_3))))
set_option maxHeartbeats 8000000 in
set_option maxRecDepth 100000 in
theorem spec_l02Multiply.calls (a0_0 : Int) (a0_1 : Int) (a0_2 : Int) (a0_3 : Int) (a1_0 : Int) (a1_1 : Int) (a1_2 : Int) (a1_3 : Int) (r1 : Int) (r2 : Int) (r3 : Int) (r4 : Int) (w : World) (h : spec_l02Multiply.f a0_0 a0_1 a0_2 a0_3 a1_0 a1_1 a1_2 a1_3 = some (r1, r2, r3, r4)) :
  Calls Try.prog 68 #[.agg #[.int .i64 a0_0, .int .i64 a0_1, .int .i64 a0_2, .int .i64 a0_3], .agg #[.int .i64 a1_0, .int .i64 a1_1, .int .i64 a1_2, .int .i64 a1_3]] w fun e w' => e = .returned (.agg #[.int .i64 r1, .int .i64 r2, .int .i64 r3, .int .i64 r4]) ∧ Below w.heap.size w w' := by
 have hu51 := Try.underlying51
 have HB := Aside0.mk (Below.refl w.heap.size w)
 have H : (some (wrap64 ((wrap64 (a0_0 * a1_0)) + (wrap64 (a0_1 * a1_2))), wrap64 ((wrap64 (a0_0 * a1_1)) + (wrap64 (a0_1 * a1_3))), wrap64 ((wrap64 (a0_2 * a1_0)) + (wrap64 (a0_3 * a1_2))), wrap64 ((wrap64 (a0_2 * a1_1)) + (wrap64 (a0_3 * a1_3))))) = some (r1, r2, r3, r4) := h
 clear h
 simp only [Option.some.injEq, Prod.mk.injEq] at H
 obtain ⟨rfl, rfl, rfl, rfl⟩ := H
 go_enter Try.func68, Try.ntmps68
 go_wp2_with (first | ((with_reducible refine gd 2 rfl ?_); refine be #[.int .i64 a0_0, .int .i64 a0_1, .int .i64 a0_2, .int .i64 a0_3] 51 ?_; intro gb176 hg w3 hbox hb; have BK176 := Aside0.mk (hbox); have GW176 := ngw0 hg HB; have GE176 := ngw0 hg HB; replace HB := Aside0.mk (bst0 HB hb); clear hb hbox hg) | ((with_reducible refine gd 3 rfl ?_); refine be #[.int .i64 a1_0, .int .i64 a1_1, .int .i64 a1_2, .int .i64 a1_3] 51 ?_; intro gb177 hg w4 hbox hb; have BK177 := Aside0.mk (hbox); have GW177 := ngw1 hg HB GE176; have GE177 := ngw1 hg HB GE176; replace HB := Aside0.mk (bst1 HB GE176 hb); have NB176_177 := nlt hg BK176; have NB177_176 := nsy (nlt hg BK176); replace BK176 := Aside0.mk (bbl BK176 hb); clear hb hbox hg) | ((with_reducible refine gd 4 rfl ?_); refine be #[.int .i64 0, .int .i64 0, .int .i64 0, .int .i64 0] 51 ?_; intro gb178 hg w5 hbox hb; have BK178 := Aside0.mk (hbox); have GW178 := ngw2 hg HB GE176 GE177; have GE178 := ngw2 hg HB GE176 GE177; replace HB := Aside0.mk (bst2 HB GE176 GE177 hb); have NB176_178 := nlt hg BK176; have NB178_176 := nsy (nlt hg BK176); replace BK176 := Aside0.mk (bbl BK176 hb); have NB177_178 := nlt hg BK177; have NB178_177 := nsy (nlt hg BK177); replace BK177 := Aside0.mk (bbl BK177 hb); clear hb hbox hg; have hnb6 := NB176_177.out; have hnc6 := NB177_176.out; have hnb7 := NB176_178.out; have hnc7 := NB178_176.out; obtain ⟨hcz8_0, hcz8_1, hcz8_2, hcz8_3, hfz8_0, hfz8_1, hfz8_2, hfz8_3⟩ := bz4 BK176; have hnb9 := NB177_178.out; have hnc9 := NB178_177.out; obtain ⟨hcz10_0, hcz10_1, hcz10_2, hcz10_3, hfz10_0, hfz10_1, hfz10_2, hfz10_3⟩ := bz4 BK177; obtain ⟨hcz11_0, hcz11_1, hcz11_2, hcz11_3, hfz11_0, hfz11_1, hfz11_2, hfz11_3⟩ := bz4 BK178))
 refine bodyPost_ret (results_cell_row rfl _ _ gb178 51 #[.int .i64 (wrap64 ((wrap64 (a0_0 * a1_0)) + (wrap64 (a0_1 * a1_2)))), .int .i64 (wrap64 ((wrap64 (a0_0 * a1_1)) + (wrap64 (a0_1 * a1_3)))), .int .i64 (wrap64 ((wrap64 (a0_2 * a1_0)) + (wrap64 (a0_3 * a1_2)))), .int .i64 (wrap64 ((wrap64 (a0_2 * a1_1)) + (wrap64 (a0_3 * a1_3))))] (0, 0) _ rfl (bq0 BK178) Try.underlying51 rfl (by kernel_rfl)) rfl ?_
 exact ⟨by first | rfl | (simp [errW_none, errW_some] <;> rfl) | (simp [*, errW_none, errW_some] <;> rfl), bbw3 HB GE176 GE177 GE178⟩

/-! ### spec_l02Apply: function 75 -/
def spec_l02Apply.f (a0_0 : Int) (a0_1 : Int) (a0_2 : Int) (a0_3 : Int) (a1_0 : Int) (a1_1 : Int) : Option (Int × Int) := some (wrap64 ((wrap64 (a0_0 * a1_0)) + (wrap64 (a0_1 * a1_1))), wrap64 ((wrap64 (a0_2 * a1_0)) + (wrap64 (a0_3 * a1_1))))
set_option maxHeartbeats 8000000 in
set_option maxRecDepth 100000 in
theorem spec_l02Apply.calls (a0_0 : Int) (a0_1 : Int) (a0_2 : Int) (a0_3 : Int) (a1_0 : Int) (a1_1 : Int) (r1 : Int) (r2 : Int) (w : World) (h : spec_l02Apply.f a0_0 a0_1 a0_2 a0_3 a1_0 a1_1 = some (r1, r2)) :
  Calls Try.prog 75 #[.agg #[.int .i64 a0_0, .int .i64 a0_1, .int .i64 a0_2, .int .i64 a0_3], .agg #[.int .i64 a1_0, .int .i64 a1_1]] w fun e w' => e = .returned (.agg #[.int .i64 r1, .int .i64 r2]) ∧ Below w.heap.size w w' := by
 have hu51 := Try.underlying51
 have hu53 := Try.underlying53
 have HB := Aside0.mk (Below.refl w.heap.size w)
 have H : (some (wrap64 ((wrap64 (a0_0 * a1_0)) + (wrap64 (a0_1 * a1_1))), wrap64 ((wrap64 (a0_2 * a1_0)) + (wrap64 (a0_3 * a1_1))))) = some (r1, r2) := h
 clear h
 simp only [Option.some.injEq, Prod.mk.injEq] at H
 obtain ⟨rfl, rfl⟩ := H
 go_enter Try.func75, Try.ntmps75
 go_wp2_with (first | ((with_reducible refine gd 2 rfl ?_); refine be #[.int .i64 a0_0, .int .i64 a0_1, .int .i64 a0_2, .int .i64 a0_3] 51 ?_; intro gb179 hg w3 hbox hb; have BK179 := Aside0.mk (hbox); have GW179 := ngw0 hg HB; have GE179 := ngw0 hg HB; replace HB := Aside0.mk (bst0 HB hb); clear hb hbox hg) | ((with_reducible refine gd 3 rfl ?_); refine be #[.int .i64 a1_0, .int .i64 a1_1] 53 ?_; intro gb180 hg w4 hbox hb; have BK180 := Aside0.mk (hbox); have GW180 := ngw1 hg HB GE179; have GE180 := ngw1 hg HB GE179; replace HB := Aside0.mk (bst1 HB GE179 hb); have NB179_180 := nlt hg BK179; have NB180_179 := nsy (nlt hg BK179); replace BK179 := Aside0.mk (bbl BK179 hb); clear hb hbox hg) | ((with_reducible refine gd 4 rfl ?_); refine be #[.int .i64 0, .int .i64 0] 53 ?_; intro gb181 hg w5 hbox hb; have BK181 := Aside0.mk (hbox); have GW181 := ngw2 hg HB GE179 GE180; have GE181 := ngw2 hg HB GE179 GE180; replace HB := Aside0.mk (bst2 HB GE179 GE180 hb); have NB179_181 := nlt hg BK179; have NB181_179 := nsy (nlt hg BK179); replace BK179 := Aside0.mk (bbl BK179 hb); have NB180_181 := nlt hg BK180; have NB181_180 := nsy (nlt hg BK180); replace BK180 := Aside0.mk (bbl BK180 hb); clear hb hbox hg; have hnb6 := NB179_180.out; have hnc6 := NB180_179.out; have hnb7 := NB179_181.out; have hnc7 := NB181_179.out; obtain ⟨hcz8_0, hcz8_1, hcz8_2, hcz8_3, hfz8_0, hfz8_1, hfz8_2, hfz8_3⟩ := bz4 BK179; have hnb9 := NB180_181.out; have hnc9 := NB181_180.out; obtain ⟨hcz10_0, hcz10_1, hfz10_0, hfz10_1⟩ := bz2 BK180; obtain ⟨hcz11_0, hcz11_1, hfz11_0, hfz11_1⟩ := bz2 BK181))
 refine bodyPost_ret (results_cell_row rfl _ _ gb181 53 #[.int .i64 (wrap64 ((wrap64 (a0_0 * a1_0)) + (wrap64 (a0_1 * a1_1)))), .int .i64 (wrap64 ((wrap64 (a0_2 * a1_0)) + (wrap64 (a0_3 * a1_1))))] (0, 0) _ rfl (bq0 BK181) Try.underlying53 rfl (by kernel_rfl)) rfl ?_
 exact ⟨by first | rfl | (simp [errW_none, errW_some] <;> rfl) | (simp [*, errW_none, errW_some] <;> rfl), bbw3 HB GE179 GE180 GE181⟩

/-! ### spec_l01Add: function 77 -/
def spec_l01Add.f (a0_0 : Int) (a0_1 : Int) (a1_0 : Int) (a1_1 : Int) : Option (Int × Int) := some (wrap64 (a0_0 + a1_0), wrap64 (a0_1 + a1_1))
set_option maxHeartbeats 8000000 in
set_option maxRecDepth 100000 in
theorem spec_l01Add.calls (a0_0 : Int) (a0_1 : Int) (a1_0 : Int) (a1_1 : Int) (r1 : Int) (r2 : Int) (w : World) (h : spec_l01Add.f a0_0 a0_1 a1_0 a1_1 = some (r1, r2)) :
  Calls Try.prog 77 #[.agg #[.int .i64 a0_0, .int .i64 a0_1], .agg #[.int .i64 a1_0, .int .i64 a1_1]] w fun e w' => e = .returned (.agg #[.int .i64 r1, .int .i64 r2]) ∧ Below w.heap.size w w' := by
 have hu53 := Try.underlying53
 have HB := Aside0.mk (Below.refl w.heap.size w)
 have H : (some (wrap64 (a0_0 + a1_0), wrap64 (a0_1 + a1_1))) = some (r1, r2) := h
 clear h
 simp only [Option.some.injEq, Prod.mk.injEq] at H
 obtain ⟨rfl, rfl⟩ := H
 go_enter Try.func77, Try.ntmps77
 go_wp2_with (first | ((with_reducible refine gd 2 rfl ?_); refine be #[.int .i64 a0_0, .int .i64 a0_1] 53 ?_; intro gb182 hg w3 hbox hb; have BK182 := Aside0.mk (hbox); have GW182 := ngw0 hg HB; have GE182 := ngw0 hg HB; replace HB := Aside0.mk (bst0 HB hb); clear hb hbox hg) | ((with_reducible refine gd 3 rfl ?_); refine be #[.int .i64 a1_0, .int .i64 a1_1] 53 ?_; intro gb183 hg w4 hbox hb; have BK183 := Aside0.mk (hbox); have GW183 := ngw1 hg HB GE182; have GE183 := ngw1 hg HB GE182; replace HB := Aside0.mk (bst1 HB GE182 hb); have NB182_183 := nlt hg BK182; have NB183_182 := nsy (nlt hg BK182); replace BK182 := Aside0.mk (bbl BK182 hb); clear hb hbox hg) | ((with_reducible refine gd 4 rfl ?_); refine be #[.int .i64 0, .int .i64 0] 53 ?_; intro gb184 hg w5 hbox hb; have BK184 := Aside0.mk (hbox); have GW184 := ngw2 hg HB GE182 GE183; have GE184 := ngw2 hg HB GE182 GE183; replace HB := Aside0.mk (bst2 HB GE182 GE183 hb); have NB182_184 := nlt hg BK182; have NB184_182 := nsy (nlt hg BK182); replace BK182 := Aside0.mk (bbl BK182 hb); have NB183_184 := nlt hg BK183; have NB184_183 := nsy (nlt hg BK183); replace BK183 := Aside0.mk (bbl BK183 hb); clear hb hbox hg; have hnb6 := NB182_183.out; have hnc6 := NB183_182.out; have hnb7 := NB182_184.out; have hnc7 := NB184_182.out; obtain ⟨hcz8_0, hcz8_1, hfz8_0, hfz8_1⟩ := bz2 BK182; have hnb9 := NB183_184.out; have hnc9 := NB184_183.out; obtain ⟨hcz10_0, hcz10_1, hfz10_0, hfz10_1⟩ := bz2 BK183; obtain ⟨hcz11_0, hcz11_1, hfz11_0, hfz11_1⟩ := bz2 BK184))
 refine bodyPost_ret (results_cell_row rfl _ _ gb184 53 #[.int .i64 (wrap64 (a0_0 + a1_0)), .int .i64 (wrap64 (a0_1 + a1_1))] (0, 0) _ rfl (bq0 BK184) Try.underlying53 rfl (by kernel_rfl)) rfl ?_
 exact ⟨by first | rfl | (simp [errW_none, errW_some] <;> rfl) | (simp [*, errW_none, errW_some] <;> rfl), bbw3 HB GE182 GE183 GE184⟩

/-! ### spec_l05Compose: function 47 -/
def spec_l05Compose.f (a0_0 : Int) (a0_1 : Int) (a0_2 : Int) (a0_3 : Int) (a0_4 : Int) (a0_5 : Int) (a1_0 : Int) (a1_1 : Int) (a1_2 : Int) (a1_3 : Int) (a1_4 : Int) (a1_5 : Int) : Option (Int × Int × Int × Int × Int × Int) := (spec_l02Multiply.f a0_0 a0_1 a0_2 a0_3 a1_0 a1_1 a1_2 a1_3).bind fun bt188 => ((spec_l02Apply.f a0_0 a0_1 a0_2 a0_3 a1_4 a1_5).bind fun bt192 => ((spec_l01Add.f bt192.1 bt192.2 a0_4 a0_5).bind fun bt194 => (some (bt188.1, bt188.2.1, bt188.2.2.1, bt188.2.2.2, bt194.1, bt194.2))))
def spec_l05Compose.T1 : Bool × List (List Nat × List Nat) := (true, [([], []), ([0], [0]), ([], []), ([2], [2]), ([1, 3], [1, 3]), ([], []), ([5], [5]), ([], []), ([7], [7]), ([6, 8, 4], [6, 8]), ([], []), ([10], [10]), ([9, 11, 9], [9, 11]), ([4, 12], [4, 12]), ([13, 12, 0, 1, 2, 3, 4, 5, 6, 7, 8, 9, 10, 11, 12, 13], [13])])
def spec_l05Compose.B1 : List Nat := [0, 1, 0, 4, 15, 0, 32, 0, 128, 511, 0, 1024, 4095, 8191, 16383]
theorem spec_l05Compose.tab1 : rtab .any (opsOf Try.f47 1) = spec_l05Compose.T1 := by kernel_rfl
theorem spec_l05Compose.bits1 : waitsOk spec_l05Compose.T1.2 spec_l05Compose.B1 = true := by kernel_rfl
set_option maxHeartbeats 8000000 in
set_option maxRecDepth 100000 in
theorem spec_l05Compose.calls (a0_0 : Int) (a0_1 : Int) (a0_2 : Int) (a0_3 : Int) (a0_4 : Int) (a0_5 : Int) (a1_0 : Int) (a1_1 : Int) (a1_2 : Int) (a1_3 : Int) (a1_4 : Int) (a1_5 : Int) (r1 : Int) (r2 : Int) (r3 : Int) (r4 : Int) (r5 : Int) (r6 : Int) (w : World) (h : spec_l05Compose.f a0_0 a0_1 a0_2 a0_3 a0_4 a0_5 a1_0 a1_1 a1_2 a1_3 a1_4 a1_5 = some (r1, r2, r3, r4, r5, r6)) :
  Calls Try.prog 47 #[.agg #[.int .i64 a0_0, .int .i64 a0_1, .int .i64 a0_2, .int .i64 a0_3, .int .i64 a0_4, .int .i64 a0_5], .agg #[.int .i64 a1_0, .int .i64 a1_1, .int .i64 a1_2, .int .i64 a1_3, .int .i64 a1_4, .int .i64 a1_5]] w fun e w' => e = .returned (.agg #[.int .i64 r1, .int .i64 r2, .int .i64 r3, .int .i64 r4, .int .i64 r5, .int .i64 r6]) ∧ Below w.heap.size w w' := by
 have hu55 := Try.underlying55
 have hu51 := Try.underlying51
 have hu53 := Try.underlying53
 have HB := Aside0.mk (Below.refl w.heap.size w)
 have H : ((spec_l02Multiply.f a0_0 a0_1 a0_2 a0_3 a1_0 a1_1 a1_2 a1_3).bind fun bt188 => ((spec_l02Apply.f a0_0 a0_1 a0_2 a0_3 a1_4 a1_5).bind fun bt192 => ((spec_l01Add.f bt192.1 bt192.2 a0_4 a0_5).bind fun bt194 => (some (bt188.1, bt188.2.1, bt188.2.2.1, bt188.2.2.2, bt194.1, bt194.2))))) = some (r1, r2, r3, r4, r5, r6) := h
 clear h
 replace H := Option.bind_eq_some_iff.mp H
 obtain ⟨⟨t188, t189, t190, t191⟩, A30, H⟩ := H
 replace H : ((spec_l02Apply.f a0_0 a0_1 a0_2 a0_3 a1_4 a1_5).bind fun bt192 => ((spec_l01Add.f bt192.1 bt192.2 a0_4 a0_5).bind fun bt194 => (some (t188, t189, t190, t191, bt194.1, bt194.2)))) = some (r1, r2, r3, r4, r5, r6) := H
 have A3 := Aside0.mk A30
 clear A30
 replace H := Option.bind_eq_some_iff.mp H
 obtain ⟨⟨t192, t193⟩, A40, H⟩ := H
 replace H : ((spec_l01Add.f t192 t193 a0_4 a0_5).bind fun bt194 => (some (t188, t189, t190, t191, bt194.1, bt194.2))) = some (r1, r2, r3, r4, r5, r6) := H
 have A4 := Aside0.mk A40
 clear A40
 replace H := Option.bind_eq_some_iff.mp H
 obtain ⟨⟨t194, t195⟩, A50, H⟩ := H
 replace H : (some (t188, t189, t190, t191, t194, t195)) = some (r1, r2, r3, r4, r5, r6) := H
 have A5 := Aside0.mk A50
 clear A50
 simp only [Option.some.injEq, Prod.mk.injEq] at H
 obtain ⟨rfl, rfl, rfl, rfl, rfl, rfl⟩ := H
 go_enter Try.func47, Try.ntmps47
 try go_wp2_with (first | ((with_reducible refine gd 2 rfl ?_); refine be #[.int .i64 a0_0, .int .i64 a0_1, .int .i64 a0_2, .int .i64 a0_3, .int .i64 a0_4, .int .i64 a0_5] 55 ?_; intro gb185 hg w6 hbox hb; have BK185 := Aside0.mk (hbox); have GW185 := ngw0 hg HB; have GE185 := ngw0 hg HB; replace HB := Aside0.mk (bst0 HB hb); clear hb hbox hg) | ((with_reducible refine gd 3 rfl ?_); refine be #[.int .i64 a1_0, .int .i64 a1_1, .int .i64 a1_2, .int .i64 a1_3, .int .i64 a1_4, .int .i64 a1_5] 55 ?_; intro gb186 hg w7 hbox hb; have BK186 := Aside0.mk (hbox); have GW186 := ngw1 hg HB GE185; have GE186 := ngw1 hg HB GE185; replace HB := Aside0.mk (bst1 HB GE185 hb); have NB185_186 := nlt hg BK185; have NB186_185 := nsy (nlt hg BK185); replace BK185 := Aside0.mk (bbl BK185 hb); clear hb hbox hg) | ((with_reducible refine gd 4 rfl ?_); refine be #[.int .i64 0, .int .i64 0, .int .i64 0, .int .i64 0, .int .i64 0, .int .i64 0] 55 ?_; intro gb187 hg w8 hbox hb; have BK187 := Aside0.mk (hbox); have GW187 := ngw2 hg HB GE185 GE186; have GE187 := ngw2 hg HB GE185 GE186; replace HB := Aside0.mk (bst2 HB GE185 GE186 hb); have NB185_187 := nlt hg BK185; have NB187_185 := nsy (nlt hg BK185); replace BK185 := Aside0.mk (bbl BK185 hb); have NB186_187 := nlt hg BK186; have NB187_186 := nsy (nlt hg BK186); replace BK186 := Aside0.mk (bbl BK186 hb); clear hb hbox hg))
 replace BK185 := Aside0.mk (blk_drew BK185.out)
 replace BK186 := Aside0.mk (blk_drew BK186.out)
 replace BK187 := Aside0.mk (blk_drew BK187.out)
 replace HB := Aside0.mk (below_drew1 HB.out)
 refine start_ (n := 15) (S := fun w' => w'.cell? ⟨gb185, 0, none⟩ = some (.int .i64 a0_0) ∧ w'.cell? ⟨gb185, 1, none⟩ = some (.int .i64 a0_1) ∧ w'.cell? ⟨gb185, 2, none⟩ = some (.int .i64 a0_2) ∧ w'.cell? ⟨gb185, 3, none⟩ = some (.int .i64 a0_3) ∧ w'.cell? ⟨gb185, 4, none⟩ = some (.int .i64 a0_4) ∧ w'.cell? ⟨gb185, 5, none⟩ = some (.int .i64 a0_5) ∧ w'.cell? ⟨gb186, 0, none⟩ = some (.int .i64 a1_0) ∧ w'.cell? ⟨gb186, 1, none⟩ = some (.int .i64 a1_1) ∧ w'.cell? ⟨gb186, 2, none⟩ = some (.int .i64 a1_2) ∧ w'.cell? ⟨gb186, 3, none⟩ = some (.int .i64 a1_3) ∧ w'.cell? ⟨gb186, 4, none⟩ = some (.int .i64 a1_4) ∧ w'.cell? ⟨gb186, 5, none⟩ = some (.int .i64 a1_5)) (ds := []) (bt 15 0) (by kernel_rfl) rfl rfl ⟨bcl BK185 0, bcl BK185 1, bcl BK185 2, bcl BK185 3, bcl BK185 4, bcl BK185 5, bcl BK186 0, bcl BK186 1, bcl BK186 2, bcl BK186 3, bcl BK186 4, bcl BK186 5⟩ (fun hHeld => ?_); refine with_tabW spec_l05Compose.tab1 spec_l05Compose.bits1 (fun HT_ HW_ => ?_)
 generalize w8.drew = w9 at BK185 BK186 BK187 HB hHeld ⊢
 refine pu 0 (some 5) (bt 15 1) HT_ ?_
 refine pu 2 (some 7) #[true, false, true, false, false, false, false, false, false, false, false, false, false, false, false] HT_ ?_
 refine pu 5 (some 10) #[true, false, true, false, false, true, false, false, false, false, false, false, false, false, false] HT_ ?_
 refine pu 7 (some 12) #[true, false, true, false, false, true, false, true, false, false, false, false, false, false, false] HT_ ?_
 refine pu 10 (some 15) #[true, false, true, false, false, true, false, true, false, false, true, false, false, false, false] HT_ ?_
 refine ta 1 (some 6) #[true, true, true, false, false, true, false, true, false, false, true, false, false, false, false] HT_ HW_ hHeld ?_
 refine ta 3 (some 8) #[true, true, true, true, false, true, false, true, false, false, true, false, false, false, false] HT_ HW_ hHeld ?_
 refine ta 6 (some 11) #[true, true, true, true, false, true, true, true, false, false, true, false, false, false, false] HT_ HW_ hHeld ?_
 refine ta 8 (some 13) #[true, true, true, true, false, true, true, true, true, false, true, false, false, false, false] HT_ HW_ hHeld ?_
 refine ta 11 (some 16) #[true, true, true, true, false, true, true, true, true, false, true, true, false, false, false] HT_ HW_ hHeld ?_
 refine ro 4 (some 9) #[true, true, true, true, true, true, true, true, true, false, true, true, false, false, false] HT_ (fun K hK => ?_)
 refine gs Try.func68 #[.agg #[.int .i64 a0_0, .int .i64 a0_1, .int .i64 a0_2, .int .i64 a0_3], .agg #[.int .i64 a1_0, .int .i64 a1_1, .int .i64 a1_2, .int .i64 a1_3]] ?_
 with_reducible refine (spec_l02Multiply.calls a0_0 a0_1 a0_2 a0_3 a1_0 a1_1 a1_2 a1_3 t188 t189 t190 t191 _ A3.out).mono ?_
 rintro e w10 ⟨rfl, hb⟩
 refine ⟨_, rfl, ?_⟩
 replace BK185 := Aside0.mk (bbl BK185 hb)
 replace BK186 := Aside0.mk (bbl BK186 hb)
 replace BK187 := Aside0.mk (bbl BK187 hb)
 replace HB := Aside0.mk (bst3 HB GE185 GE186 GE187 hb)
 (try clear hb)
 (try clear hb2)
 (try clear hk)
 (try clear hi)
 refine hK.out _ _ ⟨bcl BK185 0, bcl BK185 1, bcl BK185 2, bcl BK185 3, bcl BK185 4, bcl BK185 5, bcl BK186 0, bcl BK186 1, bcl BK186 2, bcl BK186 3, bcl BK186 4, bcl BK186 5⟩ (fun hHeld => ?_)
 clear hK K
 refine norm_ (a' := ?_) ?_ ?_
 rotate_left
 ·show Act.put _ (some 9) _ = _
  simp only [Act.put, sA, sB, sC, i64_w, i32_w]
  rfl
 refine ro 9 (some 14) (bt 15 12) HT_ (fun K hK => ?_)
 refine gs Try.func75 #[.agg #[.int .i64 a0_0, .int .i64 a0_1, .int .i64 a0_2, .int .i64 a0_3], .agg #[.int .i64 a1_4, .int .i64 a1_5]] ?_
 with_reducible refine (spec_l02Apply.calls a0_0 a0_1 a0_2 a0_3 a1_4 a1_5 t192 t193 _ A4.out).mono ?_
 rintro e w11 ⟨rfl, hb⟩
 refine ⟨_, rfl, ?_⟩
 replace BK185 := Aside0.mk (bbl BK185 hb)
 replace BK186 := Aside0.mk (bbl BK186 hb)
 replace BK187 := Aside0.mk (bbl BK187 hb)
 replace HB := Aside0.mk (bst3 HB GE185 GE186 GE187 hb)
 (try clear hb)
 (try clear hb2)
 (try clear hk)
 (try clear hi)
 refine hK.out _ _ ⟨bcl BK185 0, bcl BK185 1, bcl BK185 2, bcl BK185 3, bcl BK185 4, bcl BK185 5, bcl BK186 0, bcl BK186 1, bcl BK186 2, bcl BK186 3, bcl BK186 4, bcl BK186 5⟩ (fun hHeld => ?_)
 clear hK K
 refine norm_ (a' := ?_) ?_ ?_
 rotate_left
 ·show Act.put _ (some 14) _ = _
  simp only [Act.put, sA, sB, sC, i64_w, i32_w]
  rfl
 refine ro 12 (some 17) (bt 15 13) HT_ (fun K hK => ?_)
 refine gs Try.func77 #[.agg #[.int .i64 t192, .int .i64 t193], .agg #[.int .i64 a0_4, .int .i64 a0_5]] ?_
 with_reducible refine (spec_l01Add.calls t192 t193 a0_4 a0_5 t194 t195 _ A5.out).mono ?_
 rintro e w12 ⟨rfl, hb⟩
 refine ⟨_, rfl, ?_⟩
 replace BK185 := Aside0.mk (bbl BK185 hb)
 replace BK186 := Aside0.mk (bbl BK186 hb)
 replace BK187 := Aside0.mk (bbl BK187 hb)
 replace HB := Aside0.mk (bst3 HB GE185 GE186 GE187 hb)
 (try clear hb)
 (try clear hb2)
 (try clear hk)
 (try clear hi)
 refine hK.out _ _ ⟨bcl BK185 0, bcl BK185 1, bcl BK185 2, bcl BK185 3, bcl BK185 4, bcl BK185 5, bcl BK186 0, bcl BK186 1, bcl BK186 2, bcl BK186 3, bcl BK186 4, bcl BK186 5⟩ (fun hHeld => ?_)
 clear hK K
 refine norm_ (a' := ?_) ?_ ?_
 rotate_left
 ·show Act.put _ (some 17) _ = _
  simp only [Act.put, sA, sB, sC, i64_w, i32_w]
  rfl
 refine pu 13 (some 18) (bt 15 14) HT_ ?_
 refine ro 14 (none) (bt 15 15) HT_ (fun K hK => ?_)
 have hs13 : w12.cell? ⟨gb187, 0, none⟩ = some (.int .i64 0) := bcl BK187 0
 have hfs13 := blk_frozen BK187.out 0
 have hns13_0 := NB185_187.out
 have hns13_1 := NB186_187.out
 have hms13_0 := NB187_185.out
 have hms13_1 := NB187_186.out
 have hs14 : w12.cell? ⟨gb187, 1, none⟩ = some (.int .i64 0) := bcl BK187 1
 have hfs14 := blk_frozen BK187.out 1
 have hns14_0 := NB185_187.out
 have hns14_1 := NB186_187.out
 have hms14_0 := NB187_185.out
 have hms14_1 := NB187_186.out
 have hs15 : w12.cell? ⟨gb187, 2, none⟩ = some (.int .i64 0) := bcl BK187 2
 have hfs15 := blk_frozen BK187.out 2
 have hns15_0 := NB185_187.out
 have hns15_1 := NB186_187.out
 have hms15_0 := NB187_185.out
 have hms15_1 := NB187_186.out
 have hs16 : w12.cell? ⟨gb187, 3, none⟩ = some (.int .i64 0) := bcl BK187 3
 have hfs16 := blk_frozen BK187.out 3
 have hns16_0 := NB185_187.out
 have hns16_1 := NB186_187.out
 have hms16_0 := NB187_185.out
 have hms16_1 := NB187_186.out
 have hs17 : w12.cell? ⟨gb187, 4, none⟩ = some (.int .i64 0) := bcl BK187 4
 have hfs17 := blk_frozen BK187.out 4
 have hns17_0 := NB185_187.out
 have hns17_1 := NB186_187.out
 have hms17_0 := NB187_185.out
 have hms17_1 := NB187_186.out
 have hs18 : w12.cell? ⟨gb187, 5, none⟩ = some (.int .i64 0) := bcl BK187 5
 have hfs18 := blk_frozen BK187.out 5
 have hns18_0 := NB185_187.out
 have hns18_1 := NB186_187.out
 have hms18_0 := NB187_185.out
 have hms18_1 := NB187_186.out
 refine skip_ (w1 := ?_) (by rfl) rfl ?_ ?_
 rotate_left
 ·go_simp
  rfl
 refine hK.out _ _ ⟨(cf NB185_187 ((cf NB185_187 ((cf NB185_187 ((cf NB185_187 ((cf NB185_187 ((cf NB185_187 (hHeld.1)))))))))))), (cf NB185_187 ((cf NB185_187 ((cf NB185_187 ((cf NB185_187 ((cf NB185_187 ((cf NB185_187 (hHeld.2.1)))))))))))), (cf NB185_187 ((cf NB185_187 ((cf NB185_187 ((cf NB185_187 ((cf NB185_187 ((cf NB185_187 (hHeld.2.2.1)))))))))))), (cf NB185_187 ((cf NB185_187 ((cf NB185_187 ((cf NB185_187 ((cf NB185_187 ((cf NB185_187 (hHeld.2.2.2.1)))))))))))), (cf NB185_187 ((cf NB185_187 ((cf NB185_187 ((cf NB185_187 ((cf NB185_187 ((cf NB185_187 (hHeld.2.2.2.2.1)))))))))))), (cf NB185_187 ((cf NB185_187 ((cf NB185_187 ((cf NB185_187 ((cf NB185_187 ((cf NB185_187 (hHeld.2.2.2.2.2.1)))))))))))), (cf NB186_187 ((cf NB186_187 ((cf NB186_187 ((cf NB186_187 ((cf NB186_187 ((cf NB186_187 (hHeld.2.2.2.2.2.2.1)))))))))))), (cf NB186_187 ((cf NB186_187 ((cf NB186_187 ((cf NB186_187 ((cf NB186_187 ((cf NB186_187 (hHeld.2.2.2.2.2.2.2.1)))))))))))), (cf NB186_187 ((cf NB186_187 ((cf NB186_187 ((cf NB186_187 ((cf NB186_187 ((cf NB186_187 (hHeld.2.2.2.2.2.2.2.2.1)))))))))))), (cf NB186_187 ((cf NB186_187 ((cf NB186_187 ((cf NB186_187 ((cf NB186_187 ((cf NB186_187 (hHeld.2.2.2.2.2.2.2.2.2.1)))))))))))), (cf NB186_187 ((cf NB186_187 ((cf NB186_187 ((cf NB186_187 ((cf NB186_187 ((cf NB186_187 (hHeld.2.2.2.2.2.2.2.2.2.2.1)))))))))))), (cf NB186_187 ((cf NB186_187 ((cf NB186_187 ((cf NB186_187 ((cf NB186_187 ((cf NB186_187 (hHeld.2.2.2.2.2.2.2.2.2.2.2))))))))))))⟩ (fun hHeld => ?_)
 clear hK K
 refine done_ (done_of HT_.out (by kernel_rfl)) ?_
 try go_wp2
 refine bodyPost_ret (results_cell_row rfl _ _ gb187 55 #[.int .i64 t188, .int .i64 t189, .int .i64 t190, .int .i64 t191, .int .i64 t194, .int .i64 t195] (0, 0) _ rfl (bq0 BK187) Try.underlying55 rfl (by kernel_rfl)) rfl ?_
 exact ⟨by first | rfl | (simp [errW_none, errW_some] <;> rfl) | (simp [*, errW_none, errW_some] <;> rfl), bbw3 HB GE185 GE186 GE187⟩

/-! ### spec_IsFrame: function 85 -/
def spec_IsFrame.f (a0 : Int) : Option (Bool) := if a0 = 0 then (some true) else (some (a0 == 1))
set_option maxHeartbeats 8000000 in
set_option maxRecDepth 100000 in
theorem spec_IsFrame.calls (a0 : Int) (r : Bool) (w : World) (h : spec_IsFrame.f a0 = some r) :
  Calls Try.prog 85 #[.int .i64 a0] w fun e w' => e = .returned (.bool r) ∧ Drawn0 w w' := by
 have H : (if a0 = 0 then (some true) else (some (a0 == 1))) = some r := h
 clear h
 by_cases c2 : a0 = 0
 ·rw [if_pos c2] at H
  have c2b0 : (a0 == 0) = true := beq_iff_eq.mpr c2
  have c2b1 : (a0 != 0) = false := bne_eq_false_iff_eq.mpr c2
  clear c2
  obtain rfl := Option.some.inj H
  go_enter Try.func85, Try.ntmps85
  go_wp2
  go_ret
  exact ⟨by first | rfl | (simp; done) | (simp [*]; done), by repeat (first | exact Drawn0.refl _ | apply Drawn0.step)⟩
 ·rw [if_neg c2] at H
  have c2b0 : (a0 == 0) = false := beq_eq_false_iff_ne.mpr c2
  have c2b1 : (a0 != 0) = true := bne_iff_ne.mpr c2
  obtain rfl := Option.some.inj H
  go_enter Try.func85, Try.ntmps85
  go_wp2
  go_ret
  exact ⟨by first | rfl | (simp; done) | (simp [*]; done), by repeat (first | exact Drawn0.refl _ | apply Drawn0.step)⟩

/-! ### spec_l01In: function 100 -/
def spec_l01In.f (a0 : Int) (a1 : Int) (a2 : Int) : Option (Bool) := if a0 ≥ a1 then (some (decide (a0 ≤ a2))) else (some false)
set_option maxHeartbeats 8000000 in
set_option maxRecDepth 100000 in
theorem spec_l01In.calls (a0 : Int) (a1 : Int) (a2 : Int) (r : Bool) (w : World) (h : spec_l01In.f a0 a1 a2 = some r) :
  Calls Try.prog 100 #[.int .i64 a0, .int .i64 a1, .int .i64 a2] w fun e w' => e = .returned (.bool r) ∧ Drawn0 w w' := by
 have H : (if a0 ≥ a1 then (some (decide (a0 ≤ a2))) else (some false)) = some r := h
 clear h
 by_cases c4 : a0 ≥ a1
 ·rw [if_pos c4] at H
  have c4b0 : decide (a1 ≤ a0) = true := decide_eq_true c4
  clear c4
  obtain rfl := Option.some.inj H
  go_enter Try.func100, Try.ntmps100
  go_wp2
  go_ret
  exact ⟨by first | rfl | (simp; done) | (simp [*]; done), by repeat (first | exact Drawn0.refl _ | apply Drawn0.step)⟩
 ·rw [if_neg c4] at H
  have c4b0 : decide (a1 ≤ a0) = false := decide_eq_false c4
  clear c4
  obtain rfl := Option.some.inj H
  go_enter Try.func100, Try.ntmps100
  go_wp2
  go_ret
  exact ⟨by first | rfl | (simp; done) | (simp [*]; done), by repeat (first | exact Drawn0.refl _ | apply Drawn0.step)⟩

/-! ### spec_IsLattice: function 86 -/
def spec_IsLattice.f (a0_0 : Int) (a0_1 : Int) (a0_2 : Int) : Option (Bool) := (spec_l01In.f a0_0 1 64).bind fun t197 => (if t197 = true then ((spec_l01In.f a0_2 1 64).bind fun t198 => (if t198 = true then ((spec_l01In.f a0_1 0 (wrap64 (a0_0 - 1))).bind fun t199 => (if t199 = true then (some (decide ((wrap64 (a0_0 * a0_2)) ≤ 64))) else (some false))) else (some false))) else (some false))
set_option maxHeartbeats 8000000 in
set_option maxRecDepth 100000 in
theorem spec_IsLattice.calls (a0_0 : Int) (a0_1 : Int) (a0_2 : Int) (r : Bool) (w : World) (h : spec_IsLattice.f a0_0 a0_1 a0_2 = some r) :
  Calls Try.prog 86 #[.agg #[.int .i64 a0_0, .int .i64 a0_1, .int .i64 a0_2]] w fun e w' => e = .returned (.bool r) ∧ Below w.heap.size w w' := by
 have hu27 := Try.underlying27
 have HB := Aside0.mk (Below.refl w.heap.size w)
 have H : ((spec_l01In.f a0_0 1 64).bind fun t197 => (if t197 = true then ((spec_l01In.f a0_2 1 64).bind fun t198 => (if t198 = true then ((spec_l01In.f a0_1 0 (wrap64 (a0_0 - 1))).bind fun t199 => (if t199 = true then (some (decide ((wrap64 (a0_0 * a0_2)) ≤ 64))) else (some false))) else (some false))) else (some false))) = some r := h
 clear h
 replace H := Option.bind_eq_some_iff.mp H
 obtain ⟨t197, A20, H⟩ := H
 replace H : (if t197 = true then ((spec_l01In.f a0_2 1 64).bind fun t198 => (if t198 = true then ((spec_l01In.f a0_1 0 (wrap64 (a0_0 - 1))).bind fun t199 => (if t199 = true then (some (decide ((wrap64 (a0_0 * a0_2)) ≤ 64))) else (some false))) else (some false))) else (some false)) = some r := H
 have A2 := Aside0.mk A20
 clear A20
 by_cases c3 : t197 = true
 ·subst c3
  have H1 : ((spec_l01In.f a0_2 1 64).bind fun t198 => (if t198 = true then ((spec_l01In.f a0_1 0 (wrap64 (a0_0 - 1))).bind fun t199 => (if t199 = true then (some (decide ((wrap64 (a0_0 * a0_2)) ≤ 64))) else (some false))) else (some false))) = some r := by rw [if_pos rfl] at H; first | done | exact H
  clear H
  have H := H1
  clear H1
  replace H := Option.bind_eq_some_iff.mp H
  obtain ⟨t198, A40, H⟩ := H
  replace H : (if t198 = true then ((spec_l01In.f a0_1 0 (wrap64 (a0_0 - 1))).bind fun t199 => (if t199 = true then (some (decide ((wrap64 (a0_0 * a0_2)) ≤ 64))) else (some false))) else (some false)) = some r := H
  have A4 := Aside0.mk A40
  clear A40
  by_cases c5 : t198 = true
  ·subst c5
   have H1 : ((spec_l01In.f a0_1 0 (wrap64 (a0_0 - 1))).bind fun t199 => (if t199 = true then (some (decide ((wrap64 (a0_0 * a0_2)) ≤ 64))) else (some false))) = some r := by rw [if_pos rfl] at H; first | done | exact H
   clear H
   have H := H1
   clear H1
   replace H := Option.bind_eq_some_iff.mp H
   obtain ⟨t199, A60, H⟩ := H
   replace H : (if t199 = true then (some (decide ((wrap64 (a0_0 * a0_2)) ≤ 64))) else (some false)) = some r := H
   have A6 := Aside0.mk A60
   clear A60
   by_cases c7 : t199 = true
   ·subst c7
    have H1 : (some (decide ((wrap64 (a0_0 * a0_2)) ≤ 64))) = some r := by rw [if_pos rfl] at H; first | done | exact H
    clear H
    have H := H1
    clear H1
    obtain rfl := Option.some.inj H
    go_enter Try.func86, Try.ntmps86
    go_wp2_with (first | ((with_reducible refine gd 1 rfl ?_); refine be #[.int .i64 a0_0, .int .i64 a0_1, .int .i64 a0_2] 27 ?_; intro gb196 hg w8 hbox hb; have BK196 := Aside0.mk (hbox); have GW196 := ngw0 hg HB; have GE196 := ngw0 hg HB; replace HB := Aside0.mk (bst0 HB hb); clear hb hbox hg; obtain ⟨hcz9_0, hcz9_1, hcz9_2, hfz9_0, hfz9_1, hfz9_2⟩ := bz3 BK196) | ((with_reducible refine gate_callee (f := 100) rfl ?_); refine gl 5 Try.func100 #[.int .i64 a0_0, .int .i64 1, .int .i64 64] ?_; (with_reducible refine (spec_l01In.calls a0_0 1 64 true _ A2.out).mono ?_); rintro e w' ⟨rfl, ⟨nd, rfl⟩⟩; refine ⟨_, rfl, ?_⟩) | (go_at_call 100; (with_reducible refine (spec_l01In.calls a0_2 1 64 true _ A4.out).mono ?_); rintro e w' ⟨rfl, ⟨nd, rfl⟩⟩) | (go_at_call 100; (with_reducible refine (spec_l01In.calls a0_1 0 (wrap64 (a0_0 - 1)) true _ A6.out).mono ?_); rintro e w' ⟨rfl, ⟨nd, rfl⟩⟩))
    go_ret
    exact ⟨by first | rfl | (simp [errW_none, errW_some] <;> rfl) | (simp [*, errW_none, errW_some] <;> rfl), bbw1 HB GE196⟩
   ·replace c7 := Bool.eq_false_iff.mpr c7
    subst c7
    have H1 : (some false) = some r := by rw [if_neg (show ¬ (false = true) by decide)] at H; first | done | exact H
    clear H
    have H := H1
    clear H1
    obtain rfl := Option.some.inj H
    go_enter Try.func86, Try.ntmps86
    go_wp2_with (first | ((with_reducible refine gd 1 rfl ?_); refine be #[.int .i64 a0_0, .int .i64 a0_1, .int .i64 a0_2] 27 ?_; intro gb196 hg w10 hbox hb; have BK196 := Aside0.mk (hbox); have GW196 := ngw0 hg HB; have GE196 := ngw0 hg HB; replace HB := Aside0.mk (bst0 HB hb); clear hb hbox hg; obtain ⟨hcz11_0, hcz11_1, hcz11_2, hfz11_0, hfz11_1, hfz11_2⟩ := bz3 BK196) | ((with_reducible refine gate_callee (f := 100) rfl ?_); refine gl 5 Try.func100 #[.int .i64 a0_0, .int .i64 1, .int .i64 64] ?_; (with_reducible refine (spec_l01In.calls a0_0 1 64 true _ A2.out).mono ?_); rintro e w' ⟨rfl, ⟨nd, rfl⟩⟩; refine ⟨_, rfl, ?_⟩) | (go_at_call 100; (with_reducible refine (spec_l01In.calls a0_2 1 64 true _ A4.out).mono ?_); rintro e w' ⟨rfl, ⟨nd, rfl⟩⟩) | (go_at_call 100; (with_reducible refine (spec_l01In.calls a0_1 0 (wrap64 (a0_0 - 1)) false _ A6.out).mono ?_); rintro e w' ⟨rfl, ⟨nd, rfl⟩⟩))
    go_ret
    exact ⟨by first | rfl | (simp [errW_none, errW_some] <;> rfl) | (simp [*, errW_none, errW_some] <;> rfl), bbw1 HB GE196⟩
  ·replace c5 := Bool.eq_false_iff.mpr c5
   subst c5
   have H1 : (some false) = some r := by rw [if_neg (show ¬ (false = true) by decide)] at H; first | done | exact H
   clear H
   have H := H1
   clear H1
   obtain rfl := Option.some.inj H
   go_enter Try.func86, Try.ntmps86
   go_wp2_with (first | ((with_reducible refine gd 1 rfl ?_); refine be #[.int .i64 a0_0, .int .i64 a0_1, .int .i64 a0_2] 27 ?_; intro gb196 hg w12 hbox hb; have BK196 := Aside0.mk (hbox); have GW196 := ngw0 hg HB; have GE196 := ngw0 hg HB; replace HB := Aside0.mk (bst0 HB hb); clear hb hbox hg; obtain ⟨hcz13_0, hcz13_1, hcz13_2, hfz13_0, hfz13_1, hfz13_2⟩ := bz3 BK196) | ((with_reducible refine gate_callee (f := 100) rfl ?_); refine gl 5 Try.func100 #[.int .i64 a0_0, .int .i64 1, .int .i64 64] ?_; (with_reducible refine (spec_l01In.calls a0_0 1 64 true _ A2.out).mono ?_); rintro e w' ⟨rfl, ⟨nd, rfl⟩⟩; refine ⟨_, rfl, ?_⟩) | (go_at_call 100; (with_reducible refine (spec_l01In.calls a0_2 1 64 false _ A4.out).mono ?_); rintro e w' ⟨rfl, ⟨nd, rfl⟩⟩))
   go_ret
   exact ⟨by first | rfl | (simp [errW_none, errW_some] <;> rfl) | (simp [*, errW_none, errW_some] <;> rfl), bbw1 HB GE196⟩
 ·replace c3 := Bool.eq_false_iff.mpr c3
  subst c3
  have H1 : (some false) = some r := by rw [if_neg (show ¬ (false = true) by decide)] at H; first | done | exact H
  clear H
  have H := H1
  clear H1
  obtain rfl := Option.some.inj H
  go_enter Try.func86, Try.ntmps86
  go_wp2_with (first | ((with_reducible refine gd 1 rfl ?_); refine be #[.int .i64 a0_0, .int .i64 a0_1, .int .i64 a0_2] 27 ?_; intro gb196 hg w14 hbox hb; have BK196 := Aside0.mk (hbox); have GW196 := ngw0 hg HB; have GE196 := ngw0 hg HB; replace HB := Aside0.mk (bst0 HB hb); clear hb hbox hg; obtain ⟨hcz15_0, hcz15_1, hcz15_2, hfz15_0, hfz15_1, hfz15_2⟩ := bz3 BK196) | ((with_reducible refine gate_callee (f := 100) rfl ?_); refine gl 5 Try.func100 #[.int .i64 a0_0, .int .i64 1, .int .i64 64] ?_; (with_reducible refine (spec_l01In.calls a0_0 1 64 false _ A2.out).mono ?_); rintro e w' ⟨rfl, ⟨nd, rfl⟩⟩; refine ⟨_, rfl, ?_⟩))
  go_ret
  exact ⟨by first | rfl | (simp [errW_none, errW_some] <;> rfl) | (simp [*, errW_none, errW_some] <;> rfl), bbw1 HB GE196⟩

/-! ### spec_l04Code: function 56 -/
def spec_l04Code.f (a0 : Int) (a1_0 : Int) (a1_1 : Int) (a1_2 : Int) : Option (Int) := (spec_IsFrame.f a0).bind fun t201 => (if t201 = true then ((spec_IsLattice.f a1_0 a1_1 a1_2).bind fun t202 => (if t202 = true then (some 0) else (some 1))) else (some 1))
set_option maxHeartbeats 8000000 in
set_option maxRecDepth 100000 in
theorem spec_l04Code.calls (a0 : Int) (a1_0 : Int) (a1_1 : Int) (a1_2 : Int) (r : Int) (w : World) (h : spec_l04Code.f a0 a1_0 a1_1 a1_2 = some r) :
  Calls Try.prog 56 #[.int .i64 a0, .agg #[.int .i64 a1_0, .int .i64 a1_1, .int .i64 a1_2]] w fun e w' => e = .returned (.int .i64 r) ∧ Below w.heap.size w w' := by
 have hu27 := Try.underlying27
 have HB := Aside0.mk (Below.refl w.heap.size w)
 have H : ((spec_IsFrame.f a0).bind fun t201 => (if t201 = true then ((spec_IsLattice.f a1_0 a1_1 a1_2).bind fun t202 => (if t202 = true then (some 0) else (some 1))) else (some 1))) = some r := h
 clear h
 replace H := Option.bind_eq_some_iff.mp H
 obtain ⟨t201, A30, H⟩ := H
 replace H : (if t201 = true then ((spec_IsLattice.f a1_0 a1_1 a1_2).bind fun t202 => (if t202 = true then (some 0) else (some 1))) else (some 1)) = some r := H
 have A3 := Aside0.mk A30
 clear A30
 by_cases c4 : t201 = true
 ·subst c4
  have H1 : ((spec_IsLattice.f a1_0 a1_1 a1_2).bind fun t202 => (if t202 = true then (some 0) else (some 1))) = some r := by rw [if_pos rfl] at H; first | done | exact H
  clear H
  have H := H1
  clear H1
  replace H := Option.bind_eq_some_iff.mp H
  obtain ⟨t202, A50, H⟩ := H
  replace H : (if t202 = true then (some 0) else (some 1)) = some r := H
  have A5 := Aside0.mk A50
  clear A50
  by_cases c6 : t202 = true
  ·subst c6
   have H1 : (some 0) = some r := by rw [if_pos rfl] at H; first | done | exact H
   clear H
   have H := H1
   clear H1
   obtain rfl := Option.some.inj H
   go_enter Try.func56, Try.ntmps56
   go_wp2_with (first | ((with_reducible refine gd 3 rfl ?_); refine be #[.int .i64 a1_0, .int .i64 a1_1, .int .i64 a1_2] 27 ?_; intro gb200 hg w7 hbox hb; have BK200 := Aside0.mk (hbox); have GW200 := ngw0 hg HB; have GE200 := ngw0 hg HB; replace HB := Aside0.mk (bst0 HB hb); clear hb hbox hg) | ((with_reducible refine gate_callee (f := 85) rfl ?_); refine gl 6 Try.func85 #[.int .i64 a0] ?_; (with_reducible refine (spec_IsFrame.calls a0 true _ A3.out).mono ?_); rintro e w' ⟨rfl, ⟨nd, rfl⟩⟩; refine ⟨_, rfl, ?_⟩; have hcz8_0 : w7.cell? ⟨gb200, 0, none⟩ = some (.int .i64 a1_0) := bcl BK200 0; have hcz8_1 : w7.cell? ⟨gb200, 1, none⟩ = some (.int .i64 a1_1) := bcl BK200 1; have hcz8_2 : w7.cell? ⟨gb200, 2, none⟩ = some (.int .i64 a1_2) := bcl BK200 2; have hfz8_0 := blk_frozen BK200.out 0; have hfz8_1 := blk_frozen BK200.out 1; have hfz8_2 := blk_frozen BK200.out 2) | (go_at_call 86; (with_reducible refine (spec_IsLattice.calls a1_0 a1_1 a1_2 true _ A5.out).mono ?_); rintro e w9 ⟨rfl, hb⟩; replace BK200 := Aside0.mk (bbl BK200 hb); replace HB := Aside0.mk (bst1 HB GE200 hb); (try clear hb); (try clear hb2); (try clear hk); (try clear hi)))
   go_ret
   exact ⟨by first | rfl | (simp [errW_none, errW_some] <;> rfl) | (simp [*, errW_none, errW_some] <;> rfl), bbw1 HB GE200⟩
  ·replace c6 := Bool.eq_false_iff.mpr c6
   subst c6
   have H1 : (some 1) = some r := by rw [if_neg (show ¬ (false = true) by decide)] at H; first | done | exact H
   clear H
   have H := H1
   clear H1
   obtain rfl := Option.some.inj H
   go_enter Try.func56, Try.ntmps56
   go_wp2_with (first | ((with_reducible refine gd 3 rfl ?_); refine be #[.int .i64 a1_0, .int .i64 a1_1, .int .i64 a1_2] 27 ?_; intro gb200 hg w10 hbox hb; have BK200 := Aside0.mk (hbox); have GW200 := ngw0 hg HB; have GE200 := ngw0 hg HB; replace HB := Aside0.mk (bst0 HB hb); clear hb hbox hg) | ((with_reducible refine gate_callee (f := 85) rfl ?_); refine gl 6 Try.func85 #[.int .i64 a0] ?_; (with_reducible refine (spec_IsFrame.calls a0 true _ A3.out).mono ?_); rintro e w' ⟨rfl, ⟨nd, rfl⟩⟩; refine ⟨_, rfl, ?_⟩; have hcz11_0 : w10.cell? ⟨gb200, 0, none⟩ = some (.int .i64 a1_0) := bcl BK200 0; have hcz11_1 : w10.cell? ⟨gb200, 1, none⟩ = some (.int .i64 a1_1) := bcl BK200 1; have hcz11_2 : w10.cell? ⟨gb200, 2, none⟩ = some (.int .i64 a1_2) := bcl BK200 2; have hfz11_0 := blk_frozen BK200.out 0; have hfz11_1 := blk_frozen BK200.out 1; have hfz11_2 := blk_frozen BK200.out 2) | (go_at_call 86; (with_reducible refine (spec_IsLattice.calls a1_0 a1_1 a1_2 false _ A5.out).mono ?_); rintro e w12 ⟨rfl, hb⟩; replace BK200 := Aside0.mk (bbl BK200 hb); replace HB := Aside0.mk (bst1 HB GE200 hb); (try clear hb); (try clear hb2); (try clear hk); (try clear hi)))
   go_ret
   exact ⟨by first | rfl | (simp [errW_none, errW_some] <;> rfl) | (simp [*, errW_none, errW_some] <;> rfl), bbw1 HB GE200⟩
 ·replace c4 := Bool.eq_false_iff.mpr c4
  subst c4
  have H1 : (some 1) = some r := by rw [if_neg (show ¬ (false = true) by decide)] at H; first | done | exact H
  clear H
  have H := H1
  clear H1
  obtain rfl := Option.some.inj H
  go_enter Try.func56, Try.ntmps56
  go_wp2_with (first | ((with_reducible refine gd 3 rfl ?_); refine be #[.int .i64 a1_0, .int .i64 a1_1, .int .i64 a1_2] 27 ?_; intro gb200 hg w13 hbox hb; have BK200 := Aside0.mk (hbox); have GW200 := ngw0 hg HB; have GE200 := ngw0 hg HB; replace HB := Aside0.mk (bst0 HB hb); clear hb hbox hg) | ((with_reducible refine gate_callee (f := 85) rfl ?_); refine gl 6 Try.func85 #[.int .i64 a0] ?_; (with_reducible refine (spec_IsFrame.calls a0 false _ A3.out).mono ?_); rintro e w' ⟨rfl, ⟨nd, rfl⟩⟩; refine ⟨_, rfl, ?_⟩))
  go_ret
  exact ⟨by first | rfl | (simp [errW_none, errW_some] <;> rfl) | (simp [*, errW_none, errW_some] <;> rfl), bbw1 HB GE200⟩

/-! ### spec_l02Det: function 36 -/
def spec_l02Det.f (a0_0 : Int) (a0_1 : Int) (a0_2 : Int) (a0_3 : Int) : Option (Int) := some (wrap64 ((wrap64 (a0_0 * a0_3)) - (wrap64 (a0_1 * a0_2))))
set_option maxHeartbeats 8000000 in
set_option maxRecDepth 100000 in
theorem spec_l02Det.calls (a0_0 : Int) (a0_1 : Int) (a0_2 : Int) (a0_3 : Int) (r : Int) (w : World) (h : spec_l02Det.f a0_0 a0_1 a0_2 a0_3 = some r) :
  Calls Try.prog 36 #[.agg #[.int .i64 a0_0, .int .i64 a0_1, .int .i64 a0_2, .int .i64 a0_3]] w fun e w' => e = .returned (.int .i64 r) ∧ Below w.heap.size w w' := by
 have hu51 := Try.underlying51
 have HB := Aside0.mk (Below.refl w.heap.size w)
 have H : (some (wrap64 ((wrap64 (a0_0 * a0_3)) - (wrap64 (a0_1 * a0_2))))) = some r := h
 clear h
 obtain rfl := Option.some.inj H
 go_enter Try.func36, Try.ntmps36
 go_wp2_with (first | ((with_reducible refine gd 1 rfl ?_); refine be #[.int .i64 a0_0, .int .i64 a0_1, .int .i64 a0_2, .int .i64 a0_3] 51 ?_; intro gb203 hg w2 hbox hb; have BK203 := Aside0.mk (hbox); have GW203 := ngw0 hg HB; have GE203 := ngw0 hg HB; replace HB := Aside0.mk (bst0 HB hb); clear hb hbox hg; obtain ⟨hcz3_0, hcz3_1, hcz3_2, hcz3_3, hfz3_0, hfz3_1, hfz3_2, hfz3_3⟩ := bz4 BK203))
 go_ret
 exact ⟨by first | rfl | (simp [errW_none, errW_some] <;> rfl) | (simp [*, errW_none, errW_some] <;> rfl), bbw1 HB GE203⟩

/-! ### spec_IsVec: function 89 -/
def spec_IsVec.f (a0_0 : Int) (a0_1 : Int) : Option (Bool) := (spec_l01In.f a0_0 (-1000) 1000).bind fun t205 => (if t205 = true then ((spec_l01In.f a0_1 (-1000) 1000).bind fun t206 => (some t206)) else (some false))
set_option maxHeartbeats 8000000 in
set_option maxRecDepth 100000 in
theorem spec_IsVec.calls (a0_0 : Int) (a0_1 : Int) (r : Bool) (w : World) (h : spec_IsVec.f a0_0 a0_1 = some r) :
  Calls Try.prog 89 #[.agg #[.int .i64 a0_0, .int .i64 a0_1]] w fun e w' => e = .returned (.bool r) ∧ Below w.heap.size w w' := by
 have hu53 := Try.underlying53
 have HB := Aside0.mk (Below.refl w.heap.size w)
 have H : ((spec_l01In.f a0_0 (-1000) 1000).bind fun t205 => (if t205 = true then ((spec_l01In.f a0_1 (-1000) 1000).bind fun t206 => (some t206)) else (some false))) = some r := h
 clear h
 replace H := Option.bind_eq_some_iff.mp H
 obtain ⟨t205, A20, H⟩ := H
 replace H : (if t205 = true then ((spec_l01In.f a0_1 (-1000) 1000).bind fun t206 => (some t206)) else (some false)) = some r := H
 have A2 := Aside0.mk A20
 clear A20
 by_cases c3 : t205 = true
 ·subst c3
  have H1 : ((spec_l01In.f a0_1 (-1000) 1000).bind fun t206 => (some t206)) = some r := by rw [if_pos rfl] at H; first | done | exact H
  clear H
  have H := H1
  clear H1
  replace H := Option.bind_eq_some_iff.mp H
  obtain ⟨t206, A40, H⟩ := H
  replace H : (some t206) = some r := H
  have A4 := Aside0.mk A40
  clear A40
  obtain rfl := Option.some.inj H
  go_enter Try.func89, Try.ntmps89
  go_wp2_with (first | ((with_reducible refine gd 1 rfl ?_); refine be #[.int .i64 a0_0, .int .i64 a0_1] 53 ?_; intro gb204 hg w5 hbox hb; have BK204 := Aside0.mk (hbox); have GW204 := ngw0 hg HB; have GE204 := ngw0 hg HB; replace HB := Aside0.mk (bst0 HB hb); clear hb hbox hg; obtain ⟨hcz6_0, hcz6_1, hfz6_0, hfz6_1⟩ := bz2 BK204) | ((with_reducible refine gate_callee (f := 100) rfl ?_); refine gl 5 Try.func100 #[.int .i64 a0_0, .int .i64 (-1000), .int .i64 1000] ?_; (with_reducible refine (spec_l01In.calls a0_0 (-1000) 1000 true _ A2.out).mono ?_); rintro e w' ⟨rfl, ⟨nd, rfl⟩⟩; refine ⟨_, rfl, ?_⟩) | (go_at_call 100; (with_reducible refine (spec_l01In.calls a0_1 (-1000) 1000 t206 _ A4.out).mono ?_); rintro e w' ⟨rfl, ⟨nd, rfl⟩⟩))
  go_ret
  exact ⟨by first | rfl | (simp [errW_none, errW_some] <;> rfl) | (simp [*, errW_none, errW_some] <;> rfl), bbw1 HB GE204⟩
 ·replace c3 := Bool.eq_false_iff.mpr c3
  subst c3
  have H1 : (some false) = some r := by rw [if_neg (show ¬ (false = true) by decide)] at H; first | done | exact H
  clear H
  have H := H1
  clear H1
  obtain rfl := Option.some.inj H
  go_enter Try.func89, Try.ntmps89
  go_wp2_with (first | ((with_reducible refine gd 1 rfl ?_); refine be #[.int .i64 a0_0, .int .i64 a0_1] 53 ?_; intro gb204 hg w7 hbox hb; have BK204 := Aside0.mk (hbox); have GW204 := ngw0 hg HB; have GE204 := ngw0 hg HB; replace HB := Aside0.mk (bst0 HB hb); clear hb hbox hg; obtain ⟨hcz8_0, hcz8_1, hfz8_0, hfz8_1⟩ := bz2 BK204) | ((with_reducible refine gate_callee (f := 100) rfl ?_); refine gl 5 Try.func100 #[.int .i64 a0_0, .int .i64 (-1000), .int .i64 1000] ?_; (with_reducible refine (spec_l01In.calls a0_0 (-1000) 1000 false _ A2.out).mono ?_); rintro e w' ⟨rfl, ⟨nd, rfl⟩⟩; refine ⟨_, rfl, ?_⟩))
  go_ret
  exact ⟨by first | rfl | (simp [errW_none, errW_some] <;> rfl) | (simp [*, errW_none, errW_some] <;> rfl), bbw1 HB GE204⟩

/-! ### spec_l02Small: function 69 -/
def spec_l02Small.f (a0_0 : Int) (a0_1 : Int) (a0_2 : Int) (a0_3 : Int) : Option (Bool) := (spec_IsVec.f a0_0 a0_1).bind fun t208 => (if t208 = true then ((spec_IsVec.f a0_2 a0_3).bind fun t209 => (some t209)) else (some false))
set_option maxHeartbeats 8000000 in
set_option maxRecDepth 100000 in
theorem spec_l02Small.calls (a0_0 : Int) (a0_1 : Int) (a0_2 : Int) (a0_3 : Int) (r : Bool) (w : World) (h : spec_l02Small.f a0_0 a0_1 a0_2 a0_3 = some r) :
  Calls Try.prog 69 #[.agg #[.int .i64 a0_0, .int .i64 a0_1, .int .i64 a0_2, .int .i64 a0_3]] w fun e w' => e = .returned (.bool r) ∧ Below w.heap.size w w' := by
 have hu51 := Try.underlying51
 have hu53 := Try.underlying53
 have HB := Aside0.mk (Below.refl w.heap.size w)
 have H : ((spec_IsVec.f a0_0 a0_1).bind fun t208 => (if t208 = true then ((spec_IsVec.f a0_2 a0_3).bind fun t209 => (some t209)) else (some false))) = some r := h
 clear h
 replace H := Option.bind_eq_some_iff.mp H
 obtain ⟨t208, A20, H⟩ := H
 replace H : (if t208 = true then ((spec_IsVec.f a0_2 a0_3).bind fun t209 => (some t209)) else (some false)) = some r := H
 have A2 := Aside0.mk A20
 clear A20
 by_cases c3 : t208 = true
 ·subst c3
  have H1 : ((spec_IsVec.f a0_2 a0_3).bind fun t209 => (some t209)) = some r := by rw [if_pos rfl] at H; first | done | exact H
  clear H
  have H := H1
  clear H1
  replace H := Option.bind_eq_some_iff.mp H
  obtain ⟨t209, A40, H⟩ := H
  replace H : (some t209) = some r := H
  have A4 := Aside0.mk A40
  clear A40
  obtain rfl := Option.some.inj H
  go_enter Try.func69, Try.ntmps69
  go_wp2_with (first | ((with_reducible refine gd 1 rfl ?_); refine be #[.int .i64 a0_0, .int .i64 a0_1, .int .i64 a0_2, .int .i64 a0_3] 51 ?_; intro gb207 hg w5 hbox hb; have BK207 := Aside0.mk (hbox); have GW207 := ngw0 hg HB; have GE207 := ngw0 hg HB; replace HB := Aside0.mk (bst0 HB hb); clear hb hbox hg; obtain ⟨hcz6_0, hcz6_1, hcz6_2, hcz6_3, hfz6_0, hfz6_1, hfz6_2, hfz6_3⟩ := bz4 BK207) | ((with_reducible refine gate_callee (f := 89) rfl ?_); refine gl 8 Try.func89 #[.agg #[.int .i64 a0_0, .int .i64 a0_1]] ?_; (with_reducible refine (spec_IsVec.calls a0_0 a0_1 true _ A2.out).mono ?_); rintro e w7 ⟨rfl, hb⟩; refine ⟨_, rfl, ?_⟩; replace BK207 := Aside0.mk (bbl BK207 hb); replace HB := Aside0.mk (bst1 HB GE207 hb); (try clear hb); (try clear hb2); (try clear hk); (try clear hi); obtain ⟨hcz8_0, hcz8_1, hcz8_2, hcz8_3, hfz8_0, hfz8_1, hfz8_2, hfz8_3⟩ := bz4 BK207) | (go_at_call 89; (with_reducible refine (spec_IsVec.calls a0_2 a0_3 t209 _ A4.out).mono ?_); rintro e w9 ⟨rfl, hb⟩; replace BK207 := Aside0.mk (bbl BK207 hb); replace HB := Aside0.mk (bst1 HB GE207 hb); (try clear hb); (try clear hb2); (try clear hk); (try clear hi)))
  go_ret
  exact ⟨by first | rfl | (simp [errW_none, errW_some] <;> rfl) | (simp [*, errW_none, errW_some] <;> rfl), bbw1 HB GE207⟩
 ·replace c3 := Bool.eq_false_iff.mpr c3
  subst c3
  have H1 : (some false) = some r := by rw [if_neg (show ¬ (false = true) by decide)] at H; first | done | exact H
  clear H
  have H := H1
  clear H1
  obtain rfl := Option.some.inj H
  go_enter Try.func69, Try.ntmps69
  go_wp2_with (first | ((with_reducible refine gd 1 rfl ?_); refine be #[.int .i64 a0_0, .int .i64 a0_1, .int .i64 a0_2, .int .i64 a0_3] 51 ?_; intro gb207 hg w10 hbox hb; have BK207 := Aside0.mk (hbox); have GW207 := ngw0 hg HB; have GE207 := ngw0 hg HB; replace HB := Aside0.mk (bst0 HB hb); clear hb hbox hg; obtain ⟨hcz11_0, hcz11_1, hcz11_2, hcz11_3, hfz11_0, hfz11_1, hfz11_2, hfz11_3⟩ := bz4 BK207) | ((with_reducible refine gate_callee (f := 89) rfl ?_); refine gl 8 Try.func89 #[.agg #[.int .i64 a0_0, .int .i64 a0_1]] ?_; (with_reducible refine (spec_IsVec.calls a0_0 a0_1 false _ A2.out).mono ?_); rintro e w12 ⟨rfl, hb⟩; refine ⟨_, rfl, ?_⟩; replace BK207 := Aside0.mk (bbl BK207 hb); replace HB := Aside0.mk (bst1 HB GE207 hb); (try clear hb); (try clear hb2); (try clear hk); (try clear hi)))
  go_ret
  exact ⟨by first | rfl | (simp [errW_none, errW_some] <;> rfl) | (simp [*, errW_none, errW_some] <;> rfl), bbw1 HB GE207⟩

/-! ### spec_IsMat: function 101 -/
def spec_IsMat.f (a0_0 : Int) (a0_1 : Int) (a0_2 : Int) (a0_3 : Int) : Option (Bool) := (spec_l02Small.f a0_0 a0_1 a0_2 a0_3).bind fun t211 => (if t211 = true then ((spec_l02Det.f a0_0 a0_1 a0_2 a0_3).bind fun t212 => (if t212 = 1 then (some true) else ((spec_l02Det.f a0_0 a0_1 a0_2 a0_3).bind fun t213 => (some (t213 == (-1)))))) else (some false))
set_option maxHeartbeats 8000000 in
set_option maxRecDepth 100000 in
theorem spec_IsMat.calls (a0_0 : Int) (a0_1 : Int) (a0_2 : Int) (a0_3 : Int) (r : Bool) (w : World) (h : spec_IsMat.f a0_0 a0_1 a0_2 a0_3 = some r) :
  Calls Try.prog 101 #[.agg #[.int .i64 a0_0, .int .i64 a0_1, .int .i64 a0_2, .int .i64 a0_3]] w fun e w' => e = .returned (.bool r) ∧ Below w.heap.size w w' := by
 have hu51 := Try.underlying51
 have HB := Aside0.mk (Below.refl w.heap.size w)
 have H : ((spec_l02Small.f a0_0 a0_1 a0_2 a0_3).bind fun t211 => (if t211 = true then ((spec_l02Det.f a0_0 a0_1 a0_2 a0_3).bind fun t212 => (if t212 = 1 then (some true) else ((spec_l02Det.f a0_0 a0_1 a0_2 a0_3).bind fun t213 => (some (t213 == (-1)))))) else (some false))) = some r := h
 clear h
 replace H := Option.bind_eq_some_iff.mp H
 obtain ⟨t211, A20, H⟩ := H
 replace H : (if t211 = true then ((spec_l02Det.f a0_0 a0_1 a0_2 a0_3).bind fun t212 => (if t212 = 1 then (some true) else ((spec_l02Det.f a0_0 a0_1 a0_2 a0_3).bind fun t213 => (some (t213 == (-1)))))) else (some false)) = some r := H
 have A2 := Aside0.mk A20
 clear A20
 by_cases c3 : t211 = true
 ·subst c3
  have H1 : ((spec_l02Det.f a0_0 a0_1 a0_2 a0_3).bind fun t212 => (if t212 = 1 then (some true) else ((spec_l02Det.f a0_0 a0_1 a0_2 a0_3).bind fun t213 => (some (t213 == (-1)))))) = some r := by rw [if_pos rfl] at H; first | done | exact H
  clear H
  have H := H1
  clear H1
  replace H := Option.bind_eq_some_iff.mp H
  obtain ⟨t212, A40, H⟩ := H
  replace H : (if t212 = 1 then (some true) else ((spec_l02Det.f a0_0 a0_1 a0_2 a0_3).bind fun t213 => (some (t213 == (-1))))) = some r := H
  have A4 := Aside0.mk A40
  clear A40
  by_cases c5 : t212 = 1
  ·rw [if_pos c5] at H
   have c5b0 : (t212 == 1) = true := beq_iff_eq.mpr c5
   have c5b1 : (t212 != 1) = false := bne_eq_false_iff_eq.mpr c5
   clear c5
   obtain rfl := Option.some.inj H
   go_enter Try.func101, Try.ntmps101
   go_wp2_with (first | ((with_reducible refine gd 1 rfl ?_); refine be #[.int .i64 a0_0, .int .i64 a0_1, .int .i64 a0_2, .int .i64 a0_3] 51 ?_; intro gb210 hg w6 hbox hb; have BK210 := Aside0.mk (hbox); have GW210 := ngw0 hg HB; have GE210 := ngw0 hg HB; replace HB := Aside0.mk (bst0 HB hb); clear hb hbox hg; obtain ⟨hcz7_0, hcz7_1, hcz7_2, hcz7_3, hfz7_0, hfz7_1, hfz7_2, hfz7_3⟩ := bz4 BK210) | ((with_reducible refine gate_callee (f := 69) rfl ?_); refine gl 4 Try.func69 #[.agg #[.int .i64 a0_0, .int .i64 a0_1, .int .i64 a0_2, .int .i64 a0_3]] ?_; (with_reducible refine (spec_l02Small.calls a0_0 a0_1 a0_2 a0_3 true _ A2.out).mono ?_); rintro e w8 ⟨rfl, hb⟩; refine ⟨_, rfl, ?_⟩; replace BK210 := Aside0.mk (bbl BK210 hb); replace HB := Aside0.mk (bst1 HB GE210 hb); (try clear hb); (try clear hb2); (try clear hk); (try clear hi); obtain ⟨hcz9_0, hcz9_1, hcz9_2, hcz9_3, hfz9_0, hfz9_1, hfz9_2, hfz9_3⟩ := bz4 BK210) | (go_at_call 36; (with_reducible refine (spec_l02Det.calls a0_0 a0_1 a0_2 a0_3 t212 _ A4.out).mono ?_); rintro e w10 ⟨rfl, hb⟩; replace BK210 := Aside0.mk (bbl BK210 hb); replace HB := Aside0.mk (bst1 HB GE210 hb); (try clear hb); (try clear hb2); (try clear hk); (try clear hi)))
   go_ret
   exact ⟨by first | rfl | (simp [errW_none, errW_some] <;> rfl) | (simp [*, errW_none, errW_some] <;> rfl), bbw1 HB GE210⟩
  ·rw [if_neg c5] at H
   have c5b0 : (t212 == 1) = false := beq_eq_false_iff_ne.mpr c5
   have c5b1 : (t212 != 1) = true := bne_iff_ne.mpr c5
   replace H := Option.bind_eq_some_iff.mp H
   obtain ⟨t213, A110, H⟩ := H
   replace H : (some (t213 == (-1))) = some r := H
   have A11 := Aside0.mk A110
   clear A110
   have e_ : t212 = t213 := Option.some.inj (A4.out.symm.trans A11.out)
   subst e_
   obtain rfl := Option.some.inj H
   go_enter Try.func101, Try.ntmps101
   go_wp2_with (first | ((with_reducible refine gd 1 rfl ?_); refine be #[.int .i64 a0_0, .int .i64 a0_1, .int .i64 a0_2, .int .i64 a0_3] 51 ?_; intro gb210 hg w12 hbox hb; have BK210 := Aside0.mk (hbox); have GW210 := ngw0 hg HB; have GE210 := ngw0 hg HB; replace HB := Aside0.mk (bst0 HB hb); clear hb hbox hg; obtain ⟨hcz13_0, hcz13_1, hcz13_2, hcz13_3, hfz13_0, hfz13_1, hfz13_2, hfz13_3⟩ := bz4 BK210) | ((with_reducible refine gate_callee (f := 69) rfl ?_); refine gl 4 Try.func69 #[.agg #[.int .i64 a0_0, .int .i64 a0_1, .int .i64 a0_2, .int .i64 a0_3]] ?_; (with_reducible refine (spec_l02Small.calls a0_0 a0_1 a0_2 a0_3 true _ A2.out).mono ?_); rintro e w14 ⟨rfl, hb⟩; refine ⟨_, rfl, ?_⟩; replace BK210 := Aside0.mk (bbl BK210 hb); replace HB := Aside0.mk (bst1 HB GE210 hb); (try clear hb); (try clear hb2); (try clear hk); (try clear hi); obtain ⟨hcz15_0, hcz15_1, hcz15_2, hcz15_3, hfz15_0, hfz15_1, hfz15_2, hfz15_3⟩ := bz4 BK210) | (go_at_call 36; (with_reducible refine (spec_l02Det.calls a0_0 a0_1 a0_2 a0_3 t212 _ A4.out).mono ?_); rintro e w16 ⟨rfl, hb⟩; replace BK210 := Aside0.mk (bbl BK210 hb); replace HB := Aside0.mk (bst1 HB GE210 hb); (try clear hb); (try clear hb2); (try clear hk); (try clear hi); obtain ⟨hcz17_0, hcz17_1, hcz17_2, hcz17_3, hfz17_0, hfz17_1, hfz17_2, hfz17_3⟩ := bz4 BK210) | (go_at_call 36; (with_reducible refine (spec_l02Det.calls a0_0 a0_1 a0_2 a0_3 t213 _ A11.out).mono ?_); rintro e w18 ⟨rfl, hb⟩; replace BK210 := Aside0.mk (bbl BK210 hb); replace HB := Aside0.mk (bst1 HB GE210 hb); (try clear hb); (try clear hb2); (try clear hk); (try clear hi)))
   go_ret
   exact ⟨by first | rfl | (simp [errW_none, errW_some] <;> rfl) | (simp [*, errW_none, errW_some] <;> rfl), bbw1 HB GE210⟩
 ·replace c3 := Bool.eq_false_iff.mpr c3
  subst c3
  have H1 : (some false) = some r := by rw [if_neg (show ¬ (false = true) by decide)] at H; first | done | exact H
  clear H
  have H := H1
  clear H1
  obtain rfl := Option.some.inj H
  go_enter Try.func101, Try.ntmps101
  go_wp2_with (first | ((with_reducible refine gd 1 rfl ?_); refine be #[.int .i64 a0_0, .int .i64 a0_1, .int .i64 a0_2, .int .i64 a0_3] 51 ?_; intro gb210 hg w19 hbox hb; have BK210 := Aside0.mk (hbox); have GW210 := ngw0 hg HB; have GE210 := ngw0 hg HB; replace HB := Aside0.mk (bst0 HB hb); clear hb hbox hg; obtain ⟨hcz20_0, hcz20_1, hcz20_2, hcz20_3, hfz20_0, hfz20_1, hfz20_2, hfz20_3⟩ := bz4 BK210) | ((with_reducible refine gate_callee (f := 69) rfl ?_); refine gl 4 Try.func69 #[.agg #[.int .i64 a0_0, .int .i64 a0_1, .int .i64 a0_2, .int .i64 a0_3]] ?_; (with_reducible refine (spec_l02Small.calls a0_0 a0_1 a0_2 a0_3 false _ A2.out).mono ?_); rintro e w21 ⟨rfl, hb⟩; refine ⟨_, rfl, ?_⟩; replace BK210 := Aside0.mk (bbl BK210 hb); replace HB := Aside0.mk (bst1 HB GE210 hb); (try clear hb); (try clear hb2); (try clear hk); (try clear hi)))
  go_ret
  exact ⟨by first | rfl | (simp [errW_none, errW_some] <;> rfl) | (simp [*, errW_none, errW_some] <;> rfl), bbw1 HB GE210⟩

/-! ### spec_l04Norm: function 119 -/
def spec_l04Norm.f (a0 : Int) (a1_0 : Int) (a1_1 : Int) : Option (Int) := if a0 = 1 then (some (wrap64 ((wrap64 ((wrap64 (a1_0 * a1_0)) + (wrap64 (a1_1 * a1_1)))) + (wrap64 (a1_0 * a1_1))))) else (some (wrap64 ((wrap64 (a1_0 * a1_0)) + (wrap64 (a1_1 * a1_1)))))
set_option maxHeartbeats 8000000 in
set_option maxRecDepth 100000 in
theorem spec_l04Norm.calls (a0 : Int) (a1_0 : Int) (a1_1 : Int) (r : Int) (w : World) (h : spec_l04Norm.f a0 a1_0 a1_1 = some r) :
  Calls Try.prog 119 #[.int .i64 a0, .agg #[.int .i64 a1_0, .int .i64 a1_1]] w fun e w' => e = .returned (.int .i64 r) ∧ Below w.heap.size w w' := by
 have hu53 := Try.underlying53
 have HB := Aside0.mk (Below.refl w.heap.size w)
 have H : (if a0 = 1 then (some (wrap64 ((wrap64 ((wrap64 (a1_0 * a1_0)) + (wrap64 (a1_1 * a1_1)))) + (wrap64 (a1_0 * a1_1))))) else (some (wrap64 ((wrap64 (a1_0 * a1_0)) + (wrap64 (a1_1 * a1_1)))))) = some r := h
 clear h
 by_cases c3 : a0 = 1
 ·rw [if_pos c3] at H
  have c3b0 : (a0 == 1) = true := beq_iff_eq.mpr c3
  have c3b1 : (a0 != 1) = false := bne_eq_false_iff_eq.mpr c3
  clear c3
  obtain rfl := Option.some.inj H
  go_enter Try.func119, Try.ntmps119
  go_wp2_with (first | ((with_reducible refine gd 3 rfl ?_); refine be #[.int .i64 a1_0, .int .i64 a1_1] 53 ?_; intro gb214 hg w4 hbox hb; have BK214 := Aside0.mk (hbox); have GW214 := ngw0 hg HB; have GE214 := ngw0 hg HB; replace HB := Aside0.mk (bst0 HB hb); clear hb hbox hg; obtain ⟨hcz5_0, hcz5_1, hfz5_0, hfz5_1⟩ := bz2 BK214))
  go_ret
  exact ⟨by first | rfl | (simp [errW_none, errW_some] <;> rfl) | (simp [*, errW_none, errW_some] <;> rfl), bbw1 HB GE214⟩
 ·rw [if_neg c3] at H
  have c3b0 : (a0 == 1) = false := beq_eq_false_iff_ne.mpr c3
  have c3b1 : (a0 != 1) = true := bne_iff_ne.mpr c3
  obtain rfl := Option.some.inj H
  go_enter Try.func119, Try.ntmps119
  go_wp2_with (first | ((with_reducible refine gd 3 rfl ?_); refine be #[.int .i64 a1_0, .int .i64 a1_1] 53 ?_; intro gb214 hg w6 hbox hb; have BK214 := Aside0.mk (hbox); have GW214 := ngw0 hg HB; have GE214 := ngw0 hg HB; replace HB := Aside0.mk (bst0 HB hb); clear hb hbox hg; obtain ⟨hcz7_0, hcz7_1, hfz7_0, hfz7_1⟩ := bz2 BK214))
  go_ret
  exact ⟨by first | rfl | (simp [errW_none, errW_some] <;> rfl) | (simp [*, errW_none, errW_some] <;> rfl), bbw1 HB GE214⟩
end Go.Proofs.Ytcchmdodifkloaa.PA
