/- Walks written by program: each Go function that the law reaches comes to the plain function beside it. -/
import Derived.Test.YtndfnaehpdkaiaaPBx0
import Derived.Test.YtndfnaehpdkaiaaPBx1
import Derived.Test.YtndfnaehpdkaiaaPBx2
import Derived.Test.YtndfnaehpdkaiaaPBx5
import Derived.Test.YtndfnaehpdkaiaaPBx6
namespace Go.Proofs.Ytndfnaehpdkaiaa.PB
open Go.RowKit Go.Proofs.YtndfnaehpdkaiaaW.PrintWords Go.Proofs.YtndfnaehpdkaiaaW.PrintLast Go.Proofs.YtndfnaehpdkaiaaW.PrintMore
attribute [local go_sem] max2_int min2_int max_two min_two max_three min_three max_four min_four   -- for this text's walks alone
set_option linter.unusedVariables false
set_option linter.unusedSimpArgs false

/-! ### spec_l04Image: function 40 -/
def spec_l04Image.f (k : Nat) (a0_0 : Int) (a0_1 : Int) (a0_2 : Int) (a0_3 : Int) (a1_0 : Int) (a1_1 : Int) (a1_2 : Int) : Option (Int × Int × Int) := (spec_l03Basis.f a1_0 a1_1 a1_2).bind fun t173 => (if 0 < (t173.length : Int) then ((spec_l02Apply.f a0_0 a0_1 a0_2 a0_3 ((rd_T34 t173 0).f0) ((rd_T34 t173 0).f1)).bind fun bt177 => (if 1 < (t173.length : Int) then ((spec_l02Apply.f a0_0 a0_1 a0_2 a0_3 ((rd_T34 t173 1).f0) ((rd_T34 t173 1).f1)).bind fun bt180 => ((spec_l03Hermite.f k (([(⟨bt177.1, bt177.2⟩ : S34), (⟨bt180.1, bt180.2⟩ : S34)] : List (S34)))).bind fun bt185 => (some (bt185.1, bt185.2.1, bt185.2.2)))) else (none))) else (none))
def spec_l04Image.T2 : Bool × List (List Nat × List Nat) := (true, [([], []), ([], []), ([1], [1]), ([2], [2]), ([0, 3], [0, 3]), ([], []), ([], []), ([6], [6]), ([7], [7]), ([5, 8, 4], [5, 8]), ([4, 9], [4, 9]), ([10, 9], [10]), ([11, 11, 0, 1, 2, 3, 4, 5, 6, 7, 8, 9, 10, 11], [11])])
def spec_l04Image.B2 : List Nat := [0, 0, 2, 6, 15, 0, 0, 64, 192, 511, 1023, 2047, 4095]
theorem spec_l04Image.tab2 : rtab .any (opsOf Try.f40 2) = spec_l04Image.T2 := by kernel_rfl
theorem spec_l04Image.bits2 : waitsOk spec_l04Image.T2.2 spec_l04Image.B2 = true := by kernel_rfl
set_option maxHeartbeats 8000000 in
set_option maxRecDepth 100000 in
theorem spec_l04Image.calls (k : Nat) (a0_0 : Int) (a0_1 : Int) (a0_2 : Int) (a0_3 : Int) (a1_0 : Int) (a1_1 : Int) (a1_2 : Int) (r1 : Int) (r2 : Int) (r3 : Int) (w : World) (h : spec_l04Image.f k a0_0 a0_1 a0_2 a0_3 a1_0 a1_1 a1_2 = some (r1, r2, r3)) :
  Calls Try.prog 40 #[.agg #[.int .i64 a0_0, .int .i64 a0_1, .int .i64 a0_2, .int .i64 a0_3], .agg #[.int .i64 a1_0, .int .i64 a1_1, .int .i64 a1_2]] w fun e w' => e = .returned (.agg #[.int .i64 r1, .int .i64 r2, .int .i64 r3]) ∧ Below w.heap.size w w' := by
 have hu33 := Try.underlying33
 have hu31 := Try.underlying31
 have hu34 := Try.underlying34
 have HB := Aside0.mk (Below.refl w.heap.size w)
 have H : ((spec_l03Basis.f a1_0 a1_1 a1_2).bind fun t173 => (if 0 < (t173.length : Int) then ((spec_l02Apply.f a0_0 a0_1 a0_2 a0_3 ((rd_T34 t173 0).f0) ((rd_T34 t173 0).f1)).bind fun bt177 => (if 1 < (t173.length : Int) then ((spec_l02Apply.f a0_0 a0_1 a0_2 a0_3 ((rd_T34 t173 1).f0) ((rd_T34 t173 1).f1)).bind fun bt180 => ((spec_l03Hermite.f k (([(⟨bt177.1, bt177.2⟩ : S34), (⟨bt180.1, bt180.2⟩ : S34)] : List (S34)))).bind fun bt185 => (some (bt185.1, bt185.2.1, bt185.2.2)))) else (none))) else (none))) = some (r1, r2, r3) := h
 clear h
 replace H := Option.bind_eq_some_iff.mp H
 obtain ⟨t173, A30, H⟩ := H
 replace H : (if 0 < (t173.length : Int) then ((spec_l02Apply.f a0_0 a0_1 a0_2 a0_3 ((rd_T34 t173 0).f0) ((rd_T34 t173 0).f1)).bind fun bt177 => (if 1 < (t173.length : Int) then ((spec_l02Apply.f a0_0 a0_1 a0_2 a0_3 ((rd_T34 t173 1).f0) ((rd_T34 t173 1).f1)).bind fun bt180 => ((spec_l03Hermite.f k (([(⟨bt177.1, bt177.2⟩ : S34), (⟨bt180.1, bt180.2⟩ : S34)] : List (S34)))).bind fun bt185 => (some (bt185.1, bt185.2.1, bt185.2.2)))) else (none))) else (none)) = some (r1, r2, r3) := H
 have A3 := Aside0.mk A30
 clear A30
 by_cases c4 : 0 < (t173.length : Int)
 ·rw [if_pos c4] at H
  have c4b0 : decide (0 < (t173.length : Int)) = true := decide_eq_true c4
  have c4b1 : decide (0 < t173.length) = true := decide_eq_true (by omega)
  clear c4
  replace H := Option.bind_eq_some_iff.mp H
  obtain ⟨⟨t177, t178⟩, A50, H⟩ := H
  replace H : (if 1 < (t173.length : Int) then ((spec_l02Apply.f a0_0 a0_1 a0_2 a0_3 ((rd_T34 t173 1).f0) ((rd_T34 t173 1).f1)).bind fun bt180 => ((spec_l03Hermite.f k (([(⟨t177, t178⟩ : S34), (⟨bt180.1, bt180.2⟩ : S34)] : List (S34)))).bind fun bt185 => (some (bt185.1, bt185.2.1, bt185.2.2)))) else (none)) = some (r1, r2, r3) := H
  have A5 := Aside0.mk A50
  clear A50
  by_cases c6 : 1 < (t173.length : Int)
  ·rw [if_pos c6] at H
   have c6b0 : decide (1 < (t173.length : Int)) = true := decide_eq_true c6
   have c6b1 : decide (1 < t173.length) = true := decide_eq_true (by omega)
   clear c6
   replace H := Option.bind_eq_some_iff.mp H
   obtain ⟨⟨t180, t181⟩, A70, H⟩ := H
   replace H : ((spec_l03Hermite.f k (([(⟨t177, t178⟩ : S34), (⟨t180, t181⟩ : S34)] : List (S34)))).bind fun bt185 => (some (bt185.1, bt185.2.1, bt185.2.2))) = some (r1, r2, r3) := H
   have A7 := Aside0.mk A70
   clear A70
   obtain ⟨y182, hy182⟩ : ∃ y_ : List (S34), y_ = (([(⟨t177, t178⟩ : S34), (⟨t180, t181⟩ : S34)] : List (S34))) := ⟨_, rfl⟩
   replace H : ((spec_l03Hermite.f k y182).bind fun bt185 => (some (bt185.1, bt185.2.1, bt185.2.2))) = some (r1, r2, r3) := by first | (rw [hy182]; with_reducible exact H) | (have H2_ := (Option.bind_some _ _).symm.trans H; rw [hy182]; with_reducible exact H2_) | (have H2_ := (Option.bind_some _ _).symm.trans H; with_reducible exact H2_) | with_reducible exact H | (rw [hy182]; exact H) | exact H
   have Ny182 := Aside0.mk hy182
   clear hy182
   replace H := Option.bind_eq_some_iff.mp H
   obtain ⟨⟨t185, t186, t187⟩, A80, H⟩ := H
   replace H : (some (t185, t186, t187)) = some (r1, r2, r3) := H
   have A8 := Aside0.mk A80
   clear A80
   simp only [Option.some.injEq, Prod.mk.injEq] at H
   obtain ⟨rfl, rfl, rfl⟩ := H
   go_enter Try.func40, Try.ntmps40
   try go_wp2_with (first | ((with_reducible refine gate_dst (N := 2) rfl ?_); refine box_event ?hg (N := 2) ?hd (cs := #[.int .i64 a0_0, .int .i64 a0_1, .int .i64 a0_2, .int .i64 a0_3]) (t := 33) ?hr ?_; (case hd => rfl); (case hg => rfl); (case hr => first | (go_simp; done) | (go_simp; rfl)); intro gb170 hg w9 hbox hb; have BK170 := Aside0.mk (hbox); have GW170 := ngw0 hg HB; have GE170 := ngw0 hg HB; replace HB := Aside0.mk (bst0 HB hb); clear hb hbox hg) | ((with_reducible refine gate_dst (N := 3) rfl ?_); refine box_event ?hg (N := 3) ?hd (cs := #[.int .i64 a1_0, .int .i64 a1_1, .int .i64 a1_2]) (t := 31) ?hr ?_; (case hd => rfl); (case hg => rfl); (case hr => first | (go_simp; done) | (go_simp; rfl)); intro gb171 hg w10 hbox hb; have BK171 := Aside0.mk (hbox); have GW171 := ngw1 hg HB GE170; have GE171 := ngw1 hg HB GE170; replace HB := Aside0.mk (bst1 HB GE170 hb); have NB170_171 := nlt hg BK170; have NB171_170 := nsy (nlt hg BK170); replace BK170 := Aside0.mk (bbl BK170 hb); clear hb hbox hg) | ((with_reducible refine gate_dst (N := 4) rfl ?_); refine box_event ?hg (N := 4) ?hd (cs := #[.int .i64 0, .int .i64 0, .int .i64 0]) (t := 31) ?hr ?_; (case hd => rfl); (case hg => rfl); (case hr => first | (go_simp; done) | (go_simp; rfl)); intro gb172 hg w11 hbox hb; have BK172 := Aside0.mk (hbox); have GW172 := ngw2 hg HB GE170 GE171; have GE172 := ngw2 hg HB GE170 GE171; replace HB := Aside0.mk (bst2 HB GE170 GE171 hb); have NB170_172 := nlt hg BK170; have NB172_170 := nsy (nlt hg BK170); replace BK170 := Aside0.mk (bbl BK170 hb); have NB171_172 := nlt hg BK171; have NB172_171 := nsy (nlt hg BK171); replace BK171 := Aside0.mk (bbl BK171 hb); clear hb hbox hg; have hnb12 := NB171_170.out; have hnc12 := NB170_171.out; have hnb13 := NB171_172.out; have hnc13 := NB172_171.out; obtain ⟨hcz14_0, hcz14_1, hcz14_2, hfz14_0, hfz14_1, hfz14_2⟩ := bz3 BK171) | ((with_reducible refine gate_callee (f := 76) rfl ?_); refine goesL_ (some 7) rfl rfl Try.func76 (by kernel_rfl) rfl #[.agg #[.int .i64 a1_0, .int .i64 a1_1, .int .i64 a1_2]] rfl (by (try simp only [List.map_toArray, List.map_cons, List.map_nil]); first | done | rfl | (simp only [List.length_drop, List.length_take]; rfl)) ?_; (with_reducible refine (spec_l03Basis.calls a1_0 a1_1 a1_2 t173 _ A3.out).mono ?_); rintro e w15 ⟨v174, rfl, ho0, hb⟩; refine ⟨_, rfl, ?_⟩; have HO175 := Aside0.mk (Kd.R_lower ho0 (bsz3 HB GE170 GE171 GE172)); replace BK170 := Aside0.mk (bbl BK170 hb); replace BK171 := Aside0.mk (bbl BK171 hb); replace BK172 := Aside0.mk (bbl BK172 hb); replace HB := Aside0.mk (bst3 HB GE170 GE171 GE172 hb); (try clear hb); (try clear hb2); (try clear hk); (try clear hi); (try clear ho0)))
   replace HO175 := Aside0.mk (Kd.R_drew HO175.out)
   replace BK170 := Aside0.mk (blk_drew BK170.out)
   replace BK171 := Aside0.mk (blk_drew BK171.out)
   replace BK172 := Aside0.mk (blk_drew BK172.out)
   replace HB := Aside0.mk (below_drew1 HB.out)
   obtain ⟨Ao17, co17, eo17⟩ := Kd.R_slice HO175.out
   (first | subst eo17 | (injection eo17 with f1_ f2_ f3_; have f4_ := f1_.symm; have f5_ := f3_.symm; clear f1_ f2_ f3_; subst f4_; subst f5_))
   have p176 : 0 ≤ (0 : Int) := (by omega)
   have q176 : 0 < (t173.length : Int) := of_decide_eq_true (by first | (with_reducible assumption) | assumption)
   obtain ⟨ad176, e176, hx176_0, hx176_1⟩ := at_T34 (Kd.R_reads' HO175.out).2.2 0 p176 q176
   cases e176
   have qi176 : (0 < t173.length) = True := eq_true (by omega)
   (try rw [show ((0 : Int)).toNat = 0 from rfl] at hx176_0)
   (try rw [show 0 * 2 = 0 from rfl] at hx176_0)
   (try rw [Addr.add_zero'] at hx176_0)
   (try rw [show ((0 : Int)).toNat = 0 from rfl] at hx176_1)
   (try rw [show 0 * 2 = 0 from rfl] at hx176_1)
   (try rw [Addr.add_zero'] at hx176_1)
   replace p176 := eq_true p176
   replace q176 := eq_true q176
   have p179 : 0 ≤ (1 : Int) := (by omega)
   have q179 : 1 < (t173.length : Int) := of_decide_eq_true (by first | (with_reducible assumption) | assumption)
   obtain ⟨ad179, e179, hx179_0, hx179_1⟩ := at_T34 (Kd.R_reads' HO175.out).2.2 1 p179 q179
   obtain rfl : ad176 = ad179 := (by injection e179)
   (try simp only [show (1 : Int).toNat = 1 from rfl, Nat.reduceMul, Nat.reduceEqDiff, Go.Addr.add, ↓reduceIte] at hx179_0)
   (try simp only [show (1 : Int).toNat = 1 from rfl, Nat.reduceMul, Nat.reduceEqDiff, Go.Addr.add, ↓reduceIte] at hx179_1)
   have qi179 : (1 < t173.length) = True := eq_true (by omega)
   (try rw [show ((1 : Int)).toNat = 1 from rfl] at hx179_0)
   (try rw [show 1 * 2 = 2 from rfl] at hx179_0)
   (try rw [show ((1 : Int)).toNat = 1 from rfl] at hx179_1)
   (try rw [show 1 * 2 = 2 from rfl] at hx179_1)
   replace p179 := eq_true p179
   replace q179 := eq_true q179
   refine start_ (n := 13) (S := fun w' => w'.cell? ⟨gb170, 0, none⟩ = some (.int .i64 a0_0) ∧ w'.cell? ⟨gb170, 1, none⟩ = some (.int .i64 a0_1) ∧ w'.cell? ⟨gb170, 2, none⟩ = some (.int .i64 a0_2) ∧ w'.cell? ⟨gb170, 3, none⟩ = some (.int .i64 a0_3) ∧ w'.cell? ad176 = some (.int .i64 ((rd_T34 t173 0).f0)) ∧ w'.cell? ⟨ad176.block, ad176.off + 1, none⟩ = some (.int .i64 ((rd_T34 t173 0).f1)) ∧ w'.cell? ⟨ad176.block, ad176.off + 2, none⟩ = some (.int .i64 ((rd_T34 t173 1).f0)) ∧ w'.cell? ⟨ad176.block, ad176.off + 2 + 1, none⟩ = some (.int .i64 ((rd_T34 t173 1).f1))) (ds := []) (bt 13 0) (by kernel_rfl) rfl rfl ⟨bcl BK170 0, bcl BK170 1, bcl BK170 2, bcl BK170 3, hx176_0, hx176_1, hx179_0, hx179_1⟩ (fun hHeld => ?_); refine with_tabW spec_l04Image.tab2 spec_l04Image.bits2 (fun HT_ HW_ => ?_)
   generalize w15.drew = w16 at HO175 BK170 BK171 BK172 HB hx176_0 hx176_1 hx179_0 hx179_1 hHeld ⊢
   refine pu 1 (some 9) #[false, true, false, false, false, false, false, false, false, false, false, false, false] HT_ ?_
   refine pu 2 (some 10) #[false, true, true, false, false, false, false, false, false, false, false, false, false] HT_ ?_
   refine pu 6 (some 14) #[false, true, true, false, false, false, true, false, false, false, false, false, false] HT_ ?_
   refine pu 7 (some 15) #[false, true, true, false, false, false, true, true, false, false, false, false, false] HT_ ?_
   refine ta 0 (some 8) #[true, true, true, false, false, false, true, true, false, false, false, false, false] HT_ HW_ hHeld ?_
   refine ta 3 (some 11) #[true, true, true, true, false, false, true, true, false, false, false, false, false] HT_ HW_ hHeld ?_
   refine ta 5 (some 13) #[true, true, true, true, false, true, true, true, false, false, false, false, false] HT_ HW_ hHeld ?_
   refine ta 8 (some 16) #[true, true, true, true, false, true, true, true, true, false, false, false, false] HT_ HW_ hHeld ?_
   refine one_ (i := 4) (N := some 12) (bt 13 9) rfl rfl (one_of HT_.out (by kernel_rfl)) (by decide) (fun K hK => ?_)
   refine goes_ Try.func78 (by kernel_rfl) rfl #[.agg #[.int .i64 a0_0, .int .i64 a0_1, .int .i64 a0_2, .int .i64 a0_3], .agg #[.int .i64 ((rd_T34 t173 0).f0), .int .i64 ((rd_T34 t173 0).f1)]] (by rfl) rfl rfl (by (try simp only [List.map_toArray, List.map_cons, List.map_nil]); first | done | rfl | (simp only [List.length_drop, List.length_take]; rfl)) ?_
   with_reducible refine (spec_l02Apply.calls a0_0 a0_1 a0_2 a0_3 ((rd_T34 t173 0).f0) ((rd_T34 t173 0).f1) t177 t178 _ A5.out).mono ?_
   rintro e w18 ⟨rfl, hb⟩
   have HS4_ := (hb.cell (World.block_lt_of_cell? _ _ (hHeld.2.2.2.2.1))).trans (hHeld.2.2.2.2.1)
   have HS5_ := (hb.cell (World.block_lt_of_cell? _ _ (hHeld.2.2.2.2.2.1))).trans (hHeld.2.2.2.2.2.1)
   have HS6_ := (hb.cell (World.block_lt_of_cell? _ _ (hHeld.2.2.2.2.2.2.1))).trans (hHeld.2.2.2.2.2.2.1)
   have HS7_ := (hb.cell (World.block_lt_of_cell? _ _ (hHeld.2.2.2.2.2.2.2))).trans (hHeld.2.2.2.2.2.2.2)
   refine ⟨_, rfl, ?_⟩
   replace HO175 := Aside0.mk (Kd.R_below (by (with_reducible repeat (first | apply Kd.R_alloc | apply Kd.R_drewN | apply Kd.R_drew)); exact HO175.out) hb)
   replace BK170 := Aside0.mk (bbl BK170 hb)
   replace BK171 := Aside0.mk (bbl BK171 hb)
   replace BK172 := Aside0.mk (bbl BK172 hb)
   replace HB := Aside0.mk (bst3 HB GE170 GE171 GE172 hb)
   (try clear hb)
   (try clear hb2)
   (try clear hk)
   (try clear hi)
   refine hK.out _ _ ⟨bcl BK170 0, bcl BK170 1, bcl BK170 2, bcl BK170 3, HS4_, HS5_, HS6_, HS7_⟩ (fun hHeld => ?_)
   clear hK K
   refine norm_ (a' := ?_) ?_ ?_
   rotate_left
   ·show Act.put _ (some 12) _ = _
    simp only [Act.put, sA, sB, sC, i64_w, i32_w]
    rfl
   refine one_ (i := 9) (N := some 17) (bt 13 10) rfl rfl (one_of HT_.out (by kernel_rfl)) (by decide) (fun K hK => ?_)
   refine goes_ Try.func78 (by kernel_rfl) rfl #[.agg #[.int .i64 a0_0, .int .i64 a0_1, .int .i64 a0_2, .int .i64 a0_3], .agg #[.int .i64 ((rd_T34 t173 1).f0), .int .i64 ((rd_T34 t173 1).f1)]] (by rfl) rfl rfl (by (try simp only [List.map_toArray, List.map_cons, List.map_nil]); first | done | rfl | (simp only [List.length_drop, List.length_take]; rfl)) ?_
   with_reducible refine (spec_l02Apply.calls a0_0 a0_1 a0_2 a0_3 ((rd_T34 t173 1).f0) ((rd_T34 t173 1).f1) t180 t181 _ A7.out).mono ?_
   rintro e w19 ⟨rfl, hb⟩
   have HS4_ := (hb.cell (World.block_lt_of_cell? _ _ (hHeld.2.2.2.2.1))).trans (hHeld.2.2.2.2.1)
   have HS5_ := (hb.cell (World.block_lt_of_cell? _ _ (hHeld.2.2.2.2.2.1))).trans (hHeld.2.2.2.2.2.1)
   have HS6_ := (hb.cell (World.block_lt_of_cell? _ _ (hHeld.2.2.2.2.2.2.1))).trans (hHeld.2.2.2.2.2.2.1)
   have HS7_ := (hb.cell (World.block_lt_of_cell? _ _ (hHeld.2.2.2.2.2.2.2))).trans (hHeld.2.2.2.2.2.2.2)
   refine ⟨_, rfl, ?_⟩
   replace HO175 := Aside0.mk (Kd.R_below (by (with_reducible repeat (first | apply Kd.R_alloc | apply Kd.R_drewN | apply Kd.R_drew)); exact HO175.out) hb)
   replace BK170 := Aside0.mk (bbl BK170 hb)
   replace BK171 := Aside0.mk (bbl BK171 hb)
   replace BK172 := Aside0.mk (bbl BK172 hb)
   replace HB := Aside0.mk (bst3 HB GE170 GE171 GE172 hb)
   (try clear hb)
   (try clear hb2)
   (try clear hk)
   (try clear hi)
   refine hK.out _ _ ⟨bcl BK170 0, bcl BK170 1, bcl BK170 2, bcl BK170 3, HS4_, HS5_, HS6_, HS7_⟩ (fun hHeld => ?_)
   clear hK K
   refine norm_ (a' := ?_) ?_ ?_
   rotate_left
   ·show Act.put _ (some 17) _ = _
    simp only [Act.put, sA, sB, sC, i64_w, i32_w]
    rfl
   refine one_ (i := 10) (N := some 18) (bt 13 11) rfl rfl (one_of HT_.out (by kernel_rfl)) (by decide) (fun K hK => ?_)
   refine Kd.R_lit_step k34 _ 34 ?hg (N := 18) ?hd (xs := ([(⟨t177, t178⟩ : S34), (⟨t180, t181⟩ : S34)] : List (S34))) (inner := [.int .i64 t177, .int .i64 t178, .int .i64 t180, .int .i64 t181]) (ok := fun _ => True) (okp := fun _ => True) ?hr ?hp (fun _ hk => hk) trivial (Below.refl _ _) (Nat.le_refl _) (by simp) ?_; (case hd => rfl); (case hg => rfl); (case hr => first | (go_simp; done) | (go_simp; rfl)); (case hp => exact (Reps.c2 (show Kd.M k34 _ _ _ (⟨t177, t178⟩ : S34) [.int .i64 t177, .int .i64 t178] from (k34_mkM _ _ _ (⟨t177, t178⟩ : S34) )) (Reps.c2 (show Kd.M k34 _ _ _ (⟨t180, t181⟩ : S34) [.int .i64 t180, .int .i64 t181] from (k34_mkM _ _ _ (⟨t180, t181⟩ : S34) )) (Reps.none _ _))))
   intro v183 w20 ho21 hb hg_ hnew_
   have HS4_ := (hb.cell (World.block_lt_of_cell? _ _ (hHeld.2.2.2.2.1))).trans (hHeld.2.2.2.2.1)
   have HS5_ := (hb.cell (World.block_lt_of_cell? _ _ (hHeld.2.2.2.2.2.1))).trans (hHeld.2.2.2.2.2.1)
   have HS6_ := (hb.cell (World.block_lt_of_cell? _ _ (hHeld.2.2.2.2.2.2.1))).trans (hHeld.2.2.2.2.2.2.1)
   have HS7_ := (hb.cell (World.block_lt_of_cell? _ _ (hHeld.2.2.2.2.2.2.2))).trans (hHeld.2.2.2.2.2.2.2)
   clear hg_ hnew_
   (first | rw [← Ny182.out] at ho21 | (simp only [Int.reduceToNat] at ho21; rw [← Ny182.out] at ho21))
   have HO184 := Aside0.mk (Kd.R_lower (Kd.R_new' ho21 (Kd.R_lt (by (with_reducible repeat (first | apply Kd.R_alloc | apply Kd.R_drewN | apply Kd.R_drew)); exact HO175.out))) (bsz3 HB GE170 GE171 GE172))
   replace HO175 := Aside0.mk (Kd.R_elder' (by (with_reducible repeat (first | apply Kd.R_alloc | apply Kd.R_drewN | apply Kd.R_drew)); exact HO175.out) (Kd.R_base ho21) hb)
   replace BK170 := Aside0.mk (bbl BK170 hb)
   replace BK171 := Aside0.mk (bbl BK171 hb)
   replace BK172 := Aside0.mk (bbl BK172 hb)
   replace HB := Aside0.mk (bst3 HB GE170 GE171 GE172 hb)
   clear hb ho21
   obtain ⟨Ao22, co22, eo22⟩ := Kd.R_slice HO184.out
   (first | subst eo22 | (injection eo22 with f1_ f2_ f3_; have f4_ := f1_.symm; have f5_ := f3_.symm; clear f1_ f2_ f3_; subst f4_; subst f5_))
   refine hK.out _ _ ⟨bcl BK170 0, bcl BK170 1, bcl BK170 2, bcl BK170 3, HS4_, HS5_, HS6_, HS7_⟩ (fun hHeld => ?_)
   clear hK K
   refine norm_ (a' := ?_) ?_ ?_
   rotate_left
   ·show Act.put _ (some 18) _ = _
    simp only [Act.put, sA, sB, sC, i64_w, i32_w]
    rfl
   refine one_ (i := 11) (N := some 19) (bt 13 12) rfl rfl (one_of HT_.out (by kernel_rfl)) (by decide) (fun K hK => ?_)
   refine goes_ Try.func77 (by kernel_rfl) rfl #[.slice Ao22 y182.length co22] (by rfl) rfl rfl (by (try simp only [List.map_toArray, List.map_cons, List.map_nil]); first | done | rfl | (simp only [List.length_drop, List.length_take]; rfl)) ?_
   with_reducible refine (spec_l03Hermite.calls k _ _ y182 t185 t186 t187 _ ?side1 ?side2 A8.out).mono ?_
   (case side1 => repeat (first | exact (Kd.R_reads' HO184.out).2.2 | (with_reducible refine Kd.C_alloc ?_ _) | (with_reducible refine Kd.C_drewN ?_ _) | (with_reducible refine Kd.C_drew ?_)))
   (case side2 => exact (Kd.R_reads' HO184.out).2.1)
   rintro e w23 ⟨rfl, hb⟩
   have HS4_ := (hb.cell (World.block_lt_of_cell? _ _ (hHeld.2.2.2.2.1))).trans (hHeld.2.2.2.2.1)
   have HS5_ := (hb.cell (World.block_lt_of_cell? _ _ (hHeld.2.2.2.2.2.1))).trans (hHeld.2.2.2.2.2.1)
   have HS6_ := (hb.cell (World.block_lt_of_cell? _ _ (hHeld.2.2.2.2.2.2.1))).trans (hHeld.2.2.2.2.2.2.1)
   have HS7_ := (hb.cell (World.block_lt_of_cell? _ _ (hHeld.2.2.2.2.2.2.2))).trans (hHeld.2.2.2.2.2.2.2)
   refine ⟨_, rfl, ?_⟩
   replace HO175 := Aside0.mk (Kd.R_below (by (with_reducible repeat (first | apply Kd.R_alloc | apply Kd.R_drewN | apply Kd.R_drew)); exact HO175.out) hb)
   replace HO184 := Aside0.mk (Kd.R_below (by (with_reducible repeat (first | apply Kd.R_alloc | apply Kd.R_drewN | apply Kd.R_drew)); exact HO184.out) hb)
   replace BK170 := Aside0.mk (bbl BK170 hb)
   replace BK171 := Aside0.mk (bbl BK171 hb)
   replace BK172 := Aside0.mk (bbl BK172 hb)
   replace HB := Aside0.mk (bst3 HB GE170 GE171 GE172 hb)
   (try clear hb)
   (try clear hb2)
   (try clear hk)
   (try clear hi)
   refine hK.out _ _ ⟨bcl BK170 0, bcl BK170 1, bcl BK170 2, bcl BK170 3, HS4_, HS5_, HS6_, HS7_⟩ (fun hHeld => ?_)
   clear hK K
   refine norm_ (a' := ?_) ?_ ?_
   rotate_left
   ·show Act.put _ (some 19) _ = _
    simp only [Act.put, sA, sB, sC, i64_w, i32_w]
    rfl
   refine one_ (i := 12) (N := none) (bt 13 13) rfl rfl (one_of HT_.out (by kernel_rfl)) (by decide) (fun K hK => ?_)
   have hs24 : w23.cell? ⟨gb172, 0, none⟩ = some (.int .i64 0) := bcl BK172 0
   have hfs24 := blk_frozen BK172.out 0
   have hns24_0 := NB170_172.out
   have hns24_1 := NB171_172.out
   have hms24_0 := NB172_170.out
   have hms24_1 := NB172_171.out
   have hs25 : w23.cell? ⟨gb172, 1, none⟩ = some (.int .i64 0) := bcl BK172 1
   have hfs25 := blk_frozen BK172.out 1
   have hns25_0 := NB170_172.out
   have hns25_1 := NB171_172.out
   have hms25_0 := NB172_170.out
   have hms25_1 := NB172_171.out
   have hs26 : w23.cell? ⟨gb172, 2, none⟩ = some (.int .i64 0) := bcl BK172 2
   have hfs26 := blk_frozen BK172.out 2
   have hns26_0 := NB170_172.out
   have hns26_1 := NB171_172.out
   have hms26_0 := NB172_170.out
   have hms26_1 := NB172_171.out
   refine skip_ (w1 := ?_) (by rfl) rfl ?_ ?_
   rotate_left
   ·go_simp
    rfl
   refine hK.out _ _ ⟨((cell_far (p := ⟨gb172, _, none⟩) NB170_172.out _).trans (((cell_far (p := ⟨gb172, _, none⟩) NB170_172.out _).trans (((cell_far (p := ⟨gb172, _, none⟩) NB170_172.out _).trans (hHeld.1)))))), ((cell_far (p := ⟨gb172, _, none⟩) NB170_172.out _).trans (((cell_far (p := ⟨gb172, _, none⟩) NB170_172.out _).trans (((cell_far (p := ⟨gb172, _, none⟩) NB170_172.out _).trans (hHeld.2.1)))))), ((cell_far (p := ⟨gb172, _, none⟩) NB170_172.out _).trans (((cell_far (p := ⟨gb172, _, none⟩) NB170_172.out _).trans (((cell_far (p := ⟨gb172, _, none⟩) NB170_172.out _).trans (hHeld.2.2.1)))))), ((cell_far (p := ⟨gb172, _, none⟩) NB170_172.out _).trans (((cell_far (p := ⟨gb172, _, none⟩) NB170_172.out _).trans (((cell_far (p := ⟨gb172, _, none⟩) NB170_172.out _).trans (hHeld.2.2.2.1)))))), ((cell_far (p := ⟨gb172, _, none⟩) (by first | exact Kd.own_blk (Kd.R_ne HO175.out BK172.out (by decide)) | (rw [add_block]; exact Kd.own_blk (Kd.R_ne HO175.out BK172.out (by decide))) | (show (Addr.add _ _).block ≠ _; rw [add_block]; exact Kd.own_blk (Kd.R_ne HO175.out BK172.out (by decide))) | (dsimp only; exact Kd.own_blk (Kd.R_ne HO175.out BK172.out (by decide)))) _).trans (((cell_far (p := ⟨gb172, _, none⟩) (by first | exact Kd.own_blk (Kd.R_ne HO175.out BK172.out (by decide)) | (rw [add_block]; exact Kd.own_blk (Kd.R_ne HO175.out BK172.out (by decide))) | (show (Addr.add _ _).block ≠ _; rw [add_block]; exact Kd.own_blk (Kd.R_ne HO175.out BK172.out (by decide))) | (dsimp only; exact Kd.own_blk (Kd.R_ne HO175.out BK172.out (by decide)))) _).trans (((cell_far (p := ⟨gb172, _, none⟩) (by first | exact Kd.own_blk (Kd.R_ne HO175.out BK172.out (by decide)) | (rw [add_block]; exact Kd.own_blk (Kd.R_ne HO175.out BK172.out (by decide))) | (show (Addr.add _ _).block ≠ _; rw [add_block]; exact Kd.own_blk (Kd.R_ne HO175.out BK172.out (by decide))) | (dsimp only; exact Kd.own_blk (Kd.R_ne HO175.out BK172.out (by decide)))) _).trans (hHeld.2.2.2.2.1)))))), ((cell_far (p := ⟨gb172, _, none⟩) (by first | exact Kd.own_blk (Kd.R_ne HO175.out BK172.out (by decide)) | (rw [add_block]; exact Kd.own_blk (Kd.R_ne HO175.out BK172.out (by decide))) | (show (Addr.add _ _).block ≠ _; rw [add_block]; exact Kd.own_blk (Kd.R_ne HO175.out BK172.out (by decide))) | (dsimp only; exact Kd.own_blk (Kd.R_ne HO175.out BK172.out (by decide)))) _).trans (((cell_far (p := ⟨gb172, _, none⟩) (by first | exact Kd.own_blk (Kd.R_ne HO175.out BK172.out (by decide)) | (rw [add_block]; exact Kd.own_blk (Kd.R_ne HO175.out BK172.out (by decide))) | (show (Addr.add _ _).block ≠ _; rw [add_block]; exact Kd.own_blk (Kd.R_ne HO175.out BK172.out (by decide))) | (dsimp only; exact Kd.own_blk (Kd.R_ne HO175.out BK172.out (by decide)))) _).trans (((cell_far (p := ⟨gb172, _, none⟩) (by first | exact Kd.own_blk (Kd.R_ne HO175.out BK172.out (by decide)) | (rw [add_block]; exact Kd.own_blk (Kd.R_ne HO175.out BK172.out (by decide))) | (show (Addr.add _ _).block ≠ _; rw [add_block]; exact Kd.own_blk (Kd.R_ne HO175.out BK172.out (by decide))) | (dsimp only; exact Kd.own_blk (Kd.R_ne HO175.out BK172.out (by decide)))) _).trans (hHeld.2.2.2.2.2.1)))))), ((cell_far (p := ⟨gb172, _, none⟩) (by first | exact Kd.own_blk (Kd.R_ne HO175.out BK172.out (by decide)) | (rw [add_block]; exact Kd.own_blk (Kd.R_ne HO175.out BK172.out (by decide))) | (show (Addr.add _ _).block ≠ _; rw [add_block]; exact Kd.own_blk (Kd.R_ne HO175.out BK172.out (by decide))) | (dsimp only; exact Kd.own_blk (Kd.R_ne HO175.out BK172.out (by decide)))) _).trans (((cell_far (p := ⟨gb172, _, none⟩) (by first | exact Kd.own_blk (Kd.R_ne HO175.out BK172.out (by decide)) | (rw [add_block]; exact Kd.own_blk (Kd.R_ne HO175.out BK172.out (by decide))) | (show (Addr.add _ _).block ≠ _; rw [add_block]; exact Kd.own_blk (Kd.R_ne HO175.out BK172.out (by decide))) | (dsimp only; exact Kd.own_blk (Kd.R_ne HO175.out BK172.out (by decide)))) _).trans (((cell_far (p := ⟨gb172, _, none⟩) (by first | exact Kd.own_blk (Kd.R_ne HO175.out BK172.out (by decide)) | (rw [add_block]; exact Kd.own_blk (Kd.R_ne HO175.out BK172.out (by decide))) | (show (Addr.add _ _).block ≠ _; rw [add_block]; exact Kd.own_blk (Kd.R_ne HO175.out BK172.out (by decide))) | (dsimp only; exact Kd.own_blk (Kd.R_ne HO175.out BK172.out (by decide)))) _).trans (hHeld.2.2.2.2.2.2.1)))))), ((cell_far (p := ⟨gb172, _, none⟩) (by first | exact Kd.own_blk (Kd.R_ne HO175.out BK172.out (by decide)) | (rw [add_block]; exact Kd.own_blk (Kd.R_ne HO175.out BK172.out (by decide))) | (show (Addr.add _ _).block ≠ _; rw [add_block]; exact Kd.own_blk (Kd.R_ne HO175.out BK172.out (by decide))) | (dsimp only; exact Kd.own_blk (Kd.R_ne HO175.out BK172.out (by decide)))) _).trans (((cell_far (p := ⟨gb172, _, none⟩) (by first | exact Kd.own_blk (Kd.R_ne HO175.out BK172.out (by decide)) | (rw [add_block]; exact Kd.own_blk (Kd.R_ne HO175.out BK172.out (by decide))) | (show (Addr.add _ _).block ≠ _; rw [add_block]; exact Kd.own_blk (Kd.R_ne HO175.out BK172.out (by decide))) | (dsimp only; exact Kd.own_blk (Kd.R_ne HO175.out BK172.out (by decide)))) _).trans (((cell_far (p := ⟨gb172, _, none⟩) (by first | exact Kd.own_blk (Kd.R_ne HO175.out BK172.out (by decide)) | (rw [add_block]; exact Kd.own_blk (Kd.R_ne HO175.out BK172.out (by decide))) | (show (Addr.add _ _).block ≠ _; rw [add_block]; exact Kd.own_blk (Kd.R_ne HO175.out BK172.out (by decide))) | (dsimp only; exact Kd.own_blk (Kd.R_ne HO175.out BK172.out (by decide)))) _).trans (hHeld.2.2.2.2.2.2.2))))))⟩ (fun hHeld => ?_)
   clear hK K
   refine done_ (done_of HT_.out (by kernel_rfl)) ?_
   try go_wp2
   refine bodyPost_ret (results_cell_row rfl _ _ gb172 31 #[.int .i64 t185, .int .i64 t186, .int .i64 t187] (0, 0) _ rfl (by (with_reducible repeat (first | refine blk_drewN ?_ _ | refine blk_drew ?_ | refine blk_alloc ?_ _)); refine blk_put (cs := #[.int .i64 t185, .int .i64 t186, .int .i64 0]) ?_ 2 _ rfl; (with_reducible repeat (first | refine blk_drewN ?_ _ | refine blk_drew ?_ | refine blk_alloc ?_ _)); refine blk_put (cs := #[.int .i64 t185, .int .i64 0, .int .i64 0]) ?_ 1 _ rfl; (with_reducible repeat (first | refine blk_drewN ?_ _ | refine blk_drew ?_ | refine blk_alloc ?_ _)); refine blk_put (cs := #[.int .i64 0, .int .i64 0, .int .i64 0]) ?_ 0 _ rfl; (with_reducible repeat (first | refine blk_drewN ?_ _ | refine blk_drew ?_ | refine blk_alloc ?_ _)); exact BK172.out) Try.underlying31 rfl (by kernel_rfl)) rfl ?_
   exact ⟨by first | rfl | (simp [errW_none, errW_some] <;> rfl) | (simp [*, errW_none, errW_some] <;> rfl), bbw3 HB GE170 GE171 GE172⟩
  ·rw [if_neg c6] at H
   exact absurd H (by simp)
 ·rw [if_neg c4] at H
  exact absurd H (by simp)

attribute [local go_sem high] eqA31
/-! ### spec_IsSuitable: function 11 -/
def spec_IsSuitable.f (k : Nat) (a0 : Int) (a1_0 : Int) (a1_1 : Int) (a1_2 : Int) (a2_0 : Int) (a2_1 : Int) (a2_2 : Int) (a2_3 : Int) (a2_4 : Int) (a2_5 : Int) : Option (Bool) := (spec_l04Code.f a0 a1_0 a1_1 a1_2).bind fun t190 => (if t190 = 0 then ((spec_IsPointMat.f a0 a2_0 a2_1 a2_2 a2_3).bind fun t191 => (if t191 = true then ((spec_l04Image.f k a2_0 a2_1 a2_2 a2_3 a1_0 a1_1 a1_2).bind fun bt192 => (if (bt192.1 == a1_0 && (bt192.2.1 == a1_1 && (bt192.2.2 == a1_2))) = true then ((spec_IsVec.f a2_4 a2_5).bind fun t195 => (some t195)) else (some false))) else (some false))) else (some false))
def spec_IsSuitable.T1 : Bool × List (List Nat × List Nat) := (true, [([], []), ([], []), ([0, 1], [0, 1]), ([2], [2]), ([3, 2], [3]), ([4], [4]), ([4], [4]), ([6, 4], [4, 6]), ([5, 7, 4, 4], [4, 5, 7]), ([4, 8], [4, 8]), ([9, 8], [9]), ([10], [10]), ([11, 10], [10, 11]), ([10], [10]), ([12, 13, 10, 10], [10, 12, 13]), ([10], [10]), ([14, 15, 10], [10, 14, 15]), ([10, 16], [10, 16]), ([17, 14], [17]), ([18], [18]), ([19, 18], [18, 19]), ([20, 18, 18], [18, 20]), ([18, 21], [18, 21]), ([22, 21, 0, 1, 2, 3, 4, 5, 6, 7, 8, 9, 10, 11, 12, 13, 14, 15, 16, 17, 18, 19, 20, 21, 22], [22])])
def spec_IsSuitable.B1 : List Nat := [0, 0, 3, 7, 15, 31, 31, 95, 255, 511, 1023, 2047, 4095, 2047, 16383, 2047, 65535, 131071, 262143, 524287, 1048575, 2097151, 4194303, 8388607]
theorem spec_IsSuitable.tab1 : rtab .any (opsOf Try.f11 1) = spec_IsSuitable.T1 := by kernel_rfl
theorem spec_IsSuitable.bits1 : waitsOk spec_IsSuitable.T1.2 spec_IsSuitable.B1 = true := by kernel_rfl
set_option maxHeartbeats 8000000 in
set_option maxRecDepth 100000 in
theorem spec_IsSuitable.calls (k : Nat) (a0 : Int) (a1_0 : Int) (a1_1 : Int) (a1_2 : Int) (a2_0 : Int) (a2_1 : Int) (a2_2 : Int) (a2_3 : Int) (a2_4 : Int) (a2_5 : Int) (r : Bool) (w : World) (h : spec_IsSuitable.f k a0 a1_0 a1_1 a1_2 a2_0 a2_1 a2_2 a2_3 a2_4 a2_5 = some r) :
  Calls Try.prog 11 #[.int .i64 a0, .agg #[.int .i64 a1_0, .int .i64 a1_1, .int .i64 a1_2], .agg #[.int .i64 a2_0, .int .i64 a2_1, .int .i64 a2_2, .int .i64 a2_3, .int .i64 a2_4, .int .i64 a2_5]] w fun e w' => e = .returned (.bool r) ∧ Below w.heap.size w w' := by
 have hu31 := Try.underlying31
 have hu36 := Try.underlying36
 have hu33 := Try.underlying33
 have hu34 := Try.underlying34
 have HB := Aside0.mk (Below.refl w.heap.size w)
 have H : ((spec_l04Code.f a0 a1_0 a1_1 a1_2).bind fun t190 => (if t190 = 0 then ((spec_IsPointMat.f a0 a2_0 a2_1 a2_2 a2_3).bind fun t191 => (if t191 = true then ((spec_l04Image.f k a2_0 a2_1 a2_2 a2_3 a1_0 a1_1 a1_2).bind fun bt192 => (if (bt192.1 == a1_0 && (bt192.2.1 == a1_1 && (bt192.2.2 == a1_2))) = true then ((spec_IsVec.f a2_4 a2_5).bind fun t195 => (some t195)) else (some false))) else (some false))) else (some false))) = some r := h
 clear h
 replace H := Option.bind_eq_some_iff.mp H
 obtain ⟨t190, A40, H⟩ := H
 replace H : (if t190 = 0 then ((spec_IsPointMat.f a0 a2_0 a2_1 a2_2 a2_3).bind fun t191 => (if t191 = true then ((spec_l04Image.f k a2_0 a2_1 a2_2 a2_3 a1_0 a1_1 a1_2).bind fun bt192 => (if (bt192.1 == a1_0 && (bt192.2.1 == a1_1 && (bt192.2.2 == a1_2))) = true then ((spec_IsVec.f a2_4 a2_5).bind fun t195 => (some t195)) else (some false))) else (some false))) else (some false)) = some r := H
 have A4 := Aside0.mk A40
 clear A40
 by_cases c5 : t190 = 0
 ·rw [if_pos c5] at H
  have c5b0 : (t190 == 0) = true := beq_iff_eq.mpr c5
  have c5b1 : (t190 != 0) = false := bne_eq_false_iff_eq.mpr c5
  clear c5
  replace H := Option.bind_eq_some_iff.mp H
  obtain ⟨t191, A60, H⟩ := H
  replace H : (if t191 = true then ((spec_l04Image.f k a2_0 a2_1 a2_2 a2_3 a1_0 a1_1 a1_2).bind fun bt192 => (if (bt192.1 == a1_0 && (bt192.2.1 == a1_1 && (bt192.2.2 == a1_2))) = true then ((spec_IsVec.f a2_4 a2_5).bind fun t195 => (some t195)) else (some false))) else (some false)) = some r := H
  have A6 := Aside0.mk A60
  clear A60
  by_cases c7 : t191 = true
  ·subst c7
   have H1 : ((spec_l04Image.f k a2_0 a2_1 a2_2 a2_3 a1_0 a1_1 a1_2).bind fun bt192 => (if (bt192.1 == a1_0 && (bt192.2.1 == a1_1 && (bt192.2.2 == a1_2))) = true then ((spec_IsVec.f a2_4 a2_5).bind fun t195 => (some t195)) else (some false))) = some r := by rw [if_pos rfl] at H; first | done | exact H
   clear H
   have H := H1
   clear H1
   replace H := Option.bind_eq_some_iff.mp H
   obtain ⟨⟨t192, t193, t194⟩, A80, H⟩ := H
   replace H : (if (t192 == a1_0 && (t193 == a1_1 && (t194 == a1_2))) = true then ((spec_IsVec.f a2_4 a2_5).bind fun t195 => (some t195)) else (some false)) = some r := H
   have A8 := Aside0.mk A80
   clear A80
   by_cases c9 : (t192 == a1_0 && (t193 == a1_1 && (t194 == a1_2))) = true
   ·rw [if_pos c9] at H
    have c9b0 : (t192 == a1_0 && (t193 == a1_1 && (t194 == a1_2))) = true := c9
    (try (have c9b1 : decide (t192 = a1_0 && (t193 == a1_1 && (t194 == a1_2))) = true := by simpa using c9))
    (try (have c9b2 : (t192 == a1_0 && (t193 == a1_1 && (t194 == a1_2))) = true := by simpa using c9))
    clear c9
    replace H := Option.bind_eq_some_iff.mp H
    obtain ⟨t195, A100, H⟩ := H
    replace H : (some t195) = some r := H
    have A10 := Aside0.mk A100
    clear A100
    obtain rfl := Option.some.inj H
    go_enter Try.func11, Try.ntmps11
    try go_wp2_with (first | ((with_reducible refine gate_dst (N := 4) rfl ?_); refine box_event ?hg (N := 4) ?hd (cs := #[.int .i64 a1_0, .int .i64 a1_1, .int .i64 a1_2]) (t := 31) ?hr ?_; (case hd => rfl); (case hg => rfl); (case hr => first | (go_simp; done) | (go_simp; rfl)); intro gb188 hg w11 hbox hb; have BK188 := Aside0.mk (hbox); have GW188 := ngw0 hg HB; have GE188 := ngw0 hg HB; replace HB := Aside0.mk (bst0 HB hb); clear hb hbox hg) | ((with_reducible refine gate_dst (N := 5) rfl ?_); refine box_event ?hg (N := 5) ?hd (cs := #[.int .i64 a2_0, .int .i64 a2_1, .int .i64 a2_2, .int .i64 a2_3, .int .i64 a2_4, .int .i64 a2_5]) (t := 36) ?hr ?_; (case hd => rfl); (case hg => rfl); (case hr => first | (go_simp; done) | (go_simp; rfl)); intro gb189 hg w12 hbox hb; have BK189 := Aside0.mk (hbox); have GW189 := ngw1 hg HB GE188; have GE189 := ngw1 hg HB GE188; replace HB := Aside0.mk (bst1 HB GE188 hb); have NB188_189 := nlt hg BK188; have NB189_188 := nsy (nlt hg BK188); replace BK188 := Aside0.mk (bbl BK188 hb); clear hb hbox hg))
    replace BK188 := Aside0.mk (blk_drew BK188.out)
    replace BK189 := Aside0.mk (blk_drew BK189.out)
    replace HB := Aside0.mk (below_drew1 HB.out)
    refine start_ (n := 24) (S := fun w' => w'.cell? ⟨gb188, 0, none⟩ = some (.int .i64 a1_0) ∧ w'.cell? ⟨gb188, 1, none⟩ = some (.int .i64 a1_1) ∧ w'.cell? ⟨gb188, 2, none⟩ = some (.int .i64 a1_2) ∧ w'.cell? ⟨gb189, 0, none⟩ = some (.int .i64 a2_0) ∧ w'.cell? ⟨gb189, 1, none⟩ = some (.int .i64 a2_1) ∧ w'.cell? ⟨gb189, 2, none⟩ = some (.int .i64 a2_2) ∧ w'.cell? ⟨gb189, 3, none⟩ = some (.int .i64 a2_3) ∧ w'.cell? ⟨gb189, 4, none⟩ = some (.int .i64 a2_4) ∧ w'.cell? ⟨gb189, 5, none⟩ = some (.int .i64 a2_5)) (ds := []) (bt 24 0) (by kernel_rfl) rfl rfl ⟨bcl BK188 0, bcl BK188 1, bcl BK188 2, bcl BK189 0, bcl BK189 1, bcl BK189 2, bcl BK189 3, bcl BK189 4, bcl BK189 5⟩ (fun hHeld => ?_); refine with_tabW spec_IsSuitable.tab1 spec_IsSuitable.bits1 (fun HT_ HW_ => ?_)
    generalize w12.drew = w13 at BK188 BK189 HB hHeld ⊢
    refine pu 0 (some 7) (bt 24 1) HT_ ?_
    refine ta 1 (some 8) (bt 24 2) HT_ HW_ hHeld ?_
    refine one_ (i := 2) (N := some 9) (bt 24 3) rfl rfl (one_of HT_.out (by kernel_rfl)) (by decide) (fun K hK => ?_)
    refine goes_ Try.func38 (by kernel_rfl) rfl #[.int .i64 a0, .agg #[.int .i64 a1_0, .int .i64 a1_1, .int .i64 a1_2]] (by rfl) rfl rfl (by (try simp only [List.map_toArray, List.map_cons, List.map_nil]); first | done | rfl | (simp only [List.length_drop, List.length_take]; rfl)) ?_
    with_reducible refine (spec_l04Code.calls a0 a1_0 a1_1 a1_2 t190 _ A4.out).mono ?_
    rintro e w14 ⟨rfl, hb⟩
    refine ⟨_, rfl, ?_⟩
    replace BK188 := Aside0.mk (bbl BK188 hb)
    replace BK189 := Aside0.mk (bbl BK189 hb)
    replace HB := Aside0.mk (bst2 HB GE188 GE189 hb)
    (try clear hb)
    (try clear hb2)
    (try clear hk)
    (try clear hi)
    refine hK.out _ _ ⟨bcl BK188 0, bcl BK188 1, bcl BK188 2, bcl BK189 0, bcl BK189 1, bcl BK189 2, bcl BK189 3, bcl BK189 4, bcl BK189 5⟩ (fun hHeld => ?_)
    clear hK K
    refine norm_ (a' := ?_) ?_ ?_
    rotate_left
    ·show Act.put _ (some 9) _ = _
     simp only [Act.put, sA, sB, sC, i64_w, i32_w]
     rfl
    refine pu 3 (some 10) (bt 24 4) HT_ ?_
    refine pu 4 (some 11) (bt 24 5) HT_ ?_
    refine pu 5 (some 12) (bt 24 6) HT_ ?_
    refine pu 6 (some 13) (bt 24 7) HT_ ?_
    refine ta 7 (some 14) (bt 24 8) HT_ HW_ hHeld ?_
    refine one_ (i := 8) (N := some 15) (bt 24 9) rfl rfl (one_of HT_.out (by kernel_rfl)) (by decide) (fun K hK => ?_)
    refine goes_ Try.func39 (by kernel_rfl) rfl #[.int .i64 a0, .agg #[.int .i64 a2_0, .int .i64 a2_1, .int .i64 a2_2, .int .i64 a2_3]] (by rfl) rfl rfl (by (try simp only [List.map_toArray, List.map_cons, List.map_nil]); first | done | rfl | (simp only [List.length_drop, List.length_take]; rfl)) ?_
    with_reducible refine (spec_IsPointMat.calls a0 a2_0 a2_1 a2_2 a2_3 true _ A6.out).mono ?_
    rintro e w15 ⟨rfl, hb⟩
    refine ⟨_, rfl, ?_⟩
    replace BK188 := Aside0.mk (bbl BK188 hb)
    replace BK189 := Aside0.mk (bbl BK189 hb)
    replace HB := Aside0.mk (bst2 HB GE188 GE189 hb)
    (try clear hb)
    (try clear hb2)
    (try clear hk)
    (try clear hi)
    refine hK.out _ _ ⟨bcl BK188 0, bcl BK188 1, bcl BK188 2, bcl BK189 0, bcl BK189 1, bcl BK189 2, bcl BK189 3, bcl BK189 4, bcl BK189 5⟩ (fun hHeld => ?_)
    clear hK K
    refine norm_ (a' := ?_) ?_ ?_
    rotate_left
    ·show Act.put _ (some 15) _ = _
     simp only [Act.put, sA, sB, sC, i64_w, i32_w]
     rfl
    refine pu 9 (some 16) (bt 24 10) HT_ ?_
    refine pu 10 (some 17) (bt 24 11) HT_ ?_
    refine pu 11 (some 18) (bt 24 12) HT_ ?_
    refine ta 12 (some 19) (bt 24 13) HT_ HW_ hHeld ?_
    refine ta 13 (some 20) (bt 24 14) HT_ HW_ hHeld ?_
    refine ta 15 (some 22) #[true, true, true, true, true, true, true, true, true, true, true, true, true, true, false, true, false, false, false, false, false, false, false, false] HT_ HW_ hHeld ?_
    refine one_ (i := 14) (N := some 21) (bt 24 16) rfl rfl (one_of HT_.out (by kernel_rfl)) (by decide) (fun K hK => ?_)
    refine goes_ Try.func40 (by kernel_rfl) rfl #[.agg #[.int .i64 a2_0, .int .i64 a2_1, .int .i64 a2_2, .int .i64 a2_3], .agg #[.int .i64 a1_0, .int .i64 a1_1, .int .i64 a1_2]] (by rfl) rfl rfl (by (try simp only [List.map_toArray, List.map_cons, List.map_nil]); first | done | rfl | (simp only [List.length_drop, List.length_take]; rfl)) ?_
    with_reducible refine (spec_l04Image.calls k a2_0 a2_1 a2_2 a2_3 a1_0 a1_1 a1_2 t192 t193 t194 _ A8.out).mono ?_
    rintro e w16 ⟨rfl, hb⟩
    refine ⟨_, rfl, ?_⟩
    replace BK188 := Aside0.mk (bbl BK188 hb)
    replace BK189 := Aside0.mk (bbl BK189 hb)
    replace HB := Aside0.mk (bst2 HB GE188 GE189 hb)
    (try clear hb)
    (try clear hb2)
    (try clear hk)
    (try clear hi)
    refine hK.out _ _ ⟨bcl BK188 0, bcl BK188 1, bcl BK188 2, bcl BK189 0, bcl BK189 1, bcl BK189 2, bcl BK189 3, bcl BK189 4, bcl BK189 5⟩ (fun hHeld => ?_)
    clear hK K
    refine norm_ (a' := ?_) ?_ ?_
    rotate_left
    ·show Act.put _ (some 21) _ = _
     simp only [Act.put, sA, sB, sC, i64_w, i32_w]
     rfl
    refine pu 16 (some 23) (bt 24 17) HT_ ?_
    refine pu 17 (some 24) (bt 24 18) HT_ ?_
    refine pu 18 (some 25) (bt 24 19) HT_ ?_
    refine pu 19 (some 26) (bt 24 20) HT_ ?_
    refine ta 20 (some 27) (bt 24 21) HT_ HW_ hHeld ?_
    refine one_ (i := 21) (N := some 28) (bt 24 22) rfl rfl (one_of HT_.out (by kernel_rfl)) (by decide) (fun K hK => ?_)
    refine goes_ Try.func41 (by kernel_rfl) rfl #[.agg #[.int .i64 a2_4, .int .i64 a2_5]] (by rfl) rfl rfl (by (try simp only [List.map_toArray, List.map_cons, List.map_nil]); first | done | rfl | (simp only [List.length_drop, List.length_take]; rfl)) ?_
    with_reducible refine (spec_IsVec.calls a2_4 a2_5 t195 _ A10.out).mono ?_
    rintro e w17 ⟨rfl, hb⟩
    refine ⟨_, rfl, ?_⟩
    replace BK188 := Aside0.mk (bbl BK188 hb)
    replace BK189 := Aside0.mk (bbl BK189 hb)
    replace HB := Aside0.mk (bst2 HB GE188 GE189 hb)
    (try clear hb)
    (try clear hb2)
    (try clear hk)
    (try clear hi)
    refine hK.out _ _ ⟨bcl BK188 0, bcl BK188 1, bcl BK188 2, bcl BK189 0, bcl BK189 1, bcl BK189 2, bcl BK189 3, bcl BK189 4, bcl BK189 5⟩ (fun hHeld => ?_)
    clear hK K
    refine norm_ (a' := ?_) ?_ ?_
    rotate_left
    ·show Act.put _ (some 28) _ = _
     simp only [Act.put, sA, sB, sC, i64_w, i32_w]
     rfl
    refine pu 22 (some 29) (bt 24 23) HT_ ?_
    refine pu 23 (some 6) (bt 24 24) HT_ ?_
    refine done_ (done_of HT_.out (by kernel_rfl)) ?_
    try go_wp2
    go_ret
    exact ⟨by first | rfl | (simp [errW_none, errW_some] <;> rfl) | (simp [*, errW_none, errW_some] <;> rfl), bbw2 HB GE188 GE189⟩
   ·rw [if_neg c9] at H
    have c9b0 : (t192 == a1_0 && (t193 == a1_1 && (t194 == a1_2))) = false := by simpa using c9
    (try (have c9b1 : decide (t192 = a1_0 && (t193 == a1_1 && (t194 == a1_2))) = false := by simpa using c9))
    (try (have c9b2 : (t192 == a1_0 && (t193 == a1_1 && (t194 == a1_2))) = false := by simpa using c9))
    (try (have c9b3 : ¬ (t192 = a1_0 && (t193 == a1_1 && (t194 == a1_2))) := by simpa using c9))
    clear c9
    obtain rfl := Option.some.inj H
    go_enter Try.func11, Try.ntmps11
    try go_wp2_with (first | ((with_reducible refine gate_dst (N := 4) rfl ?_); refine box_event ?hg (N := 4) ?hd (cs := #[.int .i64 a1_0, .int .i64 a1_1, .int .i64 a1_2]) (t := 31) ?hr ?_; (case hd => rfl); (case hg => rfl); (case hr => first | (go_simp; done) | (go_simp; rfl)); intro gb188 hg w18 hbox hb; have BK188 := Aside0.mk (hbox); have GW188 := ngw0 hg HB; have GE188 := ngw0 hg HB; replace HB := Aside0.mk (bst0 HB hb); clear hb hbox hg) | ((with_reducible refine gate_dst (N := 5) rfl ?_); refine box_event ?hg (N := 5) ?hd (cs := #[.int .i64 a2_0, .int .i64 a2_1, .int .i64 a2_2, .int .i64 a2_3, .int .i64 a2_4, .int .i64 a2_5]) (t := 36) ?hr ?_; (case hd => rfl); (case hg => rfl); (case hr => first | (go_simp; done) | (go_simp; rfl)); intro gb189 hg w19 hbox hb; have BK189 := Aside0.mk (hbox); have GW189 := ngw1 hg HB GE188; have GE189 := ngw1 hg HB GE188; replace HB := Aside0.mk (bst1 HB GE188 hb); have NB188_189 := nlt hg BK188; have NB189_188 := nsy (nlt hg BK188); replace BK188 := Aside0.mk (bbl BK188 hb); clear hb hbox hg))
    replace BK188 := Aside0.mk (blk_drew BK188.out)
    replace BK189 := Aside0.mk (blk_drew BK189.out)
    replace HB := Aside0.mk (below_drew1 HB.out)
    refine start_ (n := 24) (S := fun w' => w'.cell? ⟨gb188, 0, none⟩ = some (.int .i64 a1_0) ∧ w'.cell? ⟨gb188, 1, none⟩ = some (.int .i64 a1_1) ∧ w'.cell? ⟨gb188, 2, none⟩ = some (.int .i64 a1_2) ∧ w'.cell? ⟨gb189, 0, none⟩ = some (.int .i64 a2_0) ∧ w'.cell? ⟨gb189, 1, none⟩ = some (.int .i64 a2_1) ∧ w'.cell? ⟨gb189, 2, none⟩ = some (.int .i64 a2_2) ∧ w'.cell? ⟨gb189, 3, none⟩ = some (.int .i64 a2_3) ∧ w'.cell? ⟨gb189, 4, none⟩ = some (.int .i64 a2_4) ∧ w'.cell? ⟨gb189, 5, none⟩ = some (.int .i64 a2_5)) (ds := []) (bt 24 0) (by kernel_rfl) rfl rfl ⟨bcl BK188 0, bcl BK188 1, bcl BK188 2, bcl BK189 0, bcl BK189 1, bcl BK189 2, bcl BK189 3, bcl BK189 4, bcl BK189 5⟩ (fun hHeld => ?_); refine with_tabW spec_IsSuitable.tab1 spec_IsSuitable.bits1 (fun HT_ HW_ => ?_)
    generalize w19.drew = w20 at BK188 BK189 HB hHeld ⊢
    refine pu 0 (some 7) (bt 24 1) HT_ ?_
    refine ta 1 (some 8) (bt 24 2) HT_ HW_ hHeld ?_
    refine one_ (i := 2) (N := some 9) (bt 24 3) rfl rfl (one_of HT_.out (by kernel_rfl)) (by decide) (fun K hK => ?_)
    refine goes_ Try.func38 (by kernel_rfl) rfl #[.int .i64 a0, .agg #[.int .i64 a1_0, .int .i64 a1_1, .int .i64 a1_2]] (by rfl) rfl rfl (by (try simp only [List.map_toArray, List.map_cons, List.map_nil]); first | done | rfl | (simp only [List.length_drop, List.length_take]; rfl)) ?_
    with_reducible refine (spec_l04Code.calls a0 a1_0 a1_1 a1_2 t190 _ A4.out).mono ?_
    rintro e w21 ⟨rfl, hb⟩
    refine ⟨_, rfl, ?_⟩
    replace BK188 := Aside0.mk (bbl BK188 hb)
    replace BK189 := Aside0.mk (bbl BK189 hb)
    replace HB := Aside0.mk (bst2 HB GE188 GE189 hb)
    (try clear hb)
    (try clear hb2)
    (try clear hk)
    (try clear hi)
    refine hK.out _ _ ⟨bcl BK188 0, bcl BK188 1, bcl BK188 2, bcl BK189 0, bcl BK189 1, bcl BK189 2, bcl BK189 3, bcl BK189 4, bcl BK189 5⟩ (fun hHeld => ?_)
    clear hK K
    refine norm_ (a' := ?_) ?_ ?_
    rotate_left
    ·show Act.put _ (some 9) _ = _
     simp only [Act.put, sA, sB, sC, i64_w, i32_w]
     rfl
    refine pu 3 (some 10) (bt 24 4) HT_ ?_
    refine pu 4 (some 11) (bt 24 5) HT_ ?_
    refine pu 5 (some 12) (bt 24 6) HT_ ?_
    refine pu 6 (some 13) (bt 24 7) HT_ ?_
    refine ta 7 (some 14) (bt 24 8) HT_ HW_ hHeld ?_
    refine one_ (i := 8) (N := some 15) (bt 24 9) rfl rfl (one_of HT_.out (by kernel_rfl)) (by decide) (fun K hK => ?_)
    refine goes_ Try.func39 (by kernel_rfl) rfl #[.int .i64 a0, .agg #[.int .i64 a2_0, .int .i64 a2_1, .int .i64 a2_2, .int .i64 a2_3]] (by rfl) rfl rfl (by (try simp only [List.map_toArray, List.map_cons, List.map_nil]); first | done | rfl | (simp only [List.length_drop, List.length_take]; rfl)) ?_
    with_reducible refine (spec_IsPointMat.calls a0 a2_0 a2_1 a2_2 a2_3 true _ A6.out).mono ?_
    rintro e w22 ⟨rfl, hb⟩
    refine ⟨_, rfl, ?_⟩
    replace BK188 := Aside0.mk (bbl BK188 hb)
    replace BK189 := Aside0.mk (bbl BK189 hb)
    replace HB := Aside0.mk (bst2 HB GE188 GE189 hb)
    (try clear hb)
    (try clear hb2)
    (try clear hk)
    (try clear hi)
    refine hK.out _ _ ⟨bcl BK188 0, bcl BK188 1, bcl BK188 2, bcl BK189 0, bcl BK189 1, bcl BK189 2, bcl BK189 3, bcl BK189 4, bcl BK189 5⟩ (fun hHeld => ?_)
    clear hK K
    refine norm_ (a' := ?_) ?_ ?_
    rotate_left
    ·show Act.put _ (some 15) _ = _
     simp only [Act.put, sA, sB, sC, i64_w, i32_w]
     rfl
    refine pu 9 (some 16) (bt 24 10) HT_ ?_
    refine pu 10 (some 17) (bt 24 11) HT_ ?_
    refine pu 11 (some 18) (bt 24 12) HT_ ?_
    refine ta 12 (some 19) (bt 24 13) HT_ HW_ hHeld ?_
    refine ta 13 (some 20) (bt 24 14) HT_ HW_ hHeld ?_
    refine ta 15 (some 22) #[true, true, true, true, true, true, true, true, true, true, true, true, true, true, false, true, false, false, false, false, false, false, false, false] HT_ HW_ hHeld ?_
    refine one_ (i := 14) (N := some 21) (bt 24 16) rfl rfl (one_of HT_.out (by kernel_rfl)) (by decide) (fun K hK => ?_)
    refine goes_ Try.func40 (by kernel_rfl) rfl #[.agg #[.int .i64 a2_0, .int .i64 a2_1, .int .i64 a2_2, .int .i64 a2_3], .agg #[.int .i64 a1_0, .int .i64 a1_1, .int .i64 a1_2]] (by rfl) rfl rfl (by (try simp only [List.map_toArray, List.map_cons, List.map_nil]); first | done | rfl | (simp only [List.length_drop, List.length_take]; rfl)) ?_
    with_reducible refine (spec_l04Image.calls k a2_0 a2_1 a2_2 a2_3 a1_0 a1_1 a1_2 t192 t193 t194 _ A8.out).mono ?_
    rintro e w23 ⟨rfl, hb⟩
    refine ⟨_, rfl, ?_⟩
    replace BK188 := Aside0.mk (bbl BK188 hb)
    replace BK189 := Aside0.mk (bbl BK189 hb)
    replace HB := Aside0.mk (bst2 HB GE188 GE189 hb)
    (try clear hb)
    (try clear hb2)
    (try clear hk)
    (try clear hi)
    refine hK.out _ _ ⟨bcl BK188 0, bcl BK188 1, bcl BK188 2, bcl BK189 0, bcl BK189 1, bcl BK189 2, bcl BK189 3, bcl BK189 4, bcl BK189 5⟩ (fun hHeld => ?_)
    clear hK K
    refine norm_ (a' := ?_) ?_ ?_
    rotate_left
    ·show Act.put _ (some 21) _ = _
     simp only [Act.put, sA, sB, sC, i64_w, i32_w]
     rfl
    refine pu 16 (some 23) (bt 24 17) HT_ ?_
    refine pu 17 (some 24) (bt 24 18) HT_ ?_
    refine pu 18 (some 25) (bt 24 19) HT_ ?_
    refine pf 19 (some 26) (bt 24 20) HT_ ?_
    refine pf 20 (some 27) (bt 24 21) HT_ ?_
    refine pf 21 (some 28) (bt 24 22) HT_ ?_
    refine pu 22 (some 29) (bt 24 23) HT_ ?_
    refine pu 23 (some 6) (bt 24 24) HT_ ?_
    refine done_ (done_of HT_.out (by kernel_rfl)) ?_
    try go_wp2
    go_ret
    exact ⟨by first | rfl | (simp [errW_none, errW_some] <;> rfl) | (simp [*, errW_none, errW_some] <;> rfl), bbw2 HB GE188 GE189⟩
  ·replace c7 := Bool.eq_false_iff.mpr c7
   subst c7
   have H1 : (some false) = some r := by rw [if_neg (show ¬ (false = true) by decide)] at H; first | done | exact H
   clear H
   have H := H1
   clear H1
   obtain rfl := Option.some.inj H
   go_enter Try.func11, Try.ntmps11
   try go_wp2_with (first | ((with_reducible refine gate_dst (N := 4) rfl ?_); refine box_event ?hg (N := 4) ?hd (cs := #[.int .i64 a1_0, .int .i64 a1_1, .int .i64 a1_2]) (t := 31) ?hr ?_; (case hd => rfl); (case hg => rfl); (case hr => first | (go_simp; done) | (go_simp; rfl)); intro gb188 hg w24 hbox hb; have BK188 := Aside0.mk (hbox); have GW188 := ngw0 hg HB; have GE188 := ngw0 hg HB; replace HB := Aside0.mk (bst0 HB hb); clear hb hbox hg) | ((with_reducible refine gate_dst (N := 5) rfl ?_); refine box_event ?hg (N := 5) ?hd (cs := #[.int .i64 a2_0, .int .i64 a2_1, .int .i64 a2_2, .int .i64 a2_3, .int .i64 a2_4, .int .i64 a2_5]) (t := 36) ?hr ?_; (case hd => rfl); (case hg => rfl); (case hr => first | (go_simp; done) | (go_simp; rfl)); intro gb189 hg w25 hbox hb; have BK189 := Aside0.mk (hbox); have GW189 := ngw1 hg HB GE188; have GE189 := ngw1 hg HB GE188; replace HB := Aside0.mk (bst1 HB GE188 hb); have NB188_189 := nlt hg BK188; have NB189_188 := nsy (nlt hg BK188); replace BK188 := Aside0.mk (bbl BK188 hb); clear hb hbox hg))
   replace BK188 := Aside0.mk (blk_drew BK188.out)
   replace BK189 := Aside0.mk (blk_drew BK189.out)
   replace HB := Aside0.mk (below_drew1 HB.out)
   refine start_ (n := 24) (S := fun w' => w'.cell? ⟨gb188, 0, none⟩ = some (.int .i64 a1_0) ∧ w'.cell? ⟨gb188, 1, none⟩ = some (.int .i64 a1_1) ∧ w'.cell? ⟨gb188, 2, none⟩ = some (.int .i64 a1_2) ∧ w'.cell? ⟨gb189, 0, none⟩ = some (.int .i64 a2_0) ∧ w'.cell? ⟨gb189, 1, none⟩ = some (.int .i64 a2_1) ∧ w'.cell? ⟨gb189, 2, none⟩ = some (.int .i64 a2_2) ∧ w'.cell? ⟨gb189, 3, none⟩ = some (.int .i64 a2_3) ∧ w'.cell? ⟨gb189, 4, none⟩ = some (.int .i64 a2_4) ∧ w'.cell? ⟨gb189, 5, none⟩ = some (.int .i64 a2_5)) (ds := []) (bt 24 0) (by kernel_rfl) rfl rfl ⟨bcl BK188 0, bcl BK188 1, bcl BK188 2, bcl BK189 0, bcl BK189 1, bcl BK189 2, bcl BK189 3, bcl BK189 4, bcl BK189 5⟩ (fun hHeld => ?_); refine with_tabW spec_IsSuitable.tab1 spec_IsSuitable.bits1 (fun HT_ HW_ => ?_)
   generalize w25.drew = w26 at BK188 BK189 HB hHeld ⊢
   refine pu 0 (some 7) (bt 24 1) HT_ ?_
   refine ta 1 (some 8) (bt 24 2) HT_ HW_ hHeld ?_
   refine one_ (i := 2) (N := some 9) (bt 24 3) rfl rfl (one_of HT_.out (by kernel_rfl)) (by decide) (fun K hK => ?_)
   refine goes_ Try.func38 (by kernel_rfl) rfl #[.int .i64 a0, .agg #[.int .i64 a1_0, .int .i64 a1_1, .int .i64 a1_2]] (by rfl) rfl rfl (by (try simp only [List.map_toArray, List.map_cons, List.map_nil]); first | done | rfl | (simp only [List.length_drop, List.length_take]; rfl)) ?_
   with_reducible refine (spec_l04Code.calls a0 a1_0 a1_1 a1_2 t190 _ A4.out).mono ?_
   rintro e w27 ⟨rfl, hb⟩
   refine ⟨_, rfl, ?_⟩
   replace BK188 := Aside0.mk (bbl BK188 hb)
   replace BK189 := Aside0.mk (bbl BK189 hb)
   replace HB := Aside0.mk (bst2 HB GE188 GE189 hb)
   (try clear hb)
   (try clear hb2)
   (try clear hk)
   (try clear hi)
   refine hK.out _ _ ⟨bcl BK188 0, bcl BK188 1, bcl BK188 2, bcl BK189 0, bcl BK189 1, bcl BK189 2, bcl BK189 3, bcl BK189 4, bcl BK189 5⟩ (fun hHeld => ?_)
   clear hK K
   refine norm_ (a' := ?_) ?_ ?_
   rotate_left
   ·show Act.put _ (some 9) _ = _
    simp only [Act.put, sA, sB, sC, i64_w, i32_w]
    rfl
   refine pu 3 (some 10) (bt 24 4) HT_ ?_
   refine pu 4 (some 11) (bt 24 5) HT_ ?_
   refine pu 5 (some 12) (bt 24 6) HT_ ?_
   refine pu 6 (some 13) (bt 24 7) HT_ ?_
   refine ta 7 (some 14) (bt 24 8) HT_ HW_ hHeld ?_
   refine one_ (i := 8) (N := some 15) (bt 24 9) rfl rfl (one_of HT_.out (by kernel_rfl)) (by decide) (fun K hK => ?_)
   refine goes_ Try.func39 (by kernel_rfl) rfl #[.int .i64 a0, .agg #[.int .i64 a2_0, .int .i64 a2_1, .int .i64 a2_2, .int .i64 a2_3]] (by rfl) rfl rfl (by (try simp only [List.map_toArray, List.map_cons, List.map_nil]); first | done | rfl | (simp only [List.length_drop, List.length_take]; rfl)) ?_
   with_reducible refine (spec_IsPointMat.calls a0 a2_0 a2_1 a2_2 a2_3 false _ A6.out).mono ?_
   rintro e w28 ⟨rfl, hb⟩
   refine ⟨_, rfl, ?_⟩
   replace BK188 := Aside0.mk (bbl BK188 hb)
   replace BK189 := Aside0.mk (bbl BK189 hb)
   replace HB := Aside0.mk (bst2 HB GE188 GE189 hb)
   (try clear hb)
   (try clear hb2)
   (try clear hk)
   (try clear hi)
   refine hK.out _ _ ⟨bcl BK188 0, bcl BK188 1, bcl BK188 2, bcl BK189 0, bcl BK189 1, bcl BK189 2, bcl BK189 3, bcl BK189 4, bcl BK189 5⟩ (fun hHeld => ?_)
   clear hK K
   refine norm_ (a' := ?_) ?_ ?_
   rotate_left
   ·show Act.put _ (some 15) _ = _
    simp only [Act.put, sA, sB, sC, i64_w, i32_w]
    rfl
   refine pu 9 (some 16) (bt 24 10) HT_ ?_
   refine pu 10 (some 17) (bt 24 11) HT_ ?_
   refine pf 11 (some 18) (bt 24 12) HT_ ?_
   refine pf 12 (some 19) (bt 24 13) HT_ ?_
   refine pf 13 (some 20) (bt 24 14) HT_ ?_
   refine pf 14 (some 21) (bt 24 15) HT_ ?_
   refine pf 15 (some 22) (bt 24 16) HT_ ?_
   refine pf 16 (some 23) (bt 24 17) HT_ ?_
   refine pu 17 (some 24) (bt 24 18) HT_ ?_
   refine pu 18 (some 25) (bt 24 19) HT_ ?_
   refine pf 19 (some 26) (bt 24 20) HT_ ?_
   refine pf 20 (some 27) (bt 24 21) HT_ ?_
   refine pf 21 (some 28) (bt 24 22) HT_ ?_
   refine pu 22 (some 29) (bt 24 23) HT_ ?_
   refine pu 23 (some 6) (bt 24 24) HT_ ?_
   refine done_ (done_of HT_.out (by kernel_rfl)) ?_
   try go_wp2
   go_ret
   exact ⟨by first | rfl | (simp [errW_none, errW_some] <;> rfl) | (simp [*, errW_none, errW_some] <;> rfl), bbw2 HB GE188 GE189⟩
 ·rw [if_neg c5] at H
  have c5b0 : (t190 == 0) = false := beq_eq_false_iff_ne.mpr c5
  have c5b1 : (t190 != 0) = true := bne_iff_ne.mpr c5
  obtain rfl := Option.some.inj H
  go_enter Try.func11, Try.ntmps11
  try go_wp2_with (first | ((with_reducible refine gate_dst (N := 4) rfl ?_); refine box_event ?hg (N := 4) ?hd (cs := #[.int .i64 a1_0, .int .i64 a1_1, .int .i64 a1_2]) (t := 31) ?hr ?_; (case hd => rfl); (case hg => rfl); (case hr => first | (go_simp; done) | (go_simp; rfl)); intro gb188 hg w29 hbox hb; have BK188 := Aside0.mk (hbox); have GW188 := ngw0 hg HB; have GE188 := ngw0 hg HB; replace HB := Aside0.mk (bst0 HB hb); clear hb hbox hg) | ((with_reducible refine gate_dst (N := 5) rfl ?_); refine box_event ?hg (N := 5) ?hd (cs := #[.int .i64 a2_0, .int .i64 a2_1, .int .i64 a2_2, .int .i64 a2_3, .int .i64 a2_4, .int .i64 a2_5]) (t := 36) ?hr ?_; (case hd => rfl); (case hg => rfl); (case hr => first | (go_simp; done) | (go_simp; rfl)); intro gb189 hg w30 hbox hb; have BK189 := Aside0.mk (hbox); have GW189 := ngw1 hg HB GE188; have GE189 := ngw1 hg HB GE188; replace HB := Aside0.mk (bst1 HB GE188 hb); have NB188_189 := nlt hg BK188; have NB189_188 := nsy (nlt hg BK188); replace BK188 := Aside0.mk (bbl BK188 hb); clear hb hbox hg))
  replace BK188 := Aside0.mk (blk_drew BK188.out)
  replace BK189 := Aside0.mk (blk_drew BK189.out)
  replace HB := Aside0.mk (below_drew1 HB.out)
  refine start_ (n := 24) (S := fun w' => w'.cell? ⟨gb188, 0, none⟩ = some (.int .i64 a1_0) ∧ w'.cell? ⟨gb188, 1, none⟩ = some (.int .i64 a1_1) ∧ w'.cell? ⟨gb188, 2, none⟩ = some (.int .i64 a1_2)) (ds := []) (bt 24 0) (by kernel_rfl) rfl rfl ⟨bcl BK188 0, bcl BK188 1, bcl BK188 2⟩ (fun hHeld => ?_); refine with_tabW spec_IsSuitable.tab1 spec_IsSuitable.bits1 (fun HT_ HW_ => ?_)
  generalize w30.drew = w31 at BK188 BK189 HB hHeld ⊢
  refine pu 0 (some 7) (bt 24 1) HT_ ?_
  refine ta 1 (some 8) (bt 24 2) HT_ HW_ hHeld ?_
  refine one_ (i := 2) (N := some 9) (bt 24 3) rfl rfl (one_of HT_.out (by kernel_rfl)) (by decide) (fun K hK => ?_)
  refine goes_ Try.func38 (by kernel_rfl) rfl #[.int .i64 a0, .agg #[.int .i64 a1_0, .int .i64 a1_1, .int .i64 a1_2]] (by rfl) rfl rfl (by (try simp only [List.map_toArray, List.map_cons, List.map_nil]); first | done | rfl | (simp only [List.length_drop, List.length_take]; rfl)) ?_
  with_reducible refine (spec_l04Code.calls a0 a1_0 a1_1 a1_2 t190 _ A4.out).mono ?_
  rintro e w32 ⟨rfl, hb⟩
  refine ⟨_, rfl, ?_⟩
  replace BK188 := Aside0.mk (bbl BK188 hb)
  replace BK189 := Aside0.mk (bbl BK189 hb)
  replace HB := Aside0.mk (bst2 HB GE188 GE189 hb)
  (try clear hb)
  (try clear hb2)
  (try clear hk)
  (try clear hi)
  refine hK.out _ _ ⟨bcl BK188 0, bcl BK188 1, bcl BK188 2⟩ (fun hHeld => ?_)
  clear hK K
  refine norm_ (a' := ?_) ?_ ?_
  rotate_left
  ·show Act.put _ (some 9) _ = _
   simp only [Act.put, sA, sB, sC, i64_w, i32_w]
   rfl
  refine pu 3 (some 10) (bt 24 4) HT_ ?_
  refine pu 4 (some 11) (bt 24 5) HT_ ?_
  refine pf 5 (some 12) (bt 24 6) HT_ ?_
  refine pf 6 (some 13) (bt 24 7) HT_ ?_
  refine pf 7 (some 14) (bt 24 8) HT_ ?_
  refine pf 8 (some 15) (bt 24 9) HT_ ?_
  refine pu 9 (some 16) (bt 24 10) HT_ ?_
  refine pu 10 (some 17) (bt 24 11) HT_ ?_
  refine pf 11 (some 18) (bt 24 12) HT_ ?_
  refine pf 12 (some 19) (bt 24 13) HT_ ?_
  refine pf 13 (some 20) (bt 24 14) HT_ ?_
  refine pf 14 (some 21) (bt 24 15) HT_ ?_
  refine pf 15 (some 22) (bt 24 16) HT_ ?_
  refine pf 16 (some 23) (bt 24 17) HT_ ?_
  refine pu 17 (some 24) (bt 24 18) HT_ ?_
  refine pu 18 (some 25) (bt 24 19) HT_ ?_
  refine pf 19 (some 26) (bt 24 20) HT_ ?_
  refine pf 20 (some 27) (bt 24 21) HT_ ?_
  refine pf 21 (some 28) (bt 24 22) HT_ ?_
  refine pu 22 (some 29) (bt 24 23) HT_ ?_
  refine pu 23 (some 6) (bt 24 24) HT_ ?_
  refine done_ (done_of HT_.out (by kernel_rfl)) ?_
  try go_wp2
  go_ret
  exact ⟨by first | rfl | (simp [errW_none, errW_some] <;> rfl) | (simp [*, errW_none, errW_some] <;> rfl), bbw2 HB GE188 GE189⟩

attribute [local go_sem high] eqA33
/-! ### spec_l03Reduce: function 84 -/
def spec_l03Reduce.f (a0_0 : Int) (a0_1 : Int) (a0_2 : Int) (a1_0 : Int) (a1_1 : Int) : Option (Int × Int) := (spec_l01Mod.f a1_1 a0_2).bind fun t199 => (if a0_2 = 0 then (none) else ((spec_l01Mod.f (wrap64 (a1_0 - (wrap64 ((wrap64 (Int.tdiv (wrap64 (a1_1 - t199)) a0_2)) * a0_1)))) a0_0).bind fun t200 => (some (t200, t199))))
set_option maxHeartbeats 8000000 in
set_option maxRecDepth 100000 in
theorem spec_l03Reduce.calls (a0_0 : Int) (a0_1 : Int) (a0_2 : Int) (a1_0 : Int) (a1_1 : Int) (r1 : Int) (r2 : Int) (w : World) (h : spec_l03Reduce.f a0_0 a0_1 a0_2 a1_0 a1_1 = some (r1, r2)) :
  Calls Try.prog 84 #[.agg #[.int .i64 a0_0, .int .i64 a0_1, .int .i64 a0_2], .agg #[.int .i64 a1_0, .int .i64 a1_1]] w fun e w' => e = .returned (.agg #[.int .i64 r1, .int .i64 r2]) ∧ Below w.heap.size w w' := by
 have hu31 := Try.underlying31
 have hu34 := Try.underlying34
 have HB := Aside0.mk (Below.refl w.heap.size w)
 have H : ((spec_l01Mod.f a1_1 a0_2).bind fun t199 => (if a0_2 = 0 then (none) else ((spec_l01Mod.f (wrap64 (a1_0 - (wrap64 ((wrap64 (Int.tdiv (wrap64 (a1_1 - t199)) a0_2)) * a0_1)))) a0_0).bind fun t200 => (some (t200, t199))))) = some (r1, r2) := h
 clear h
 replace H := Option.bind_eq_some_iff.mp H
 obtain ⟨t199, A30, H⟩ := H
 replace H : (if a0_2 = 0 then (none) else ((spec_l01Mod.f (wrap64 (a1_0 - (wrap64 ((wrap64 (Int.tdiv (wrap64 (a1_1 - t199)) a0_2)) * a0_1)))) a0_0).bind fun t200 => (some (t200, t199)))) = some (r1, r2) := H
 have A3 := Aside0.mk A30
 clear A30
 by_cases c4 : a0_2 = 0
 ·rw [if_pos c4] at H
  exact absurd H (by simp)
 ·rw [if_neg c4] at H
  have c4b0 : (a0_2 == 0) = false := beq_eq_false_iff_ne.mpr c4
  have c4b1 : (a0_2 != 0) = true := bne_iff_ne.mpr c4
  replace H := Option.bind_eq_some_iff.mp H
  obtain ⟨t200, A50, H⟩ := H
  replace H : (some (t200, t199)) = some (r1, r2) := H
  have A5 := Aside0.mk A50
  clear A50
  simp only [Option.some.injEq, Prod.mk.injEq] at H
  obtain ⟨rfl, rfl⟩ := H
  go_enter Try.func84, Try.ntmps84
  go_wp2_with (first | ((with_reducible refine gate_dst (N := 2) rfl ?_); refine box_event ?hg (N := 2) ?hd (cs := #[.int .i64 a0_0, .int .i64 a0_1, .int .i64 a0_2]) (t := 31) ?hr ?_; (case hd => rfl); (case hg => rfl); (case hr => first | (go_simp; done) | (go_simp; rfl)); intro gb196 hg w6 hbox hb; have BK196 := Aside0.mk (hbox); have GW196 := ngw0 hg HB; have GE196 := ngw0 hg HB; replace HB := Aside0.mk (bst0 HB hb); clear hb hbox hg) | ((with_reducible refine gate_dst (N := 3) rfl ?_); refine box_event ?hg (N := 3) ?hd (cs := #[.int .i64 a1_0, .int .i64 a1_1]) (t := 34) ?hr ?_; (case hd => rfl); (case hg => rfl); (case hr => first | (go_simp; done) | (go_simp; rfl)); intro gb197 hg w7 hbox hb; have BK197 := Aside0.mk (hbox); have GW197 := ngw1 hg HB GE196; have GE197 := ngw1 hg HB GE196; replace HB := Aside0.mk (bst1 HB GE196 hb); have NB196_197 := nlt hg BK196; have NB197_196 := nsy (nlt hg BK196); replace BK196 := Aside0.mk (bbl BK196 hb); clear hb hbox hg) | ((with_reducible refine gate_dst (N := 4) rfl ?_); refine box_event ?hg (N := 4) ?hd (cs := #[.int .i64 0, .int .i64 0]) (t := 34) ?hr ?_; (case hd => rfl); (case hg => rfl); (case hr => first | (go_simp; done) | (go_simp; rfl)); intro gb198 hg w8 hbox hb; have BK198 := Aside0.mk (hbox); have GW198 := ngw2 hg HB GE196 GE197; have GE198 := ngw2 hg HB GE196 GE197; replace HB := Aside0.mk (bst2 HB GE196 GE197 hb); have NB196_198 := nlt hg BK196; have NB198_196 := nsy (nlt hg BK196); replace BK196 := Aside0.mk (bbl BK196 hb); have NB197_198 := nlt hg BK197; have NB198_197 := nsy (nlt hg BK197); replace BK197 := Aside0.mk (bbl BK197 hb); clear hb hbox hg; have hnb9 := NB197_196.out; have hnc9 := NB196_197.out; have hnb10 := NB197_198.out; have hnc10 := NB198_197.out; obtain ⟨hcz11_0, hcz11_1, hfz11_0, hfz11_1⟩ := bz2 BK197; have hnb12 := NB196_198.out; have hnc12 := NB198_196.out; obtain ⟨hcz13_0, hcz13_1, hcz13_2, hfz13_0, hfz13_1, hfz13_2⟩ := bz3 BK196) | ((with_reducible refine gate_callee (f := 102) rfl ?_); refine goesL_ (some 11) rfl rfl Try.func102 (by kernel_rfl) rfl #[.int .i64 a1_1, .int .i64 a0_2] rfl (by (try simp only [List.map_toArray, List.map_cons, List.map_nil]); first | done | rfl | (simp only [List.length_drop, List.length_take]; rfl)) ?_; (with_reducible refine (spec_l01Mod.calls a1_1 a0_2 t199 _ A3.out).mono ?_); rintro e w' ⟨rfl, ⟨nd, rfl⟩⟩; refine ⟨_, rfl, ?_⟩; (try (rw [drewN_self w8]; generalize hq_ : World.drewN w8 _ = w8; have n0_ : Aside0 (w8.heap[gb196]? = some (.cells #[.int .i64 a0_0, .int .i64 a0_1, .int .i64 a0_2] 31 (0, 0))) := ⟨by rw [← hq_]; exact (bkp BK196)⟩; have n1_ : Aside0 (w8.heap[gb197]? = some (.cells #[.int .i64 a1_0, .int .i64 a1_1] 34 (0, 0))) := ⟨by rw [← hq_]; exact (bkp BK197)⟩; have n2_ : Aside0 (w8.heap[gb198]? = some (.cells #[.int .i64 0, .int .i64 0] 34 (0, 0))) := ⟨by rw [← hq_]; exact (bkp BK198)⟩; have n3_ : Aside0 (Below w.heap.size w w8) := ⟨by rw [← hq_]; exact (bbw3 HB GE196 GE197 GE198)⟩; clear BK196 BK197 BK198 HB hq_; have BK196 := n0_; have BK197 := n1_; have BK198 := n2_; have HB := n3_; clear n0_ n1_ n2_ n3_)); have hcz14_0 : w8.cell? ⟨gb197, 0, none⟩ = some (.int .i64 a1_0) := bcl BK197 0; have hcz14_1 : w8.cell? ⟨gb197, 1, none⟩ = some (.int .i64 a1_1) := bcl BK197 1; have hfz14_0 := blk_frozen BK197.out 0; have hfz14_1 := blk_frozen BK197.out 1; have hcz15_0 : w8.cell? ⟨gb196, 0, none⟩ = some (.int .i64 a0_0) := bcl BK196 0; have hcz15_1 : w8.cell? ⟨gb196, 1, none⟩ = some (.int .i64 a0_1) := bcl BK196 1; have hcz15_2 : w8.cell? ⟨gb196, 2, none⟩ = some (.int .i64 a0_2) := bcl BK196 2; have hfz15_0 := blk_frozen BK196.out 0; have hfz15_1 := blk_frozen BK196.out 1; have hfz15_2 := blk_frozen BK196.out 2) | ((with_reducible refine gate_callee (f := 102) rfl ?_); refine goesL_ (some 28) rfl rfl Try.func102 (by kernel_rfl) rfl #[.int .i64 (wrap64 (a1_0 - (wrap64 ((wrap64 (Int.tdiv (wrap64 (a1_1 - t199)) a0_2)) * a0_1)))), .int .i64 a0_0] rfl (by (try simp only [List.map_toArray, List.map_cons, List.map_nil]); first | done | rfl | (simp only [List.length_drop, List.length_take]; rfl)) ?_; (with_reducible refine (spec_l01Mod.calls (wrap64 (a1_0 - (wrap64 ((wrap64 (Int.tdiv (wrap64 (a1_1 - t199)) a0_2)) * a0_1)))) a0_0 t200 _ A5.out).mono ?_); rintro e w' ⟨rfl, ⟨nd, rfl⟩⟩; refine ⟨_, rfl, ?_⟩; (try (rw [drewN_self w8]; generalize hq_ : World.drewN w8 _ = w8; have n0_ : Aside0 (w8.heap[gb196]? = some (.cells #[.int .i64 a0_0, .int .i64 a0_1, .int .i64 a0_2] 31 (0, 0))) := ⟨by rw [← hq_]; exact (bkp BK196)⟩; have n1_ : Aside0 (w8.heap[gb197]? = some (.cells #[.int .i64 a1_0, .int .i64 a1_1] 34 (0, 0))) := ⟨by rw [← hq_]; exact (bkp BK197)⟩; have n2_ : Aside0 (w8.heap[gb198]? = some (.cells #[.int .i64 0, .int .i64 0] 34 (0, 0))) := ⟨by rw [← hq_]; exact (bkp BK198)⟩; have n3_ : Aside0 (Below w.heap.size w w8) := ⟨by rw [← hq_]; exact (bbw3 HB GE196 GE197 GE198)⟩; clear BK196 BK197 BK198 HB hq_; have BK196 := n0_; have BK197 := n1_; have BK198 := n2_; have HB := n3_; clear n0_ n1_ n2_ n3_)); have hcz16_0 : w8.cell? ⟨gb198, 0, none⟩ = some (.int .i64 0) := bcl BK198 0; have hcz16_1 : w8.cell? ⟨gb198, 1, none⟩ = some (.int .i64 0) := bcl BK198 1; have hfz16_0 := blk_frozen BK198.out 0; have hfz16_1 := blk_frozen BK198.out 1))
  refine bodyPost_ret (results_cell_row rfl _ _ gb198 34 #[.int .i64 t200, .int .i64 t199] (0, 0) _ rfl (by (with_reducible repeat (first | refine blk_drewN ?_ _ | refine blk_drew ?_ | refine blk_alloc ?_ _)); refine blk_put (cs := #[.int .i64 t200, .int .i64 0]) ?_ 1 _ rfl; (with_reducible repeat (first | refine blk_drewN ?_ _ | refine blk_drew ?_ | refine blk_alloc ?_ _)); refine blk_put (cs := #[.int .i64 0, .int .i64 0]) ?_ 0 _ rfl; (with_reducible repeat (first | refine blk_drewN ?_ _ | refine blk_drew ?_ | refine blk_alloc ?_ _)); exact BK198.out) Try.underlying34 rfl (by kernel_rfl)) rfl ?_
  exact ⟨by first | rfl | (simp [errW_none, errW_some] <;> rfl) | (simp [*, errW_none, errW_some] <;> rfl), bbw3 HB GE196 GE197 GE198⟩

/-! ### spec_l06Reduce: function 46 -/
def spec_l06Reduce.f (a0_0 : Int) (a0_1 : Int) (a0_2 : Int) (a1_0 : Int) (a1_1 : Int) (a1_2 : Int) (a1_3 : Int) (a1_4 : Int) (a1_5 : Int) : Option (Int × Int × Int × Int × Int × Int) := (spec_l03Reduce.f a0_0 a0_1 a0_2 a1_4 a1_5).bind fun bt204 => (some (a1_0, a1_1, a1_2, a1_3, bt204.1, bt204.2))
def spec_l06Reduce.T1 : Bool × List (List Nat × List Nat) := (true, [([], []), ([0], [0]), ([], []), ([], []), ([3], [3]), ([2, 4], [2, 4]), ([1, 5], [1, 5]), ([6, 5, 0, 1, 2, 3, 4, 5, 6], [6])])
def spec_l06Reduce.B1 : List Nat := [0, 1, 0, 0, 8, 28, 63, 127]
theorem spec_l06Reduce.tab1 : rtab .any (opsOf Try.f46 1) = spec_l06Reduce.T1 := by kernel_rfl
theorem spec_l06Reduce.bits1 : waitsOk spec_l06Reduce.T1.2 spec_l06Reduce.B1 = true := by kernel_rfl
set_option maxHeartbeats 8000000 in
set_option maxRecDepth 100000 in
theorem spec_l06Reduce.calls (a0_0 : Int) (a0_1 : Int) (a0_2 : Int) (a1_0 : Int) (a1_1 : Int) (a1_2 : Int) (a1_3 : Int) (a1_4 : Int) (a1_5 : Int) (r1 : Int) (r2 : Int) (r3 : Int) (r4 : Int) (r5 : Int) (r6 : Int) (w : World) (h : spec_l06Reduce.f a0_0 a0_1 a0_2 a1_0 a1_1 a1_2 a1_3 a1_4 a1_5 = some (r1, r2, r3, r4, r5, r6)) :
  Calls Try.prog 46 #[.agg #[.int .i64 a0_0, .int .i64 a0_1, .int .i64 a0_2], .agg #[.int .i64 a1_0, .int .i64 a1_1, .int .i64 a1_2, .int .i64 a1_3, .int .i64 a1_4, .int .i64 a1_5]] w fun e w' => e = .returned (.agg #[.int .i64 r1, .int .i64 r2, .int .i64 r3, .int .i64 r4, .int .i64 r5, .int .i64 r6]) ∧ Below w.heap.size w w' := by
 have hu31 := Try.underlying31
 have hu36 := Try.underlying36
 have hu33 := Try.underlying33
 have hu34 := Try.underlying34
 have HB := Aside0.mk (Below.refl w.heap.size w)
 have H : ((spec_l03Reduce.f a0_0 a0_1 a0_2 a1_4 a1_5).bind fun bt204 => (some (a1_0, a1_1, a1_2, a1_3, bt204.1, bt204.2))) = some (r1, r2, r3, r4, r5, r6) := h
 clear h
 replace H := Option.bind_eq_some_iff.mp H
 obtain ⟨⟨t204, t205⟩, A30, H⟩ := H
 replace H : (some (a1_0, a1_1, a1_2, a1_3, t204, t205)) = some (r1, r2, r3, r4, r5, r6) := H
 have A3 := Aside0.mk A30
 clear A30
 simp only [Option.some.injEq, Prod.mk.injEq] at H
 obtain ⟨rfl, rfl, rfl, rfl, rfl, rfl⟩ := H
 go_enter Try.func46, Try.ntmps46
 try go_wp2_with (first | ((with_reducible refine gate_dst (N := 2) rfl ?_); refine box_event ?hg (N := 2) ?hd (cs := #[.int .i64 a0_0, .int .i64 a0_1, .int .i64 a0_2]) (t := 31) ?hr ?_; (case hd => rfl); (case hg => rfl); (case hr => first | (go_simp; done) | (go_simp; rfl)); intro gb201 hg w4 hbox hb; have BK201 := Aside0.mk (hbox); have GW201 := ngw0 hg HB; have GE201 := ngw0 hg HB; replace HB := Aside0.mk (bst0 HB hb); clear hb hbox hg) | ((with_reducible refine gate_dst (N := 3) rfl ?_); refine box_event ?hg (N := 3) ?hd (cs := #[.int .i64 a1_0, .int .i64 a1_1, .int .i64 a1_2, .int .i64 a1_3, .int .i64 a1_4, .int .i64 a1_5]) (t := 36) ?hr ?_; (case hd => rfl); (case hg => rfl); (case hr => first | (go_simp; done) | (go_simp; rfl)); intro gb202 hg w5 hbox hb; have BK202 := Aside0.mk (hbox); have GW202 := ngw1 hg HB GE201; have GE202 := ngw1 hg HB GE201; replace HB := Aside0.mk (bst1 HB GE201 hb); have NB201_202 := nlt hg BK201; have NB202_201 := nsy (nlt hg BK201); replace BK201 := Aside0.mk (bbl BK201 hb); clear hb hbox hg) | ((with_reducible refine gate_dst (N := 4) rfl ?_); refine box_event ?hg (N := 4) ?hd (cs := #[.int .i64 0, .int .i64 0, .int .i64 0, .int .i64 0, .int .i64 0, .int .i64 0]) (t := 36) ?hr ?_; (case hd => rfl); (case hg => rfl); (case hr => first | (go_simp; done) | (go_simp; rfl)); intro gb203 hg w6 hbox hb; have BK203 := Aside0.mk (hbox); have GW203 := ngw2 hg HB GE201 GE202; have GE203 := ngw2 hg HB GE201 GE202; replace HB := Aside0.mk (bst2 HB GE201 GE202 hb); have NB201_203 := nlt hg BK201; have NB203_201 := nsy (nlt hg BK201); replace BK201 := Aside0.mk (bbl BK201 hb); have NB202_203 := nlt hg BK202; have NB203_202 := nsy (nlt hg BK202); replace BK202 := Aside0.mk (bbl BK202 hb); clear hb hbox hg))
 replace BK201 := Aside0.mk (blk_drew BK201.out)
 replace BK202 := Aside0.mk (blk_drew BK202.out)
 replace BK203 := Aside0.mk (blk_drew BK203.out)
 replace HB := Aside0.mk (below_drew1 HB.out)
 refine start_ (n := 8) (S := fun w' => w'.cell? ⟨gb202, 0, none⟩ = some (.int .i64 a1_0) ∧ w'.cell? ⟨gb202, 1, none⟩ = some (.int .i64 a1_1) ∧ w'.cell? ⟨gb202, 2, none⟩ = some (.int .i64 a1_2) ∧ w'.cell? ⟨gb202, 3, none⟩ = some (.int .i64 a1_3) ∧ w'.cell? ⟨gb202, 4, none⟩ = some (.int .i64 a1_4) ∧ w'.cell? ⟨gb202, 5, none⟩ = some (.int .i64 a1_5) ∧ w'.cell? ⟨gb201, 0, none⟩ = some (.int .i64 a0_0) ∧ w'.cell? ⟨gb201, 1, none⟩ = some (.int .i64 a0_1) ∧ w'.cell? ⟨gb201, 2, none⟩ = some (.int .i64 a0_2)) (ds := []) (bt 8 0) (by kernel_rfl) rfl rfl ⟨bcl BK202 0, bcl BK202 1, bcl BK202 2, bcl BK202 3, bcl BK202 4, bcl BK202 5, bcl BK201 0, bcl BK201 1, bcl BK201 2⟩ (fun hHeld => ?_); refine with_tabW spec_l06Reduce.tab1 spec_l06Reduce.bits1 (fun HT_ HW_ => ?_)
 generalize w6.drew = w7 at BK201 BK202 BK203 HB hHeld ⊢
 refine pu 0 (some 5) (bt 8 1) HT_ ?_
 refine pu 3 (some 8) #[true, false, false, true, false, false, false, false] HT_ ?_
 refine ta 1 (some 6) #[true, true, false, true, false, false, false, false] HT_ HW_ hHeld ?_
 refine ta 2 (some 7) (bt 8 4) HT_ HW_ hHeld ?_
 refine ta 4 (some 9) (bt 8 5) HT_ HW_ hHeld ?_
 refine one_ (i := 5) (N := some 10) (bt 8 6) rfl rfl (one_of HT_.out (by kernel_rfl)) (by decide) (fun K hK => ?_)
 refine goes_ Try.func84 (by kernel_rfl) rfl #[.agg #[.int .i64 a0_0, .int .i64 a0_1, .int .i64 a0_2], .agg #[.int .i64 a1_4, .int .i64 a1_5]] (by rfl) rfl rfl (by (try simp only [List.map_toArray, List.map_cons, List.map_nil]); first | done | rfl | (simp only [List.length_drop, List.length_take]; rfl)) ?_
 with_reducible refine (spec_l03Reduce.calls a0_0 a0_1 a0_2 a1_4 a1_5 t204 t205 _ A3.out).mono ?_
 rintro e w8 ⟨rfl, hb⟩
 refine ⟨_, rfl, ?_⟩
 replace BK201 := Aside0.mk (bbl BK201 hb)
 replace BK202 := Aside0.mk (bbl BK202 hb)
 replace BK203 := Aside0.mk (bbl BK203 hb)
 replace HB := Aside0.mk (bst3 HB GE201 GE202 GE203 hb)
 (try clear hb)
 (try clear hb2)
 (try clear hk)
 (try clear hi)
 refine hK.out _ _ ⟨bcl BK202 0, bcl BK202 1, bcl BK202 2, bcl BK202 3, bcl BK202 4, bcl BK202 5, bcl BK201 0, bcl BK201 1, bcl BK201 2⟩ (fun hHeld => ?_)
 clear hK K
 refine norm_ (a' := ?_) ?_ ?_
 rotate_left
 ·show Act.put _ (some 10) _ = _
  simp only [Act.put, sA, sB, sC, i64_w, i32_w]
  rfl
 refine pu 6 (some 11) (bt 8 7) HT_ ?_
 refine one_ (i := 7) (N := none) (bt 8 8) rfl rfl (one_of HT_.out (by kernel_rfl)) (by decide) (fun K hK => ?_)
 have hs9 : w8.cell? ⟨gb203, 0, none⟩ = some (.int .i64 0) := bcl BK203 0
 have hfs9 := blk_frozen BK203.out 0
 have hns9_0 := NB201_203.out
 have hns9_1 := NB202_203.out
 have hms9_0 := NB203_201.out
 have hms9_1 := NB203_202.out
 have hs10 : w8.cell? ⟨gb203, 1, none⟩ = some (.int .i64 0) := bcl BK203 1
 have hfs10 := blk_frozen BK203.out 1
 have hns10_0 := NB201_203.out
 have hns10_1 := NB202_203.out
 have hms10_0 := NB203_201.out
 have hms10_1 := NB203_202.out
 have hs11 : w8.cell? ⟨gb203, 2, none⟩ = some (.int .i64 0) := bcl BK203 2
 have hfs11 := blk_frozen BK203.out 2
 have hns11_0 := NB201_203.out
 have hns11_1 := NB202_203.out
 have hms11_0 := NB203_201.out
 have hms11_1 := NB203_202.out
 have hs12 : w8.cell? ⟨gb203, 3, none⟩ = some (.int .i64 0) := bcl BK203 3
 have hfs12 := blk_frozen BK203.out 3
 have hns12_0 := NB201_203.out
 have hns12_1 := NB202_203.out
 have hms12_0 := NB203_201.out
 have hms12_1 := NB203_202.out
 have hs13 : w8.cell? ⟨gb203, 4, none⟩ = some (.int .i64 0) := bcl BK203 4
 have hfs13 := blk_frozen BK203.out 4
 have hns13_0 := NB201_203.out
 have hns13_1 := NB202_203.out
 have hms13_0 := NB203_201.out
 have hms13_1 := NB203_202.out
 have hs14 : w8.cell? ⟨gb203, 5, none⟩ = some (.int .i64 0) := bcl BK203 5
 have hfs14 := blk_frozen BK203.out 5
 have hns14_0 := NB201_203.out
 have hns14_1 := NB202_203.out
 have hms14_0 := NB203_201.out
 have hms14_1 := NB203_202.out
 refine skip_ (w1 := ?_) (by rfl) rfl ?_ ?_
 rotate_left
 ·go_simp
  rfl
 refine hK.out _ _ ⟨((cell_far (p := ⟨gb203, _, none⟩) NB202_203.out _).trans (((cell_far (p := ⟨gb203, _, none⟩) NB202_203.out _).trans (((cell_far (p := ⟨gb203, _, none⟩) NB202_203.out _).trans (((cell_far (p := ⟨gb203, _, none⟩) NB202_203.out _).trans (((cell_far (p := ⟨gb203, _, none⟩) NB202_203.out _).trans (((cell_far (p := ⟨gb203, _, none⟩) NB202_203.out _).trans (hHeld.1)))))))))))), ((cell_far (p := ⟨gb203, _, none⟩) NB202_203.out _).trans (((cell_far (p := ⟨gb203, _, none⟩) NB202_203.out _).trans (((cell_far (p := ⟨gb203, _, none⟩) NB202_203.out _).trans (((cell_far (p := ⟨gb203, _, none⟩) NB202_203.out _).trans (((cell_far (p := ⟨gb203, _, none⟩) NB202_203.out _).trans (((cell_far (p := ⟨gb203, _, none⟩) NB202_203.out _).trans (hHeld.2.1)))))))))))), ((cell_far (p := ⟨gb203, _, none⟩) NB202_203.out _).trans (((cell_far (p := ⟨gb203, _, none⟩) NB202_203.out _).trans (((cell_far (p := ⟨gb203, _, none⟩) NB202_203.out _).trans (((cell_far (p := ⟨gb203, _, none⟩) NB202_203.out _).trans (((cell_far (p := ⟨gb203, _, none⟩) NB202_203.out _).trans (((cell_far (p := ⟨gb203, _, none⟩) NB202_203.out _).trans (hHeld.2.2.1)))))))))))), ((cell_far (p := ⟨gb203, _, none⟩) NB202_203.out _).trans (((cell_far (p := ⟨gb203, _, none⟩) NB202_203.out _).trans (((cell_far (p := ⟨gb203, _, none⟩) NB202_203.out _).trans (((cell_far (p := ⟨gb203, _, none⟩) NB202_203.out _).trans (((cell_far (p := ⟨gb203, _, none⟩) NB202_203.out _).trans (((cell_far (p := ⟨gb203, _, none⟩) NB202_203.out _).trans (hHeld.2.2.2.1)))))))))))), ((cell_far (p := ⟨gb203, _, none⟩) NB202_203.out _).trans (((cell_far (p := ⟨gb203, _, none⟩) NB202_203.out _).trans (((cell_far (p := ⟨gb203, _, none⟩) NB202_203.out _).trans (((cell_far (p := ⟨gb203, _, none⟩) NB202_203.out _).trans (((cell_far (p := ⟨gb203, _, none⟩) NB202_203.out _).trans (((cell_far (p := ⟨gb203, _, none⟩) NB202_203.out _).trans (hHeld.2.2.2.2.1)))))))))))), ((cell_far (p := ⟨gb203, _, none⟩) NB202_203.out _).trans (((cell_far (p := ⟨gb203, _, none⟩) NB202_203.out _).trans (((cell_far (p := ⟨gb203, _, none⟩) NB202_203.out _).trans (((cell_far (p := ⟨gb203, _, none⟩) NB202_203.out _).trans (((cell_far (p := ⟨gb203, _, none⟩) NB202_203.out _).trans (((cell_far (p := ⟨gb203, _, none⟩) NB202_203.out _).trans (hHeld.2.2.2.2.2.1)))))))))))), ((cell_far (p := ⟨gb203, _, none⟩) NB201_203.out _).trans (((cell_far (p := ⟨gb203, _, none⟩) NB201_203.out _).trans (((cell_far (p := ⟨gb203, _, none⟩) NB201_203.out _).trans (((cell_far (p := ⟨gb203, _, none⟩) NB201_203.out _).trans (((cell_far (p := ⟨gb203, _, none⟩) NB201_203.out _).trans (((cell_far (p := ⟨gb203, _, none⟩) NB201_203.out _).trans (hHeld.2.2.2.2.2.2.1)))))))))))), ((cell_far (p := ⟨gb203, _, none⟩) NB201_203.out _).trans (((cell_far (p := ⟨gb203, _, none⟩) NB201_203.out _).trans (((cell_far (p := ⟨gb203, _, none⟩) NB201_203.out _).trans (((cell_far (p := ⟨gb203, _, none⟩) NB201_203.out _).trans (((cell_far (p := ⟨gb203, _, none⟩) NB201_203.out _).trans (((cell_far (p := ⟨gb203, _, none⟩) NB201_203.out _).trans (hHeld.2.2.2.2.2.2.2.1)))))))))))), ((cell_far (p := ⟨gb203, _, none⟩) NB201_203.out _).trans (((cell_far (p := ⟨gb203, _, none⟩) NB201_203.out _).trans (((cell_far (p := ⟨gb203, _, none⟩) NB201_203.out _).trans (((cell_far (p := ⟨gb203, _, none⟩) NB201_203.out _).trans (((cell_far (p := ⟨gb203, _, none⟩) NB201_203.out _).trans (((cell_far (p := ⟨gb203, _, none⟩) NB201_203.out _).trans (hHeld.2.2.2.2.2.2.2.2))))))))))))⟩ (fun hHeld => ?_)
 clear hK K
 refine done_ (done_of HT_.out (by kernel_rfl)) ?_
 try go_wp2
 refine bodyPost_ret (results_cell_row rfl _ _ gb203 36 #[.int .i64 a1_0, .int .i64 a1_1, .int .i64 a1_2, .int .i64 a1_3, .int .i64 t204, .int .i64 t205] (0, 0) _ rfl (by (with_reducible repeat (first | refine blk_drewN ?_ _ | refine blk_drew ?_ | refine blk_alloc ?_ _)); refine blk_put (cs := #[.int .i64 a1_0, .int .i64 a1_1, .int .i64 a1_2, .int .i64 a1_3, .int .i64 t204, .int .i64 0]) ?_ 5 _ rfl; (with_reducible repeat (first | refine blk_drewN ?_ _ | refine blk_drew ?_ | refine blk_alloc ?_ _)); refine blk_put (cs := #[.int .i64 a1_0, .int .i64 a1_1, .int .i64 a1_2, .int .i64 a1_3, .int .i64 0, .int .i64 0]) ?_ 4 _ rfl; (with_reducible repeat (first | refine blk_drewN ?_ _ | refine blk_drew ?_ | refine blk_alloc ?_ _)); refine blk_put (cs := #[.int .i64 a1_0, .int .i64 a1_1, .int .i64 a1_2, .int .i64 0, .int .i64 0, .int .i64 0]) ?_ 3 _ rfl; (with_reducible repeat (first | refine blk_drewN ?_ _ | refine blk_drew ?_ | refine blk_alloc ?_ _)); refine blk_put (cs := #[.int .i64 a1_0, .int .i64 a1_1, .int .i64 0, .int .i64 0, .int .i64 0, .int .i64 0]) ?_ 2 _ rfl; (with_reducible repeat (first | refine blk_drewN ?_ _ | refine blk_drew ?_ | refine blk_alloc ?_ _)); refine blk_put (cs := #[.int .i64 a1_0, .int .i64 0, .int .i64 0, .int .i64 0, .int .i64 0, .int .i64 0]) ?_ 1 _ rfl; (with_reducible repeat (first | refine blk_drewN ?_ _ | refine blk_drew ?_ | refine blk_alloc ?_ _)); refine blk_put (cs := #[.int .i64 0, .int .i64 0, .int .i64 0, .int .i64 0, .int .i64 0, .int .i64 0]) ?_ 0 _ rfl; (with_reducible repeat (first | refine blk_drewN ?_ _ | refine blk_drew ?_ | refine blk_alloc ?_ _)); exact BK203.out) Try.underlying36 rfl (by kernel_rfl)) rfl ?_
 exact ⟨by first | rfl | (simp [errW_none, errW_some] <;> rfl) | (simp [*, errW_none, errW_some] <;> rfl), bbw3 HB GE201 GE202 GE203⟩

/-! ### spec_l01LessList: function 133 -/
mutual
def spec_l01LessList.l0 : Nat → List Int → List Int → Int → Option (Bool)
 | 0, _, _, _ => none
 | k + 1, x0, x1, x5 => if x5 < (x0.length : Int) then (spec_l01LessList.j1 k x0 x1 x5 (decide (x5 < (x1.length : Int)))) else (spec_l01LessList.j1 k x0 x1 x5 false)
def spec_l01LessList.j1 : Nat → List Int → List Int → Int → Bool → Option (Bool)
 | 0, _, _, _, _ => none
 | k + 1, x0, x1, x5, x15 => if x15 = true then (if 0 ≤ x5 then (if x5 < (x0.length : Int) then (if x5 < (x1.length : Int) then (if (rd x0 x5) = (rd x1 x5) then (spec_l01LessList.l0 k x0 x1 (wrap64 (x5 + 1))) else (some (decide ((rd x0 x5) < (rd x1 x5))))) else (none)) else (none)) else (none)) else (some (decide ((x0.length : Int) < (x1.length : Int))))
end
def spec_l01LessList.f (k : Nat) (l0 : List Int) (l1 : List Int) : Option (Bool) := spec_l01LessList.l0 k l0 l1 0
set_option maxHeartbeats 8000000 in
set_option maxRecDepth 100000 in
theorem spec_l01LessList.calls (k : Nat) (A0 : Option Addr) (c0 : Nat) (l0 : List Int) (A1 : Option Addr) (c1 : Nat) (l1 : List Int) (r : Bool) (w : World) (hr0 : Kd.C (Kd.int .i64) w A0 l0.length l0) (hc0 : l0.length ≤ c0) (hr1 : Kd.C (Kd.int .i64) w A1 l1.length l1) (hc1 : l1.length ≤ c1) (h : spec_l01LessList.f k l0 l1 = some r) :
  Calls Try.prog 133 #[.slice A0 l0.length c0, .slice A1 l1.length c1] w fun e w' => e = .returned (.bool r) ∧ Drawn0 w w' := by
 have HR0 := Aside0.mk hr0
 have HC0 := Aside0.mk hc0
 clear hr0 hc0
 have HR1 := Aside0.mk hr1
 have HC1 := Aside0.mk hc1
 clear hr1 hc1
 have H : (spec_l01LessList.l0 k l0 l1 0) = some r := h
 clear h
 have H' := Aside0.mk H
 clear H
 go_enter Try.func133, Try.ntmps133
 go_wp2
 repeat (go_quiet (fail); try go_wp2)
 go_loopg [5] k (fun kq v5 w' => ∃ (x5_1 : Int), v5 = .int .i64 x5_1 ∧ Aside0 (spec_l01LessList.l0 kq l0 l1 x5_1 = some r) ∧ Aside0 (kq ≤ k) ∧ Drawn0 w w')
 case atStart => exact ⟨(0), (by first | rfl | (simp; done) | (simp [*]; done)), H', ⟨Nat.le_refl _⟩, by repeat (first | exact Drawn0.refl _ | apply Drawn0.step)⟩
 case round =>
  clear H'
  try clear c1
  try clear p2
  obtain ⟨x5_1, rfl, HA, HK1, ⟨m1, rfl⟩⟩ := hrel
  cases gk with
  | zero => exact absurd HA.out (by simp [spec_l01LessList.l0])
  | succ k1 =>
   have H := HA.out
   clear HA
   simp only [spec_l01LessList.l0] at H
   have HC3 := Aside0.mk H
   clear H
   go_upto_region 2 with (fail)
   repeat (go_quiet (fail); go_upto_region 2 with (fail))
   go_cut [15] (fun v15 wc => ∃ (kq : Nat) (x15_2 : Bool), v15 = .bool x15_2 ∧ Aside0 (spec_l01LessList.j1 kq l0 l1 x5_1 x15_2 = some r) ∧ Aside0 (kq ≤ k1) ∧ Drawn0 w wc)
   case first =>
    have H := HC3.out
    clear HC3
    by_cases c4 : x5_1 < (l0.length : Int)
    ·rw [if_pos c4] at H
     have c4b0 : decide (x5_1 < (l0.length : Int)) = true := decide_eq_true c4
     clear c4
     (first | rw [c4b0] | (simp only [i64_w, i32_w]; rw [c4b0]) | skip)
     have H' := Aside0.mk H
     clear H
     go_wp2
     repeat (go_quiet (fail); try go_wp2)
     go_meet
     case rel => exact ⟨_, (decide (x5_1 < (l1.length : Int))), (by first | rfl | (simp; done) | (simp [*]; done)), H', ⟨by have := HK1.out; first | omega | exact Nat.le_refl _⟩, by repeat (first | exact Drawn0.refl _ | apply Drawn0.step)⟩
    ·rw [if_neg c4] at H
     have c4b0 : decide (x5_1 < (l0.length : Int)) = false := decide_eq_false c4
     clear c4
     (first | rw [c4b0] | (simp only [i64_w, i32_w]; rw [c4b0]) | skip)
     have H' := Aside0.mk H
     clear H
     go_wp2
     repeat (go_quiet (fail); try go_wp2)
     go_meet
     case rel => exact ⟨_, (false), (by first | rfl | (simp; done) | (simp [*]; done)), H', ⟨by have := HK1.out; first | omega | exact Nat.le_refl _⟩, by repeat (first | exact Drawn0.refl _ | apply Drawn0.step)⟩
   case rest =>
    clear HC3
    try clear c1
    try clear p2
    try clear c4
    try clear c4b0
    try clear p2
    obtain ⟨kq, x15_2, rfl, HA, HJ2, ⟨mc2, rfl⟩⟩ := hcut
    cases kq with
    | zero => exact absurd HA.out (by simp [spec_l01LessList.j1])
    | succ kj2 =>
     have H := HA.out
     clear HA
     simp only [spec_l01LessList.j1] at H
     by_cases c5 : x15_2 = true
     ·subst c5
      have H1 : (if 0 ≤ x5_1 then (if x5_1 < (l0.length : Int) then (if x5_1 < (l1.length : Int) then (if (rd l0 x5_1) = (rd l1 x5_1) then (spec_l01LessList.l0 kj2 l0 l1 (wrap64 (x5_1 + 1))) else (some (decide ((rd l0 x5_1) < (rd l1 x5_1))))) else (none)) else (none)) else (none)) = some r := by rw [if_pos rfl] at H; first | done | exact H
      clear H
      have H := H1
      clear H1
      by_cases c6 : 0 ≤ x5_1
      ·rw [if_pos c6] at H
       have c6b0 : decide (0 ≤ x5_1) = true := decide_eq_true c6
       clear c6
       by_cases c7 : x5_1 < (l0.length : Int)
       ·rw [if_pos c7] at H
        have c7b0 : decide (x5_1 < (l0.length : Int)) = true := decide_eq_true c7
        clear c7
        by_cases c8 : x5_1 < (l1.length : Int)
        ·rw [if_pos c8] at H
         have c8b0 : decide (x5_1 < (l1.length : Int)) = true := decide_eq_true c8
         clear c8
         by_cases c9 : (rd l0 x5_1) = (rd l1 x5_1)
         ·rw [if_pos c9] at H
          have c9b0 : ((rd l0 x5_1) == (rd l1 x5_1)) = true := beq_iff_eq.mpr c9
          have c9b1 : ((rd l0 x5_1) != (rd l1 x5_1)) = false := bne_eq_false_iff_eq.mpr c9
          clear c9
          have H' := Aside0.mk H
          clear H
          have p206 : 0 ≤ (x5_1 : Int) := of_decide_eq_true (by first | (with_reducible assumption) | assumption)
          have q206 : x5_1 < (l0.length : Int) := of_decide_eq_true (by first | (with_reducible assumption) | assumption)
          obtain ⟨ad206, e206, hx206_0⟩ := Kd.at_int HR0.out x5_1 p206 q206
          cases e206
          replace p206 := eq_true p206
          replace q206 := eq_true q206
          have p207 : 0 ≤ (x5_1 : Int) := of_decide_eq_true (by first | (with_reducible assumption) | assumption)
          have q207 : x5_1 < (l1.length : Int) := of_decide_eq_true (by first | (with_reducible assumption) | assumption)
          obtain ⟨ad207, e207, hx207_0⟩ := Kd.at_int HR1.out x5_1 p207 q207
          cases e207
          replace p207 := eq_true p207
          replace q207 := eq_true q207
          go_wp2
          repeat (go_quiet (fail); try go_wp2)
          go_roundg kj2
          case measure => have := HK1.out; have := HJ2.out; omega
          case rel => exact ⟨(wrap64 (x5_1 + 1)), (by first | rfl | (simp; done) | (simp [*]; done)), H', ⟨by have := HK1.out; have := HJ2.out; omega⟩, by repeat (first | exact Drawn0.refl _ | apply Drawn0.step)⟩
         ·rw [if_neg c9] at H
          have c9b0 : ((rd l0 x5_1) == (rd l1 x5_1)) = false := beq_eq_false_iff_ne.mpr c9
          have c9b1 : ((rd l0 x5_1) != (rd l1 x5_1)) = true := bne_iff_ne.mpr c9
          obtain rfl := Option.some.inj H
          have p206 : 0 ≤ (x5_1 : Int) := of_decide_eq_true (by first | (with_reducible assumption) | assumption)
          have q206 : x5_1 < (l0.length : Int) := of_decide_eq_true (by first | (with_reducible assumption) | assumption)
          obtain ⟨ad206, e206, hx206_0⟩ := Kd.at_int HR0.out x5_1 p206 q206
          cases e206
          replace p206 := eq_true p206
          replace q206 := eq_true q206
          have p207 : 0 ≤ (x5_1 : Int) := of_decide_eq_true (by first | (with_reducible assumption) | assumption)
          have q207 : x5_1 < (l1.length : Int) := of_decide_eq_true (by first | (with_reducible assumption) | assumption)
          obtain ⟨ad207, e207, hx207_0⟩ := Kd.at_int HR1.out x5_1 p207 q207
          cases e207
          replace p207 := eq_true p207
          replace q207 := eq_true q207
          have p208 : 0 ≤ (x5_1 : Int) := of_decide_eq_true (by first | (with_reducible assumption) | assumption)
          have q208 : x5_1 < (l0.length : Int) := of_decide_eq_true (by first | (with_reducible assumption) | assumption)
          obtain ⟨ad208, e208, hx208_0⟩ := Kd.at_int HR0.out x5_1 p208 q208
          obtain rfl : ad206 = ad208 := (by injection e208)
          replace p208 := eq_true p208
          replace q208 := eq_true q208
          have p209 : 0 ≤ (x5_1 : Int) := of_decide_eq_true (by first | (with_reducible assumption) | assumption)
          have q209 : x5_1 < (l1.length : Int) := of_decide_eq_true (by first | (with_reducible assumption) | assumption)
          obtain ⟨ad209, e209, hx209_0⟩ := Kd.at_int HR1.out x5_1 p209 q209
          obtain rfl : ad207 = ad209 := (by injection e209)
          replace p209 := eq_true p209
          replace q209 := eq_true q209
          go_wp2
          repeat (go_quiet (fail); try go_wp2)
          go_ret
          exact ⟨by first | rfl | (simp; done) | (simp [*]; done), by repeat (first | exact Drawn0.refl _ | apply Drawn0.step)⟩
        ·rw [if_neg c8] at H
         exact absurd H (by simp)
       ·rw [if_neg c7] at H
        exact absurd H (by simp)
      ·rw [if_neg c6] at H
       exact absurd H (by simp)
     ·replace c5 := Bool.eq_false_iff.mpr c5
      subst c5
      have H1 : (some (decide ((l0.length : Int) < (l1.length : Int)))) = some r := by rw [if_neg (show ¬ (false = true) by decide)] at H; first | done | exact H
      clear H
      have H := H1
      clear H1
      obtain rfl := Option.some.inj H
      go_wp2
      repeat (go_quiet (fail); try go_wp2)
      go_ret
      exact ⟨by first | rfl | (simp; done) | (simp [*]; done), by repeat (first | exact Drawn0.refl _ | apply Drawn0.step)⟩

/-! ### spec_l02Numbers: function 134 -/
def spec_l02Numbers.f (a0_0 : Int) (a0_1 : Int) (a0_2 : Int) (a0_3 : Int) : Option (List Int) := some (([a0_0, a0_1, a0_2, a0_3] : List Int))
set_option maxHeartbeats 8000000 in
set_option maxRecDepth 100000 in
theorem spec_l02Numbers.calls (a0_0 : Int) (a0_1 : Int) (a0_2 : Int) (a0_3 : Int) (r : List Int) (w : World) (h : spec_l02Numbers.f a0_0 a0_1 a0_2 a0_3 = some r) :
  Calls Try.prog 134 #[.agg #[.int .i64 a0_0, .int .i64 a0_1, .int .i64 a0_2, .int .i64 a0_3]] w fun e w' => ∃ v0_ : Value, e = .returned (v0_) ∧ Kd.R (Kd.int .i64) 2 w' w.heap.size (fun _ => True) v0_ r ∧ Below w.heap.size w w' := by
 have hu33 := Try.underlying33
 have HB := Aside0.mk (Below.refl w.heap.size w)
 have H : (some (([a0_0, a0_1, a0_2, a0_3] : List Int))) = some r := h
 clear h
 obtain ⟨y211, hy211⟩ : ∃ y_ : List Int, y_ = (([a0_0, a0_1, a0_2, a0_3] : List Int)) := ⟨_, rfl⟩
 replace H : (some y211) = some r := by first | (rw [hy211]; with_reducible exact H) | (have H2_ := (Option.bind_some _ _).symm.trans H; rw [hy211]; with_reducible exact H2_) | (have H2_ := (Option.bind_some _ _).symm.trans H; with_reducible exact H2_) | with_reducible exact H | (rw [hy211]; exact H) | exact H
 have Ny211 := Aside0.mk hy211
 clear hy211
 obtain rfl := Option.some.inj H
 go_enter Try.func134, Try.ntmps134
 go_wp2_with (first | ((with_reducible refine gate_dst (N := 1) rfl ?_); refine box_event ?hg (N := 1) ?hd (cs := #[.int .i64 a0_0, .int .i64 a0_1, .int .i64 a0_2, .int .i64 a0_3]) (t := 33) ?hr ?_; (case hd => rfl); (case hg => rfl); (case hr => first | (go_simp; done) | (go_simp; rfl)); intro gb210 hg w2 hbox hb; have BK210 := Aside0.mk (hbox); have GW210 := ngw0 hg HB; have GE210 := ngw0 hg HB; replace HB := Aside0.mk (bst0 HB hb); clear hb hbox hg; obtain ⟨hcz3_0, hcz3_1, hcz3_2, hcz3_3, hfz3_0, hfz3_1, hfz3_2, hfz3_3⟩ := bz4 BK210) | ((with_reducible refine gate_dst (N := 11) rfl ?_); refine Kd.R_lit (Kd.int .i64) _ 2 ?hg (N := 11) ?hd (xs := ([a0_0, a0_1, a0_2, a0_3] : List Int)) (inner := [.int .i64 a0_0, .int .i64 a0_1, .int .i64 a0_2, .int .i64 a0_3]) (ok := fun _ => True) (okp := fun _ => True) ?hr ?hp (fun _ hk => hk) trivial (Below.refl _ _) (Nat.le_refl _) (by simp) ?_; (case hd => rfl); (case hg => rfl); (case hr => first | (go_simp; done) | (go_simp; rfl)); (case hp => exact (Reps.one (show Kd.M (Kd.int .i64) _ _ _ a0_0 [.int .i64 a0_0] from rfl) (Reps.one (show Kd.M (Kd.int .i64) _ _ _ a0_1 [.int .i64 a0_1] from rfl) (Reps.one (show Kd.M (Kd.int .i64) _ _ _ a0_2 [.int .i64 a0_2] from rfl) (Reps.one (show Kd.M (Kd.int .i64) _ _ _ a0_3 [.int .i64 a0_3] from rfl) (Reps.none _ _)))))); intro v212 w4 ho5 hb hg_ hnew_; clear hg_ hnew_; (first | rw [← Ny211.out] at ho5 | (simp only [Int.reduceToNat] at ho5; rw [← Ny211.out] at ho5)); have HO213 := Aside0.mk (Kd.R_lower ho5 (bsz1 HB GE210)); replace BK210 := Aside0.mk (bbl BK210 hb); replace HB := Aside0.mk (bst1 HB GE210 hb); clear hb ho5))
 go_ret
 exact ⟨_, by first | rfl | (simp [errW_none, errW_some] <;> rfl) | (simp [*, errW_none, errW_some] <;> rfl), by (with_reducible repeat (first | apply Kd.R_alloc | apply Kd.R_drewN | apply Kd.R_drew)); exact HO213.out, bbw1 HB GE210⟩

/-! ### spec_l02Less: function 106 -/
def spec_l02Less.f (k : Nat) (a0_0 : Int) (a0_1 : Int) (a0_2 : Int) (a0_3 : Int) (a1_0 : Int) (a1_1 : Int) (a1_2 : Int) (a1_3 : Int) : Option (Bool) := (spec_l02Numbers.f a0_0 a0_1 a0_2 a0_3).bind fun t216 => ((spec_l02Numbers.f a1_0 a1_1 a1_2 a1_3).bind fun t219 => ((spec_l01LessList.f k t216 t219).bind fun t222 => (some t222)))
set_option maxHeartbeats 8000000 in
set_option maxRecDepth 100000 in
theorem spec_l02Less.calls (k : Nat) (a0_0 : Int) (a0_1 : Int) (a0_2 : Int) (a0_3 : Int) (a1_0 : Int) (a1_1 : Int) (a1_2 : Int) (a1_3 : Int) (r : Bool) (w : World) (h : spec_l02Less.f k a0_0 a0_1 a0_2 a0_3 a1_0 a1_1 a1_2 a1_3 = some r) :
  Calls Try.prog 106 #[.agg #[.int .i64 a0_0, .int .i64 a0_1, .int .i64 a0_2, .int .i64 a0_3], .agg #[.int .i64 a1_0, .int .i64 a1_1, .int .i64 a1_2, .int .i64 a1_3]] w fun e w' => e = .returned (.bool r) ∧ Below w.heap.size w w' := by
 have hu33 := Try.underlying33
 have HB := Aside0.mk (Below.refl w.heap.size w)
 have H : ((spec_l02Numbers.f a0_0 a0_1 a0_2 a0_3).bind fun t216 => ((spec_l02Numbers.f a1_0 a1_1 a1_2 a1_3).bind fun t219 => ((spec_l01LessList.f k t216 t219).bind fun t222 => (some t222)))) = some r := h
 clear h
 replace H := Option.bind_eq_some_iff.mp H
 obtain ⟨t216, A30, H⟩ := H
 replace H : ((spec_l02Numbers.f a1_0 a1_1 a1_2 a1_3).bind fun t219 => ((spec_l01LessList.f k t216 t219).bind fun t222 => (some t222))) = some r := H
 have A3 := Aside0.mk A30
 clear A30
 replace H := Option.bind_eq_some_iff.mp H
 obtain ⟨t219, A40, H⟩ := H
 replace H : ((spec_l01LessList.f k t216 t219).bind fun t222 => (some t222)) = some r := H
 have A4 := Aside0.mk A40
 clear A40
 replace H := Option.bind_eq_some_iff.mp H
 obtain ⟨t222, A50, H⟩ := H
 replace H : (some t222) = some r := H
 have A5 := Aside0.mk A50
 clear A50
 obtain rfl := Option.some.inj H
 go_enter Try.func106, Try.ntmps106
 try go_wp2_with (first | ((with_reducible refine gate_dst (N := 2) rfl ?_); refine box_event ?hg (N := 2) ?hd (cs := #[.int .i64 a0_0, .int .i64 a0_1, .int .i64 a0_2, .int .i64 a0_3]) (t := 33) ?hr ?_; (case hd => rfl); (case hg => rfl); (case hr => first | (go_simp; done) | (go_simp; rfl)); intro gb214 hg w6 hbox hb; have BK214 := Aside0.mk (hbox); have GW214 := ngw0 hg HB; have GE214 := ngw0 hg HB; replace HB := Aside0.mk (bst0 HB hb); clear hb hbox hg) | ((with_reducible refine gate_dst (N := 3) rfl ?_); refine box_event ?hg (N := 3) ?hd (cs := #[.int .i64 a1_0, .int .i64 a1_1, .int .i64 a1_2, .int .i64 a1_3]) (t := 33) ?hr ?_; (case hd => rfl); (case hg => rfl); (case hr => first | (go_simp; done) | (go_simp; rfl)); intro gb215 hg w7 hbox hb; have BK215 := Aside0.mk (hbox); have GW215 := ngw1 hg HB GE214; have GE215 := ngw1 hg HB GE214; replace HB := Aside0.mk (bst1 HB GE214 hb); have NB214_215 := nlt hg BK214; have NB215_214 := nsy (nlt hg BK214); replace BK214 := Aside0.mk (bbl BK214 hb); clear hb hbox hg))
 replace BK214 := Aside0.mk (blk_drew BK214.out)
 replace BK215 := Aside0.mk (blk_drew BK215.out)
 replace HB := Aside0.mk (below_drew1 HB.out)
 refine start_ (n := 6) (S := fun w' => w'.cell? ⟨gb214, 0, none⟩ = some (.int .i64 a0_0) ∧ w'.cell? ⟨gb214, 1, none⟩ = some (.int .i64 a0_1) ∧ w'.cell? ⟨gb214, 2, none⟩ = some (.int .i64 a0_2) ∧ w'.cell? ⟨gb214, 3, none⟩ = some (.int .i64 a0_3) ∧ w'.cell? ⟨gb215, 0, none⟩ = some (.int .i64 a1_0) ∧ w'.cell? ⟨gb215, 1, none⟩ = some (.int .i64 a1_1) ∧ w'.cell? ⟨gb215, 2, none⟩ = some (.int .i64 a1_2) ∧ w'.cell? ⟨gb215, 3, none⟩ = some (.int .i64 a1_3)) (ds := []) (bt 6 0) (by kernel_rfl) rfl rfl ⟨bcl BK214 0, bcl BK214 1, bcl BK214 2, bcl BK214 3, bcl BK215 0, bcl BK215 1, bcl BK215 2, bcl BK215 3⟩ (fun hHeld => ?_)
 generalize w7.drew = w8 at BK214 BK215 HB hHeld ⊢
 refine take_ (i := 0) (N := some 5) (v := ?_) (a' := ?_) (bt 6 1) rfl rfl (by kernel_rfl) (fun _ _ _ h => h) (Or.inl ⟨by rfl, ?_⟩) hHeld ?_ ?_
 rotate_left
 ·rintro w' ⟨s0, s1, s2, s3, s4, s5, s6, s7⟩
  go_simp
  with_reducible rfl
 rotate_left
 ·simp only [Act.put, sA, sB, sC, i64_w, i32_w]
  rfl
 refine take_ (i := 2) (N := some 7) (v := ?_) (a' := ?_) #[true, false, true, false, false, false] rfl rfl (by kernel_rfl) (fun _ _ _ h => h) (Or.inl ⟨by rfl, ?_⟩) hHeld ?_ ?_
 rotate_left
 ·rintro w' ⟨s0, s1, s2, s3, s4, s5, s6, s7⟩
  go_simp
  with_reducible rfl
 rotate_left
 ·simp only [Act.put, sA, sB, sC, i64_w, i32_w]
  rfl
 refine one_ (i := 1) (N := some 6) (bt 6 3) rfl rfl (by kernel_rfl) (by decide) (fun K hK => ?_)
 refine goes_ Try.func134 (by kernel_rfl) rfl #[.agg #[.int .i64 a0_0, .int .i64 a0_1, .int .i64 a0_2, .int .i64 a0_3]] (by rfl) rfl rfl (by (try simp only [List.map_toArray, List.map_cons, List.map_nil]); first | done | rfl | (simp only [List.length_drop, List.length_take]; rfl)) ?_
 with_reducible refine (spec_l02Numbers.calls a0_0 a0_1 a0_2 a0_3 t216 _ A3.out).mono ?_
 rintro e w9 ⟨v217, rfl, ho0, hb⟩
 refine ⟨_, rfl, ?_⟩
 have HO218 := Aside0.mk (Kd.R_lower ho0 (bsz2 HB GE214 GE215))
 replace BK214 := Aside0.mk (bbl BK214 hb)
 replace BK215 := Aside0.mk (bbl BK215 hb)
 replace HB := Aside0.mk (bst2 HB GE214 GE215 hb)
 (try clear hb)
 (try clear hb2)
 (try clear hk)
 (try clear hi)
 (try clear ho0)
 refine hK.out _ _ ⟨bcl BK214 0, bcl BK214 1, bcl BK214 2, bcl BK214 3, bcl BK215 0, bcl BK215 1, bcl BK215 2, bcl BK215 3⟩ (fun hHeld => ?_)
 clear hK K
 refine norm_ (a' := ?_) ?_ ?_
 rotate_left
 ·show Act.put _ (some 6) _ = _
  simp only [Act.put, sA, sB, sC, i64_w, i32_w]
  rfl
 refine one_ (i := 3) (N := some 8) (bt 6 4) rfl rfl (by kernel_rfl) (by decide) (fun K hK => ?_)
 refine goes_ Try.func134 (by kernel_rfl) rfl #[.agg #[.int .i64 a1_0, .int .i64 a1_1, .int .i64 a1_2, .int .i64 a1_3]] (by rfl) rfl rfl (by (try simp only [List.map_toArray, List.map_cons, List.map_nil]); first | done | rfl | (simp only [List.length_drop, List.length_take]; rfl)) ?_
 with_reducible refine (spec_l02Numbers.calls a1_0 a1_1 a1_2 a1_3 t219 _ A4.out).mono ?_
 rintro e w10 ⟨v220, rfl, ho0, hb⟩
 refine ⟨_, rfl, ?_⟩
 have HO221 := Aside0.mk (Kd.R_lower (Kd.R_new' ho0 (Kd.R_lt (by (with_reducible repeat (first | apply Kd.R_alloc | apply Kd.R_drewN | apply Kd.R_drew)); exact HO218.out))) (bsz2 HB GE214 GE215))
 replace HO218 := Aside0.mk (Kd.R_elder' (by (with_reducible repeat (first | apply Kd.R_alloc | apply Kd.R_drewN | apply Kd.R_drew)); exact HO218.out) (Kd.R_base ho0) hb)
 replace BK214 := Aside0.mk (bbl BK214 hb)
 replace BK215 := Aside0.mk (bbl BK215 hb)
 replace HB := Aside0.mk (bst2 HB GE214 GE215 hb)
 (try clear hb)
 (try clear hb2)
 (try clear hk)
 (try clear hi)
 (try clear ho0)
 obtain ⟨Ao11, co11, eo11⟩ := Kd.R_slice HO218.out
 (first | subst eo11 | (injection eo11 with f1_ f2_ f3_; have f4_ := f1_.symm; have f5_ := f3_.symm; clear f1_ f2_ f3_; subst f4_; subst f5_))
 obtain ⟨Ao12, co12, eo12⟩ := Kd.R_slice HO221.out
 (first | subst eo12 | (injection eo12 with f1_ f2_ f3_; have f4_ := f1_.symm; have f5_ := f3_.symm; clear f1_ f2_ f3_; subst f4_; subst f5_))
 refine hK.out _ _ ⟨bcl BK214 0, bcl BK214 1, bcl BK214 2, bcl BK214 3, bcl BK215 0, bcl BK215 1, bcl BK215 2, bcl BK215 3⟩ (fun hHeld => ?_)
 clear hK K
 refine norm_ (a' := ?_) ?_ ?_
 rotate_left
 ·show Act.put _ (some 8) _ = _
  simp only [Act.put, sA, sB, sC, i64_w, i32_w]
  rfl
 refine one_ (i := 4) (N := some 9) (bt 6 5) rfl rfl (by kernel_rfl) (by decide) (fun K hK => ?_)
 refine goes_ Try.func133 (by kernel_rfl) rfl #[.slice Ao11 t216.length co11, .slice Ao12 t219.length co12] (by rfl) rfl rfl (by (try simp only [List.map_toArray, List.map_cons, List.map_nil]); first | done | rfl | (simp only [List.length_drop, List.length_take]; rfl)) ?_
 with_reducible refine (spec_l01LessList.calls k _ _ t216 _ _ t219 t222 _ ?side1 ?side2 ?side3 ?side4 A5.out).mono ?_
 (case side1 => repeat (first | exact (Kd.R_reads' HO218.out).2.2 | (with_reducible refine Kd.C_alloc ?_ _) | (with_reducible refine Kd.C_drewN ?_ _) | (with_reducible refine Kd.C_drew ?_)))
 (case side2 => exact (Kd.R_reads' HO218.out).2.1)
 (case side3 => repeat (first | exact (Kd.R_reads' HO221.out).2.2 | (with_reducible refine Kd.C_alloc ?_ _) | (with_reducible refine Kd.C_drewN ?_ _) | (with_reducible refine Kd.C_drew ?_)))
 (case side4 => exact (Kd.R_reads' HO221.out).2.1)
 rintro e w' ⟨rfl, ⟨nd, rfl⟩⟩
 refine ⟨_, rfl, ?_⟩
 refine hK.out _ _ ⟨bcl BK214 0, bcl BK214 1, bcl BK214 2, bcl BK214 3, bcl BK215 0, bcl BK215 1, bcl BK215 2, bcl BK215 3⟩ (fun hHeld => ?_)
 clear hK K
 refine norm_ (a' := ?_) ?_ ?_
 rotate_left
 ·show Act.put _ (some 9) _ = _
  simp only [Act.put, sA, sB, sC, i64_w, i32_w]
  rfl
 refine pure_ (i := 5) (N := some 4) (v := ?_) (a' := ?_) (bt 6 6) rfl rfl (by kernel_rfl) (fun _ _ _ h => h) (Or.inl ⟨by rfl, ?_⟩) ?_ ?_
 rotate_left
 ·intro w'
  go_simp
  with_reducible rfl
 rotate_left
 ·simp only [Act.put, sA, sB, sC, i64_w, i32_w]
  rfl
 refine done_ (by kernel_rfl) ?_
 try go_wp2
 go_ret
 exact ⟨by first | rfl | (simp [errW_none, errW_some] <;> rfl) | (simp [*, errW_none, errW_some] <;> rfl), bbw2 HB GE214 GE215⟩

/-! ### spec_l01Less: function 107 -/
def spec_l01Less.f (a0_0 : Int) (a0_1 : Int) (a1_0 : Int) (a1_1 : Int) : Option (Bool) := if a0_0 < a1_0 then (some true) else (if a0_0 = a1_0 then (some (decide (a0_1 < a1_1))) else (some false))
set_option maxHeartbeats 8000000 in
set_option maxRecDepth 100000 in
theorem spec_l01Less.calls (a0_0 : Int) (a0_1 : Int) (a1_0 : Int) (a1_1 : Int) (r : Bool) (w : World) (h : spec_l01Less.f a0_0 a0_1 a1_0 a1_1 = some r) :
  Calls Try.prog 107 #[.agg #[.int .i64 a0_0, .int .i64 a0_1], .agg #[.int .i64 a1_0, .int .i64 a1_1]] w fun e w' => e = .returned (.bool r) ∧ Below w.heap.size w w' := by
 have hu34 := Try.underlying34
 have HB := Aside0.mk (Below.refl w.heap.size w)
 have H : (if a0_0 < a1_0 then (some true) else (if a0_0 = a1_0 then (some (decide (a0_1 < a1_1))) else (some false))) = some r := h
 clear h
 by_cases c3 : a0_0 < a1_0
 ·rw [if_pos c3] at H
  have c3b0 : decide (a0_0 < a1_0) = true := decide_eq_true c3
  clear c3
  obtain rfl := Option.some.inj H
  go_enter Try.func107, Try.ntmps107
  go_wp2_with (first | ((with_reducible refine gate_dst (N := 2) rfl ?_); refine box_event ?hg (N := 2) ?hd (cs := #[.int .i64 a0_0, .int .i64 a0_1]) (t := 34) ?hr ?_; (case hd => rfl); (case hg => rfl); (case hr => first | (go_simp; done) | (go_simp; rfl)); intro gb223 hg w4 hbox hb; have BK223 := Aside0.mk (hbox); have GW223 := ngw0 hg HB; have GE223 := ngw0 hg HB; replace HB := Aside0.mk (bst0 HB hb); clear hb hbox hg) | ((with_reducible refine gate_dst (N := 3) rfl ?_); refine box_event ?hg (N := 3) ?hd (cs := #[.int .i64 a1_0, .int .i64 a1_1]) (t := 34) ?hr ?_; (case hd => rfl); (case hg => rfl); (case hr => first | (go_simp; done) | (go_simp; rfl)); intro gb224 hg w5 hbox hb; have BK224 := Aside0.mk (hbox); have GW224 := ngw1 hg HB GE223; have GE224 := ngw1 hg HB GE223; replace HB := Aside0.mk (bst1 HB GE223 hb); have NB223_224 := nlt hg BK223; have NB224_223 := nsy (nlt hg BK223); replace BK223 := Aside0.mk (bbl BK223 hb); clear hb hbox hg; have hnb6 := NB223_224.out; have hnc6 := NB224_223.out; obtain ⟨hcz7_0, hcz7_1, hfz7_0, hfz7_1⟩ := bz2 BK223; obtain ⟨hcz8_0, hcz8_1, hfz8_0, hfz8_1⟩ := bz2 BK224))
  go_ret
  exact ⟨by first | rfl | (simp [errW_none, errW_some] <;> rfl) | (simp [*, errW_none, errW_some] <;> rfl), bbw2 HB GE223 GE224⟩
 ·rw [if_neg c3] at H
  have c3b0 : decide (a0_0 < a1_0) = false := decide_eq_false c3
  clear c3
  by_cases c9 : a0_0 = a1_0
  ·rw [if_pos c9] at H
   have c9b0 : (a0_0 == a1_0) = true := beq_iff_eq.mpr c9
   have c9b1 : (a0_0 != a1_0) = false := bne_eq_false_iff_eq.mpr c9
   clear c9
   obtain rfl := Option.some.inj H
   go_enter Try.func107, Try.ntmps107
   go_wp2_with (first | ((with_reducible refine gate_dst (N := 2) rfl ?_); refine box_event ?hg (N := 2) ?hd (cs := #[.int .i64 a0_0, .int .i64 a0_1]) (t := 34) ?hr ?_; (case hd => rfl); (case hg => rfl); (case hr => first | (go_simp; done) | (go_simp; rfl)); intro gb223 hg w10 hbox hb; have BK223 := Aside0.mk (hbox); have GW223 := ngw0 hg HB; have GE223 := ngw0 hg HB; replace HB := Aside0.mk (bst0 HB hb); clear hb hbox hg) | ((with_reducible refine gate_dst (N := 3) rfl ?_); refine box_event ?hg (N := 3) ?hd (cs := #[.int .i64 a1_0, .int .i64 a1_1]) (t := 34) ?hr ?_; (case hd => rfl); (case hg => rfl); (case hr => first | (go_simp; done) | (go_simp; rfl)); intro gb224 hg w11 hbox hb; have BK224 := Aside0.mk (hbox); have GW224 := ngw1 hg HB GE223; have GE224 := ngw1 hg HB GE223; replace HB := Aside0.mk (bst1 HB GE223 hb); have NB223_224 := nlt hg BK223; have NB224_223 := nsy (nlt hg BK223); replace BK223 := Aside0.mk (bbl BK223 hb); clear hb hbox hg; have hnb12 := NB223_224.out; have hnc12 := NB224_223.out; obtain ⟨hcz13_0, hcz13_1, hfz13_0, hfz13_1⟩ := bz2 BK223; obtain ⟨hcz14_0, hcz14_1, hfz14_0, hfz14_1⟩ := bz2 BK224))
   go_ret
   exact ⟨by first | rfl | (simp [errW_none, errW_some] <;> rfl) | (simp [*, errW_none, errW_some] <;> rfl), bbw2 HB GE223 GE224⟩
  ·rw [if_neg c9] at H
   have c9b0 : (a0_0 == a1_0) = false := beq_eq_false_iff_ne.mpr c9
   have c9b1 : (a0_0 != a1_0) = true := bne_iff_ne.mpr c9
   obtain rfl := Option.some.inj H
   go_enter Try.func107, Try.ntmps107
   go_wp2_with (first | ((with_reducible refine gate_dst (N := 2) rfl ?_); refine box_event ?hg (N := 2) ?hd (cs := #[.int .i64 a0_0, .int .i64 a0_1]) (t := 34) ?hr ?_; (case hd => rfl); (case hg => rfl); (case hr => first | (go_simp; done) | (go_simp; rfl)); intro gb223 hg w15 hbox hb; have BK223 := Aside0.mk (hbox); have GW223 := ngw0 hg HB; have GE223 := ngw0 hg HB; replace HB := Aside0.mk (bst0 HB hb); clear hb hbox hg) | ((with_reducible refine gate_dst (N := 3) rfl ?_); refine box_event ?hg (N := 3) ?hd (cs := #[.int .i64 a1_0, .int .i64 a1_1]) (t := 34) ?hr ?_; (case hd => rfl); (case hg => rfl); (case hr => first | (go_simp; done) | (go_simp; rfl)); intro gb224 hg w16 hbox hb; have BK224 := Aside0.mk (hbox); have GW224 := ngw1 hg HB GE223; have GE224 := ngw1 hg HB GE223; replace HB := Aside0.mk (bst1 HB GE223 hb); have NB223_224 := nlt hg BK223; have NB224_223 := nsy (nlt hg BK223); replace BK223 := Aside0.mk (bbl BK223 hb); clear hb hbox hg; have hnb17 := NB223_224.out; have hnc17 := NB224_223.out; obtain ⟨hcz18_0, hcz18_1, hfz18_0, hfz18_1⟩ := bz2 BK223; obtain ⟨hcz19_0, hcz19_1, hfz19_0, hfz19_1⟩ := bz2 BK224))
   go_ret
   exact ⟨by first | rfl | (simp [errW_none, errW_some] <;> rfl) | (simp [*, errW_none, errW_some] <;> rfl), bbw2 HB GE223 GE224⟩
end Go.Proofs.Ytndfnaehpdkaiaa.PB
