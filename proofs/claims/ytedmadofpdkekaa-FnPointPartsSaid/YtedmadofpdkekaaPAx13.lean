import Derived.Test.YtedmadofpdkekaaPAx0
import Derived.Test.YtedmadofpdkekaaPAx2
import Derived.Test.YtedmadofpdkekaaPAx3
import Derived.Test.YtedmadofpdkekaaPAx12
namespace Go.Proofs.Ytedmadofpdkekaa.PA
open Go.RowKit Go.Proofs.YtedmadofpdkekaaW.PrintWords Go.Proofs.YtedmadofpdkekaaW.PrintLast Go.Proofs.YtedmadofpdkekaaW.PrintMore
attribute [local go_sem] max2_int min2_int max_two min_two max_three min_three max_four min_four   -- for this text's walks alone
set_option linter.unusedVariables false
set_option maxHeartbeats 8000000
set_option maxRecDepth 100000
set_option linter.unusedSimpArgs false
attribute [local go_sem high] eqA51 eqA53
def impl_Lattice_reduce.f (Ak : Int) (Al : Int) (Af : Int) (Am : Int) (Ai : Int) : Option (Int × Int) := (impl_mod.f Ai Af).bind fun An => (if Af = 0 then (none) else ((impl_mod.f (wrap64 (Am - (wrap64 ((wrap64 (Int.tdiv (wrap64 (Ai - An)) Af)) * Al)))) Ak).bind fun As => (some (As, An))))
def impl_Lattice_reduce.T2 : Bool × List (List Nat × List Nat) := (true, [([], []), ([0], [0]), ([], []), ([2], [2]), ([], []), ([3, 4], [3, 4]), ([], []), ([6], [6]), ([5, 7], [5, 7]), ([], []), ([9], [9]), ([8, 10], [8, 10]), ([1, 11], [1, 11]), ([], []), ([13], [13]), ([12, 14], [12, 14]), ([], []), ([15, 16], [15, 16]), ([17, 15, 0, 1, 2, 3, 4, 5, 6, 7, 8, 9, 10, 11, 12, 13, 14, 15, 16, 17], [17])])
def impl_Lattice_reduce.B2 : List Nat := [0, 1, 0, 4, 0, 28, 0, 64, 252, 0, 512, 2044, 4095, 0, 8192, 32767, 0, 131071, 262143]
theorem impl_Lattice_reduce.tab2 : rtab .any (opsOf Try.f57 2) = impl_Lattice_reduce.T2 := by kernel_rfl
theorem impl_Lattice_reduce.bits2 : waitsOk impl_Lattice_reduce.T2.2 impl_Lattice_reduce.B2 = true := by kernel_rfl
theorem impl_Lattice_reduce.calls (Ak : Int) (Al : Int) (Af : Int) (Am : Int) (Ai : Int) (r1 : Int) (r2 : Int) (w : World) (h : impl_Lattice_reduce.f Ak Al Af Am Ai = some (r1, r2)) :
  Calls Try.prog 57 #[.agg #[.int .i64 Ak, .int .i64 Al, .int .i64 Af], .agg #[.int .i64 Am, .int .i64 Ai]] w fun e w' => e = .returned (.agg #[.int .i64 r1, .int .i64 r2]) ∧ Below w.heap.size w w' := by
 have hu25 := Try.underlying25
 have hu53 := Try.underlying53
 have HB := asd (Below.refl w.heap.size w)
 have H : ((impl_mod.f Ai Af).bind fun An => (if Af = 0 then (none) else ((impl_mod.f (wrap64 (Am - (wrap64 ((wrap64 (Int.tdiv (wrap64 (Ai - An)) Af)) * Al)))) Ak).bind fun As => (some (As, An))))) = some (r1, r2) := h
 clear h
 obtain ⟨An, A3, H⟩ := ob H
 try dsimp only at H
 by_cases c4 : Af = 0
 ·rw [if_pos c4] at H;exact absurd H (by simp)
 ·rw [if_neg c4] at H;have AX : (Af == 0) = false := beq_eq_false_iff_ne.mpr c4;have AY : (Af != 0) = true := bne_iff_ne.mpr c4;obtain ⟨As, A5, H⟩ := ob H;try dsimp only at H
  simp only [Option.some.injEq, Prod.mk.injEq] at H;obtain ⟨rfl, rfl⟩ := H;go_enter Try.func57, Try.ntmps57
  try go_wp2_with (first | ((with_reducible refine gd 2 rfl ?_); refine bx #[.int .i64 Ak, .int .i64 Al, .int .i64 Af] 25 ?_; intro Au hg w6 Aa hb; have Aj := ngw0 hg HB; replace HB := bS0 HB hb; clear hb hg) | ((with_reducible refine gd 3 rfl ?_); refine bx #[.int .i64 Am, .int .i64 Ai] 53 ?_; intro Av hg w7 Ac hb; have Ao := ngw1 hg HB Aj; replace HB := bS1 HB Aj hb; have Aq := nlt hg Aa; have Ar := nsy (nlt hg Aa); replace Aa := bB Aa hb; clear hb hg) | ((with_reducible refine gd 4 rfl ?_); refine bx #[.int .i64 0, .int .i64 0] 53 ?_; intro Ap hg w8 Ae hb; have At := ngw2 hg HB Aj Ao; replace HB := bS2 HB Aj Ao hb; have Ab := nlt hg Aa; have Ag := nsy (nlt hg Aa); replace Aa := bB Aa hb; have Ad := nlt hg Ac; have Ah := nsy (nlt hg Ac); replace Ac := bB Ac hb; clear hb hg; have AZ := Ar.out; have A0 := Aq.out; have AO := Ad.out; have AP := Ah.out; obtain ⟨Aw, Ax, Ay, Az⟩ := bz2 Ac; have AQ := Ab.out; have AR := Ag.out; obtain ⟨AA, AB, AC, AD, AE, AF⟩ := bz3 Aa) | ((with_reducible refine gate_callee (f := 82) rfl ?_); refine gl 10 Try.func82 #[.int .i64 Ai, .int .i64 Af] ?_; (with_reducible refine (impl_mod.calls _ _ _ _ A3.out).mono ?_); rintro e w' ⟨rfl, ⟨nd, rfl⟩⟩; refine ⟨_, rfl, ?_⟩; (try (rw [drewN_self w8]; generalize hq_ : World.drewN w8 _ = w8; have AS : Aside0 (w8.heap[Au]? = some (.cells #[.int .i64 Ak, .int .i64 Al, .int .i64 Af] 25 (0, 0))) := ⟨by rw [← hq_]; exact (bkp Aa)⟩; have AT : Aside0 (w8.heap[Av]? = some (.cells #[.int .i64 Am, .int .i64 Ai] 53 (0, 0))) := ⟨by rw [← hq_]; exact (bkp Ac)⟩; have AU : Aside0 (w8.heap[Ap]? = some (.cells #[.int .i64 0, .int .i64 0] 53 (0, 0))) := ⟨by rw [← hq_]; exact (bkp Ae)⟩; have AV : Aside0 (Below w.heap.size w w8) := ⟨by rw [← hq_]; exact (bbw3 HB Aj Ao At)⟩; clear Aa Ac Ae HB hq_; have Aa := AS; have Ac := AT; have Ae := AU; have HB := AV; clear AS AT AU AV))))
  replace Aa := asd (blk_drew Aa.out);replace Ac := asd (blk_drew Ac.out);replace Ae := asd (blk_drew Ae.out);replace HB := asd (qm HB.out);refine sh 19 (cb2 Ac (eb3 Aa)) (fun hHeld => ?_); refine with_tabW impl_Lattice_reduce.tab2 impl_Lattice_reduce.bits2 (fun HT_ HW_ => ?_);generalize w8.drew = AW at Aa Ac Ae HB hHeld ⊢;refine pu 0 (some 11) (bT 19 1) HT_ ?_;refine pu 2 (some 13) (bs 19 5) HT_ ?_;refine pu 4 (some 15) (bs 19 21) HT_ ?_;refine pu 6 (some 17) (bs 19 85) HT_ ?_;refine pu 9 (some 20) (bs 19 597) HT_ ?_;refine pu 13 (some 24) (bs 19 8789) HT_ ?_;refine pu 16 (some 27) (bs 19 74325) HT_ ?_;refine ta 1 (some 12) (bs 19 74327) HT_ HW_ hHeld ?_;refine ta 3 (some 14) (bs 19 74335) HT_ HW_ hHeld ?_;refine pu 5 (some 16) (bs 19 74367) HT_ ?_;refine ta 7 (some 18) (bs 19 74495) HT_ HW_ hHeld ?_;refine pu 8 (some 19) (bs 19 74751) HT_ ?_;refine ta 10 (some 21) (bs 19 75775) HT_ HW_ hHeld ?_;refine pu 11 (some 22) (bs 19 77823) HT_ ?_;refine pu 12 (some 23) (bs 19 81919) HT_ ?_;refine ta 14 (some 25) (bs 19 98303) HT_ HW_ hHeld ?_;refine ro 15 (some 26) (bT 19 17) HT_ (fun K hK => ?_);refine gs Try.func82 #[.int .i64 (wrap64 (Am - (wrap64 ((wrap64 (Int.tdiv (wrap64 (Ai - An)) Af)) * Al)))), .int .i64 Ak] ?_;with_reducible refine (impl_mod.calls _ _ _ _ A5.out).mono ?_
  rintro e w' ⟨rfl, ⟨nd, rfl⟩⟩;refine ⟨_, rfl, ?_⟩;refine hK.out _ _ (cb2 Ac (eb3 Aa)).out (fun hHeld => ?_);clear hK K;refine norm_ (a' := ?_) ?_ ?_;rotate_left
  ·show Act.put _ (some 26) _ = _
   simp only [Act.put, sA, sB, sC, i64_w, i32_w];rfl
  refine pu 17 (some 28) (bT 19 18) HT_ ?_;refine ro 18 (none) (bT 19 19) HT_ (fun K hK => ?_);have hs15 : AW.cell? ⟨Ap, 0, none⟩ = some (.int .i64 0) := bcl Ae 0;have hfs15 := blk_frozen Ae.out 0;have AG := Ab.out;have AH := Ad.out;have AI := Ag.out;have AJ := Ah.out;have hs16 : AW.cell? ⟨Ap, 1, none⟩ = some (.int .i64 0) := bcl Ae 1;have hfs16 := blk_frozen Ae.out 1;have AK := Ab.out;have AL := Ad.out;have AM := Ag.out;have AN := Ah.out;refine skip_ (w1 := ?_) (by rfl) rfl ?_ ?_;rotate_left
  ·go_simp;rfl
  refine hK.out _ _ ⟨(cf2 Ad (hHeld.1)), (cf2 Ad (hHeld.2.1)), (cf2 Ab (hHeld.2.2.1)), (cf2 Ab (hHeld.2.2.2.1)), (cf2 Ab (hHeld.2.2.2.2))⟩ (fun hHeld => ?_);clear hK K;refine done_ (done_of HT_.out (by kernel_rfl)) ?_;try go_wp2
  refine bodyPost_ret (results_cell_row rfl _ _ Ap 53 #[.int .i64 As, .int .i64 An] (0, 0) _ rfl (bq0 Ae) Try.underlying53 rfl (by kernel_rfl)) rfl ?_;exact er (bbw3 HB Aj Ao At)
def impl_Lattice_has.f (Ac : Int) (Ad : Int) (Ae : Int) (Af : Int) (Ag : Int) : Option (Bool) := (impl_Lattice_reduce.f Ac Ad Ae Af Ag).bind fun Ab => (some (Ab.1 == 0 && (Ab.2 == 0)))
theorem impl_Lattice_has.calls (Ac : Int) (Ad : Int) (Ae : Int) (Af : Int) (Ag : Int) (r : Bool) (w : World) (h : impl_Lattice_has.f Ac Ad Ae Af Ag = some r) :
  Calls Try.prog 79 #[.agg #[.int .i64 Ac, .int .i64 Ad, .int .i64 Ae], .agg #[.int .i64 Af, .int .i64 Ag]] w fun e w' => e = .returned (.bool r) ∧ Below w.heap.size w w' := by
 have hu25 := Try.underlying25
 have hu53 := Try.underlying53
 have HB := asd (Below.refl w.heap.size w)
 have H : ((impl_Lattice_reduce.f Ac Ad Ae Af Ag).bind fun Ab => (some (Ab.1 == 0 && (Ab.2 == 0)))) = some r := h
 clear h
 obtain ⟨⟨Ay, Az⟩, A3, H⟩ := ob H
 try dsimp only at H
 obtain rfl := Option.some.inj H
 go_enter Try.func79, Try.ntmps79
 go_wp2_with (first | ((with_reducible refine gd 2 rfl ?_); refine bx #[.int .i64 Ac, .int .i64 Ad, .int .i64 Ae] 25 ?_; intro Aw hg w4 Aa hb; have Ah := ngw0 hg HB; replace HB := bS0 HB hb; clear hb hg) | ((with_reducible refine gd 3 rfl ?_); refine bx #[.int .i64 Af, .int .i64 Ag] 53 ?_; intro Ax hg w5 Ak hb; have Al := ngw1 hg HB Ah; replace HB := bS1 HB Ah hb; have Ai := nlt hg Aa; have Aj := nsy (nlt hg Aa); replace Aa := bB Aa hb; clear hb hg; have AA := Ai.out; have AB := Aj.out; obtain ⟨Am, An, Ao, Ap, Aq, Ar⟩ := bz3 Aa; obtain ⟨As, At, Au, Av⟩ := bz2 Ak) | ((with_reducible refine gate_callee (f := 57) rfl ?_); refine gl 7 Try.func57 #[.agg #[.int .i64 Ac, .int .i64 Ad, .int .i64 Ae], .agg #[.int .i64 Af, .int .i64 Ag]] ?_; (with_reducible refine (impl_Lattice_reduce.calls _ _ _ _ _ _ _ _ A3.out).mono ?_); rintro e w9 ⟨rfl, hb⟩; refine ⟨_, rfl, ?_⟩; replace Aa := bB Aa hb; replace Ak := bB Ak hb; replace HB := bS2 HB Ah Al hb; (try clear hb)))
 go_ret
 exact er (bbw2 HB Ah Al)
def impl_latticeMats.app (m : S51) (x y : Int) : Int × Int := (impl_Mat_apply.f m.f0 m.f1 m.f2 m.f3 x y).getD (0, 0)
def impl_latticeMats.hasB (a b c : Int) (t : Int × Int) : Bool := (impl_Lattice_has.f a b c t.1 t.2).getD false
def impl_latticeMats.keep (a b c : Int) (m : S51) : Bool := impl_latticeMats.hasB a b c (impl_latticeMats.app m a 0) && impl_latticeMats.hasB a b c (impl_latticeMats.app m b c)
theorem impl_latticeMats.app_eq (m : S51) (x y : Int) : impl_Mat_apply.f m.f0 m.f1 m.f2 m.f3 x y = some ((impl_latticeMats.app m x y).1, (impl_latticeMats.app m x y).2) := rfl
theorem impl_latticeMats.has_eq (a b c : Int) (ha : a ≠ 0) (hc : c ≠ 0) (t : Int × Int) : impl_Lattice_has.f a b c t.1 t.2 = some (impl_latticeMats.hasB a b c t) := by
 have : (impl_Lattice_has.f a b c t.1 t.2).isSome = true := by
  simp [impl_Lattice_has.f, impl_Lattice_reduce.f, impl_mod.f, ha, hc]
 obtain ⟨r, hr⟩ := Option.isSome_iff_exists.1 this
 unfold impl_latticeMats.hasB
 rw [hr]; rfl
def impl_latticeMats.f (k : Nat) (a0 : Int) (Aa : Int) (Ac : Int) (Ab : Int) : Option (List S51) := if Aa = 0 then none else (if Ab = 0 then none else ((impl_pointMats.f k a0).bind fun l => some (l.filter (impl_latticeMats.keep Aa Ac Ab))))
abbrev impl_latticeMats.Held (W : World) (a b c : Int) (L U V B : Nat) (x : S51) (w' : World) : Prop := Below W.heap.size W w' ∧ w'.cell? ⟨L, 0, none⟩ = some (.int .i64 a) ∧ w'.cell? ⟨L, 1, none⟩ = some (.int .i64 b) ∧ w'.cell? ⟨L, 2, none⟩ = some (.int .i64 c) ∧ w'.cell? ⟨U, 0, none⟩ = some (.int .i64 a) ∧ w'.cell? ⟨U, 1, none⟩ = some (.int .i64 0) ∧ w'.cell? ⟨V, 0, none⟩ = some (.int .i64 b) ∧ w'.cell? ⟨V, 1, none⟩ = some (.int .i64 c) ∧ w'.cell? ⟨B, 0, none⟩ = some (.int .i64 x.f0) ∧ w'.cell? ⟨B, 1, none⟩ = some (.int .i64 x.f1) ∧ w'.cell? ⟨B, 2, none⟩ = some (.int .i64 x.f2) ∧ w'.cell? ⟨B, 3, none⟩ = some (.int .i64 x.f3)
theorem impl_latticeMats.held_below {W : World} {a b c : Int} {L U V B : Nat} {x : S51} {w w' : World} (h : impl_latticeMats.Held W a b c L U V B x w) (hb : Below w.heap.size w w') : impl_latticeMats.Held W a b c L U V B x w' := by
 obtain ⟨h0, s0, s1, s2, s3, s4, s5, s6, s7, s8, s9, s10⟩ := h
 exact ⟨below_then h0 h0.size hb, (hb.cell (World.block_lt_of_cell? w _ s0)).trans s0, (hb.cell (World.block_lt_of_cell? w _ s1)).trans s1, (hb.cell (World.block_lt_of_cell? w _ s2)).trans s2, (hb.cell (World.block_lt_of_cell? w _ s3)).trans s3, (hb.cell (World.block_lt_of_cell? w _ s4)).trans s4, (hb.cell (World.block_lt_of_cell? w _ s5)).trans s5, (hb.cell (World.block_lt_of_cell? w _ s6)).trans s6, (hb.cell (World.block_lt_of_cell? w _ s7)).trans s7, (hb.cell (World.block_lt_of_cell? w _ s8)).trans s8, (hb.cell (World.block_lt_of_cell? w _ s9)).trans s9, (hb.cell (World.block_lt_of_cell? w _ s10)).trans s10⟩
theorem impl_latticeMats.held_drew {W : World} {a b c : Int} {L U V B : Nat} {x : S51} {w : World} (h : impl_latticeMats.Held W a b c L U V B x w) : impl_latticeMats.Held W a b c L U V B x w.drew := ⟨qm h.1, h.2⟩
set_option maxHeartbeats 40000000 in
theorem impl_latticeMats.pred (a b c : Int) (L U V : Nat) (W : World) (hl0 : W.cell? ⟨L, 0, none⟩ = some (.int .i64 a)) (hl1 : W.cell? ⟨L, 1, none⟩ = some (.int .i64 b)) (hl2 : W.cell? ⟨L, 2, none⟩ = some (.int .i64 c)) (hu0 : W.cell? ⟨U, 0, none⟩ = some (.int .i64 a)) (hu1 : W.cell? ⟨U, 1, none⟩ = some (.int .i64 0)) (hv0 : W.cell? ⟨V, 0, none⟩ = some (.int .i64 b)) (hv1 : W.cell? ⟨V, 1, none⟩ = some (.int .i64 c)) (ha : a ≠ 0) (hc : c ≠ 0) (x : S51) :
  Calls Try.prog 78 (#[.agg #[.int .i64 x.f0, .int .i64 x.f1, .int .i64 x.f2, .int .i64 x.f3]] ++ #[.pointer (some ⟨L, 0, none⟩), .pointer (some ⟨U, 0, none⟩), .pointer (some ⟨V, 0, none⟩)]) W fun e w' => e = .returned (.bool (!(impl_latticeMats.keep a b c x))) ∧ Below W.heap.size W w' := by
 show Calls Try.prog 78 #[.agg #[.int .i64 x.f0, .int .i64 x.f1, .int .i64 x.f2, .int .i64 x.f3], .pointer (some ⟨L, 0, none⟩), .pointer (some ⟨U, 0, none⟩), .pointer (some ⟨V, 0, none⟩)] W _
 have hu33 := Try.underlying51
 have hu34 := Try.underlying53
 have hu31 := Try.underlying25
 have A1 := asd (impl_latticeMats.app_eq x a 0)
 have A2 := asd (impl_latticeMats.has_eq a b c ha hc (impl_latticeMats.app x a 0))
 have A3 := asd (impl_latticeMats.app_eq x b c)
 have A4 := asd (impl_latticeMats.has_eq a b c ha hc (impl_latticeMats.app x b c))
 unfold impl_latticeMats.keep
 generalize impl_latticeMats.app x a 0 = p1 at A1 A2 ⊢
 generalize impl_latticeMats.app x b c = p2 at A3 A4 ⊢
 generalize impl_latticeMats.hasB a b c p1 = r1 at A2 ⊢
 generalize impl_latticeMats.hasB a b c p2 = r2 at A4 ⊢
 have hb0 := qo (Below.refl W.heap.size W) (.cells #[.int .i64 x.f0, .int .i64 x.f1, .int .i64 x.f2, .int .i64 x.f3] 51)
 have hS0 : impl_latticeMats.Held W a b c L U V W.heap.size x (W.alloc (.cells #[.int .i64 x.f0, .int .i64 x.f1, .int .i64 x.f2, .int .i64 x.f3] 51)) :=
  ⟨hb0, (hb0.cell (World.block_lt_of_cell? W _ hl0)).trans hl0, (hb0.cell (World.block_lt_of_cell? W _ hl1)).trans hl1, (hb0.cell (World.block_lt_of_cell? W _ hl2)).trans hl2, (hb0.cell (World.block_lt_of_cell? W _ hu0)).trans hu0, (hb0.cell (World.block_lt_of_cell? W _ hu1)).trans hu1, (hb0.cell (World.block_lt_of_cell? W _ hv0)).trans hv0, (hb0.cell (World.block_lt_of_cell? W _ hv1)).trans hv1, by simp, by simp, by simp, by simp⟩
 have C1 := asd (fun (w' : World) (h : impl_latticeMats.Held W a b c L U V W.heap.size x w') => (impl_Mat_apply.calls _ _ _ _ _ _ _ _ _ A1.out).mono (fun e w'' (he : _ ∧ _) => (⟨he.1, impl_latticeMats.held_below h he.2⟩ : _ ∧ impl_latticeMats.Held W a b c L U V W.heap.size x w'')))
 have C2 := asd (fun (w' : World) (h : impl_latticeMats.Held W a b c L U V W.heap.size x w') => (impl_Lattice_has.calls _ _ _ _ _ _ _ A2.out).mono (fun e w'' (he : _ ∧ _) => (⟨he.1, impl_latticeMats.held_below h he.2⟩ : _ ∧ impl_latticeMats.Held W a b c L U V W.heap.size x w'')))
 have C3 := asd (fun (w' : World) (h : impl_latticeMats.Held W a b c L U V W.heap.size x w') => (impl_Mat_apply.calls _ _ _ _ _ _ _ _ _ A3.out).mono (fun e w'' (he : _ ∧ _) => (⟨he.1, impl_latticeMats.held_below h he.2⟩ : _ ∧ impl_latticeMats.Held W a b c L U V W.heap.size x w'')))
 have C4 := asd (fun (w' : World) (h : impl_latticeMats.Held W a b c L U V W.heap.size x w') => (impl_Lattice_has.calls _ _ _ _ _ _ _ A4.out).mono (fun e w'' (he : _ ∧ _) => (⟨he.1, impl_latticeMats.held_below h he.2⟩ : _ ∧ impl_latticeMats.Held W a b c L U V W.heap.size x w'')))
 clear hl0 hl1 hl2 hu0 hu1 hv0 hv1 ha hc hb0
 have hS1 := hS0
 obtain ⟨sb, s0, s1, s2, s3, s4, s5, s6, s7, s8, s9, s10⟩ := hS0
 cases r1 with
 | false =>
  go_enter Try.func78, Try.ntmps78
  go_wp2
  refine wp_region_held_drew (S := (fun w' => Below W.heap.size W w' ∧ w'.cell? ⟨L, 0, none⟩ = some (.int .i64 a) ∧ w'.cell? ⟨L, 1, none⟩ = some (.int .i64 b) ∧ w'.cell? ⟨L, 2, none⟩ = some (.int .i64 c) ∧ w'.cell? ⟨U, 0, none⟩ = some (.int .i64 a) ∧ w'.cell? ⟨U, 1, none⟩ = some (.int .i64 0) ∧ w'.cell? ⟨V, 0, none⟩ = some (.int .i64 b) ∧ w'.cell? ⟨V, 1, none⟩ = some (.int .i64 c) ∧ w'.cell? ⟨W.heap.size, 0, none⟩ = some (.int .i64 x.f0) ∧ w'.cell? ⟨W.heap.size, 1, none⟩ = some (.int .i64 x.f1) ∧ w'.cell? ⟨W.heap.size, 2, none⟩ = some (.int .i64 x.f2) ∧ w'.cell? ⟨W.heap.size, 3, none⟩ = some (.int .i64 x.f3))) (by kernel_rfl) (impl_latticeMats.held_drew hS1) (fun hHeld => ?_);refine wpAnyH_take (i := 0) (v := ?_) rfl (by kernel_rfl) (by kernel_rfl) (by kernel_rfl) (fun _ _ _ h => h) (Or.inl ⟨by rfl, ?_⟩) (by assumption) ?_;rotate_left
  ·intro w' hSw; (try dsimp only at hSw); go_simp; first | done | with_reducible rfl
  rotate_left;try simp only [Act.put, sA, sB, sC]
  refine wpAnyH_take (i := 1) (v := ?_) rfl (by kernel_rfl) (by kernel_rfl) (by kernel_rfl) (fun _ _ _ h => h) (Or.inl ⟨by rfl, ?_⟩) (by assumption) ?_;rotate_left
  ·intro w' hSw; (try dsimp only at hSw); go_simp; first | done | with_reducible rfl
  rotate_left;try simp only [Act.put, sA, sB, sC]
  refine wpAnyH_take (i := 2) (v := ?_) rfl (by kernel_rfl) (by kernel_rfl) (by kernel_rfl) (fun _ _ _ h => h) (Or.inl ⟨by rfl, ?_⟩) (by assumption) ?_;rotate_left
  ·intro w' hSw; (try dsimp only at hSw); go_simp; first | done | with_reducible rfl
  rotate_left;try simp only [Act.put, sA, sB, sC]
  refine wpAnyH_ready (rs := [3]) (by kernel_rfl) (by simp) ?_;refine AllReadyH.cons rfl (fun K hK => ?_) AllReadyH.nil;go_simp;go_at_call 80
  (with_reducible refine (C1.out _ ?_).mono ?_);(assumption)
  rintro e w' ⟨rfl, hS'⟩;refine hK.out _ _ (hS') (fun hHeld => ?_);clear hK K;try simp only [Act.put, sA, sB, sC]
  refine wpAnyH_ready (rs := [4]) (by kernel_rfl) (by simp) ?_;refine AllReadyH.cons rfl (fun K hK => ?_) AllReadyH.nil;go_simp;go_at_call 79
  (with_reducible refine (C2.out _ ?_).mono ?_);(assumption)
  rintro e w' ⟨rfl, hS'⟩;refine hK.out _ _ (hS') (fun hHeld => ?_);clear hK K;try simp only [Act.put, sA, sB, sC]
  refine wpAnyH_take (i := 5) (oi := { dst := some 11, op := _, type := _, pos := _, after := _, guard := _ }) (v := ?_) rfl (by kernel_rfl) (by kernel_rfl) (by kernel_rfl) (fun _ _ _ h => h) (Or.inl ⟨by rfl, ?_⟩) (by assumption) ?_;rotate_left
  ·intro w' hSw; (try dsimp only at hSw); go_simp; first | done | with_reducible rfl
  rotate_left;try simp only [Act.put, sA, sB, sC]
  refine wpAnyH_take (i := 6) (oi := { dst := some 12, op := _, type := _, pos := _, after := _, guard := _ }) (v := ?_) rfl (by kernel_rfl) (by kernel_rfl) (by kernel_rfl) (fun _ _ _ h => h) (Or.inl ⟨by rfl, ?_⟩) (by assumption) ?_;rotate_left
  ·intro w' hSw; (try dsimp only at hSw); go_simp; first | done | with_reducible rfl
  rotate_left;try simp only [Act.put, sA, sB, sC]
  refine wpAnyH_take (i := 7) (oi := { dst := some 13, op := _, type := _, pos := _, after := _, guard := _ }) (v := _) rfl (by kernel_rfl) (by kernel_rfl) (by kernel_rfl) (fun _ _ _ h => h) (Or.inr ⟨by rfl, rfl⟩) (by assumption) ?_;try simp only [Act.put, sA, sB, sC]
  refine wpAnyH_take (i := 8) (oi := { dst := some 14, op := _, type := _, pos := _, after := _, guard := _ }) (v := _) rfl (by kernel_rfl) (by kernel_rfl) (by kernel_rfl) (fun _ _ _ h => h) (Or.inr ⟨by rfl, rfl⟩) (by assumption) ?_;try simp only [Act.put, sA, sB, sC]
  refine wpAnyH_take (i := 9) (oi := { dst := some 15, op := _, type := _, pos := _, after := _, guard := _ }) (v := _) rfl (by kernel_rfl) (by kernel_rfl) (by kernel_rfl) (fun _ _ _ h => h) (Or.inr ⟨by rfl, rfl⟩) (by assumption) ?_;try simp only [Act.put, sA, sB, sC]
  refine wpAnyH_take (i := 10) (oi := { dst := some 16, op := _, type := _, pos := _, after := _, guard := _ }) (v := _) rfl (by kernel_rfl) (by kernel_rfl) (by kernel_rfl) (fun _ _ _ h => h) (Or.inr ⟨by rfl, rfl⟩) (by assumption) ?_;try simp only [Act.put, sA, sB, sC]
  refine wpAnyH_take (i := 11) (oi := { dst := some 17, op := _, type := _, pos := _, after := _, guard := _ }) (v := _) rfl (by kernel_rfl) (by kernel_rfl) (by kernel_rfl) (fun _ _ _ h => h) (Or.inr ⟨by rfl, rfl⟩) (by assumption) ?_;try simp only [Act.put, sA, sB, sC]
  refine wpAnyH_take (i := 12) (oi := { dst := some 18, op := Op.unOp UnOp.not _ (Operand.tmp 17), type := _, pos := _, after := _, guard := _ }) (v := _) rfl (by kernel_rfl) (by kernel_rfl) (by kernel_rfl) (fun _ _ _ h => h) (Or.inr ⟨by rfl, rfl⟩) (by assumption) ?_;try simp only [Act.put, sA, sB, sC]
  refine wpAnyH_take (i := 13) (oi := { dst := some 19, op := Op.pick (Operand.tmp 12) (Operand.const (Value.bool true)) (Operand.tmp 18), type := _, pos := _, after := _, guard := _ }) (v := ?_) rfl (by kernel_rfl) (by kernel_rfl) (by kernel_rfl) (fun _ _ _ h => h) (Or.inl ⟨by rfl, ?_⟩) (by assumption) ?_;rotate_left
  ·intro w' hSw; (try dsimp only at hSw); go_simp; first | done | with_reducible rfl
  rotate_left;try simp only [Act.put, sA, sB, sC]
  refine wpAnyH_take (i := 14) (oi := { dst := some 5, op := Op.assign (Operand.tmp 19), type := _, pos := _, after := _, guard := _ }) (v := ?_) rfl (by kernel_rfl) (by kernel_rfl) (by kernel_rfl) (fun _ _ _ h => h) (Or.inl ⟨by rfl, ?_⟩) (by assumption) ?_;rotate_left
  ·intro w' hSw; (try dsimp only at hSw); go_simp; first | done | with_reducible rfl
  rotate_left;try simp only [Act.put, sA, sB, sC]
  refine wpAnyH_done (by kernel_rfl) ?_ _;all_goals go_wp2
  all_goals go_ret
  all_goals exact ⟨by first | rfl | (cases r2 <;> rfl), (show impl_latticeMats.Held W a b c L U V W.heap.size x _ by assumption).1⟩
 | true =>
  go_enter Try.func78, Try.ntmps78
  go_wp2
  first | (go_region_held3 (fun w' => Below W.heap.size W w' ∧ w'.cell? ⟨L, 0, none⟩ = some (.int .i64 a) ∧ w'.cell? ⟨L, 1, none⟩ = some (.int .i64 b) ∧ w'.cell? ⟨L, 2, none⟩ = some (.int .i64 c) ∧ w'.cell? ⟨U, 0, none⟩ = some (.int .i64 a) ∧ w'.cell? ⟨U, 1, none⟩ = some (.int .i64 0) ∧ w'.cell? ⟨V, 0, none⟩ = some (.int .i64 b) ∧ w'.cell? ⟨V, 1, none⟩ = some (.int .i64 c) ∧ w'.cell? ⟨W.heap.size, 0, none⟩ = some (.int .i64 x.f0) ∧ w'.cell? ⟨W.heap.size, 1, none⟩ = some (.int .i64 x.f1) ∧ w'.cell? ⟨W.heap.size, 2, none⟩ = some (.int .i64 x.f2) ∧ w'.cell? ⟨W.heap.size, 3, none⟩ = some (.int .i64 x.f3)) (first | assumption | exact impl_latticeMats.held_drew hS1 | go_keep)
   (first | (go_at_call 80; (with_reducible refine (C1.out _ ?_).mono ?_); (assumption); rintro e w' ⟨rfl, hS'⟩) | (go_at_call 79; (with_reducible refine (C2.out _ ?_).mono ?_); (assumption); rintro e w' ⟨rfl, hS'⟩) | (go_at_call 80; (with_reducible refine (C3.out _ ?_).mono ?_); (assumption); rintro e w' ⟨rfl, hS'⟩) | (go_at_call 79; (with_reducible refine (C4.out _ ?_).mono ?_); (assumption); rintro e w' ⟨rfl, hS'⟩))) | (fail "held3")
  all_goals go_wp2
  all_goals go_ret
  all_goals exact ⟨by first | rfl | (cases r2 <;> rfl), (show impl_latticeMats.Held W a b c L U V W.heap.size x _ by assumption).1⟩
set_option maxHeartbeats 4000000 in
theorem impl_latticeMats.calls (k : Nat) (a0 : Int) (Aa : Int) (Ac : Int) (Ab : Int) (r : List S51) (w : World) (h : impl_latticeMats.f k a0 Aa Ac Ab = some r) :
  Calls Try.prog 55 #[.int .i64 a0, .agg #[.int .i64 Aa, .int .i64 Ac, .int .i64 Ab]] w fun e w' => ∃ v0_ : Value, e = .returned (v0_) ∧ Kd.R k51 51 w' w.heap.size (fun _ => True) v0_ r ∧ Below w.heap.size w w' := by
 have hu34 := Try.underlying53
 have hu31 := Try.underlying25
 unfold impl_latticeMats.f at h
 by_cases ha : Aa = 0
 ·rw [if_pos ha] at h; cases h
 rw [if_neg ha] at h
 by_cases hc : Ab = 0
 ·rw [if_pos hc] at h; cases h
 rw [if_neg hc] at h
 obtain ⟨l, h1, h2⟩ := Option.bind_eq_some_iff.1 h
 have hr := Option.some.inj h2
 subst hr
 have A1 := Aside0.mk h1
 have HA := Aside0.mk ha
 have HC := Aside0.mk hc
 have ABS := asd (show impl_Lattice_basis.f Aa Ac Ab = some (Aa, 0, Ac, Ab) from rfl)
 clear h h1 h2 ha hc
 have eg : ∀ args w, (callFunc 78 args).run Try.prog w = .ok (.enter 78 args) w := enters_of Try.func78 (by kernel_rfl) rfl
 have EG := Aside0.mk eg
 clear eg
 go_enter Try.func55, Try.ntmps55
 go_wp2_with (first | (go_at_call 75; (with_reducible refine (impl_Lattice_basis.calls _ _ _ _ _ _ _ _ ABS.out).mono ?_); rintro e w2 ⟨rfl, hb2⟩; have HB2 := asd (below_then (qo (Below.refl w.heap.size w) _) (qo (Below.refl w.heap.size w) _).size hb2); have HL := Aside0.mk hb2; clear hb2) | (go_at_call 77; (with_reducible refine (impl_pointMats.calls _ _ _ _ A1.out).mono ?_); rintro e w3 ⟨v0, rfl, hR, hb3⟩; have HR3 := Aside0.mk hR; have HB3 := Aside0.mk hb3; clear hR hb3))
 obtain ⟨wA, hwA⟩ : ∃ wA, wA = (w2.alloc (.cells #[.int .i64 Aa, .int .i64 0] 53)).alloc (.cells #[.int .i64 Ac, .int .i64 Ab] 53) := ⟨_, rfl⟩
 have hAB : Below w2.heap.size w2 wA := by rw [hwA]; exact qo (qo (Below.refl _ _) _) _
 have hl : ∀ o v, (w.alloc (.cells #[.int .i64 Aa, .int .i64 Ac, .int .i64 Ab] 25)).cell? ⟨w.heap.size, o, none⟩ = some v → wA.cell? ⟨w.heap.size, o, none⟩ = some v := fun o v hv => by
  have h1 : w2.cell? ⟨w.heap.size, o, none⟩ = some v := (HL.out.cell (p := ⟨w.heap.size, o, none⟩) (by simp)).trans hv;exact (hAB.cell (World.block_lt_of_cell? w2 _ h1)).trans h1
 have hl0 := hl 0 (.int .i64 Aa) (by simp)
 have hl1 := hl 1 (.int .i64 Ac) (by simp)
 have hl2 := hl 2 (.int .i64 Ab) (by simp)
 have hu0 : wA.cell? ⟨w2.heap.size, 0, none⟩ = some (.int .i64 Aa) := by rw [hwA]; simp
 have hu1 : wA.cell? ⟨w2.heap.size, 1, none⟩ = some (.int .i64 0) := by rw [hwA]; simp
 have hv0 : wA.cell? ⟨w2.heap.size + 1, 0, none⟩ = some (.int .i64 Ac) := by rw [hwA]; simp
 have hv1 : wA.cell? ⟨w2.heap.size + 1, 1, none⟩ = some (.int .i64 Ab) := by rw [hwA]; simp
 have hBA : Below w.heap.size w wA := below_then HB2.out HB2.out.size hAB
 have HR4 := HR3.out
 have HB4 := HB3.out
 rw [← hwA] at HR4 HB4
 have up : ∀ (W : World) (p : Addr) (v : Value), Below wA.heap.size wA W → wA.cell? p = some v → W.cell? p = some v := fun W p v hb h => (hb.cell (World.block_lt_of_cell? wA _ h)).trans h
 refine (impl_Mat_76.calls (fun x => !(impl_latticeMats.keep Aa Ac Ab x)) 78 #[.pointer (some ⟨w.heap.size, 0, none⟩), .pointer (some ⟨w2.heap.size, 0, none⟩), .pointer (some ⟨w2.heap.size + 1, 0, none⟩)] EG.out (fun k_ => wA.heap.size ≤ k_) v0 l wA w3 HB4 (Kd.R_mono (Kd.R_bound HR4) (fun k_ hk => hk.2.1)) (fun x W hb _ => impl_latticeMats.pred Aa Ac Ab w.heap.size w2.heap.size (w2.heap.size + 1) W (up W _ _ hb hl0) (up W _ _ hb hl1) (up W _ _ hb hl2) (up W _ _ hb hu0) (up W _ _ hb hu1) (up W _ _ hb hv0) (up W _ _ hb hv1) HA.out HC.out x)).mono ?_
 rintro e w4 ⟨v', rfl, hR4, hb4, _⟩
 have HR5 := Aside0.mk hR4
 have HB5 := Aside0.mk hb4
 have HBA := Aside0.mk hBA
 clear hl hl0 hl1 hl2 hu0 hu1 hv0 hv1 hAB hBA HR4 HB4 up hR4 hb4 hwA
 go_wp2
 go_ret
 refine ⟨_, rfl, ?_, below_then HBA.out HBA.out.size HB5.out⟩
 have hf : (l.filter fun x => !(!(impl_latticeMats.keep Aa Ac Ab x))) = l.filter (impl_latticeMats.keep Aa Ac Ab) := by congr 1; funext x; simp
 have := HR5.out
 rw [hf] at this
 exact Kd.R_mono (Kd.R_lower this HBA.out.size) (fun _ _ => trivial)
def impl_Mat_81.l0 : Nat → List (S51) → Int → Int → Int → Int → Int → Int → Option (Int)
 | 0, _, _, _, _, _, _, _ => none
 | k + 1, x0, x7, x8, Ah, Ai, Aj, Ak => if x8 < x7 then (if 0 ≤ x8 then (if x8 < (x0.length : Int) then (if (Ah == ((rd_T51 x0 x8).f0) && (Ai == ((rd_T51 x0 x8).f1) && (Aj == ((rd_T51 x0 x8).f2) && (Ak == ((rd_T51 x0 x8).f3))))) = true then (some x8) else (impl_Mat_81.l0 k x0 x7 (wrap64 (x8 + 1)) Ah Ai Aj Ak)) else (none)) else (none)) else (some (-1))
def impl_Mat_81.f (k : Nat) (l0 : List (S51)) (Ab : Int) (Ac : Int) (Ad : Int) (Ae : Int) : Option (Int) := impl_Mat_81.l0 k l0 (l0.length : Int) 0 Ab Ac Ad Ae
theorem impl_Mat_81.calls (k : Nat) (A0 : Option Addr) (c0 : Nat) (l0 : List (S51)) (Ab : Int) (Ac : Int) (Ad : Int) (Ae : Int) (r : Int) (w : World) (hr0 : Kd.C k51 w A0 l0.length l0) (hc0 : l0.length ≤ c0) (h : impl_Mat_81.f k l0 Ab Ac Ad Ae = some r) :
  Calls Try.prog 81 #[.slice A0 l0.length c0, .agg #[.int .i64 Ab, .int .i64 Ac, .int .i64 Ad, .int .i64 Ae]] w fun e w' => e = .returned (.int .i64 r) ∧ Below w.heap.size w w' := by
 have hu51 := Try.underlying51
 have HR0 := Aside0.mk hr0
 have AG := Aside0.mk hc0
 clear hr0 hc0
 have HB := asd (Below.refl w.heap.size w)
 have H : (impl_Mat_81.l0 k l0 (l0.length : Int) 0 Ab Ac Ad Ae) = some r := h
 clear h
 have H' := Aside0.mk H
 clear H
 go_enter Try.func81, Try.ntmps81
 go_wp2_with (first | ((with_reducible refine gd 3 rfl ?_); refine bx #[.int .i64 Ab, .int .i64 Ac, .int .i64 Ad, .int .i64 Ae] 51 ?_; intro Al hg w3 Af hb; have Ag := ngw0 hg HB; replace HB := bS0 HB hb; clear hb hg))
 repeat (go_quiet (first | ((with_reducible refine gd 3 rfl ?_); refine bx #[.int .i64 Ab, .int .i64 Ac, .int .i64 Ad, .int .i64 Ae] 51 ?_; intro Al hg w3 Af hb; have Ag := ngw0 hg HB; replace HB := bS0 HB hb; clear hb hg)); try go_wp2_with (first | ((with_reducible refine gd 3 rfl ?_); refine bx #[.int .i64 Ab, .int .i64 Ac, .int .i64 Ad, .int .i64 Ae] 51 ?_; intro Al hg w3 Af hb; have Ag := ngw0 hg HB; replace HB := bS0 HB hb; clear hb hg)))
 go_loopg [8] k (fun kq v8 w' => ∃ (Aa : Int), v8 = .int .i64 Aa ∧ Aside0 (impl_Mat_81.l0 kq l0 (l0.length : Int) Aa Ab Ac Ad Ae = some r) ∧ Aside0 (kq ≤ k) ∧ Aside0 (w'.heap[Al]? = some (.cells #[.int .i64 Ab, .int .i64 Ac, .int .i64 Ad, .int .i64 Ae] 51 (0, 0))) ∧ Aside0 (Below w.heap.size w w'))
 case atStart => exact ⟨(0), (by first | rfl | (simp; done) | (simp [*]; done)), H', ⟨Nat.le_refl _⟩, ⟨bkp Af⟩, ⟨bbw1 HB Ag⟩⟩
 case round =>
  clear H';obtain ⟨Aa, rfl, HA, AC, Af, HB⟩ := hrel;cases gk with
  | zero => exact absurd HA.out (by simp [impl_Mat_81.l0])
  | succ k1 =>
   have H := HA.out;clear HA;simp only [impl_Mat_81.l0] at H;by_cases c4 : Aa < (l0.length : Int)
   rw [if_pos c4] at H;have Aq := qp c4;clear c4;by_cases c5 : 0 ≤ Aa
   rw [if_pos c5] at H;have AD := qp c5;clear c5;by_cases c6 : Aa < (l0.length : Int)
   rw [if_pos c6] at H;have AE := qp c6;clear c6;by_cases c7 : (Ab == ((rd_T51 l0 Aa).f0) && (Ac == ((rd_T51 l0 Aa).f1) && (Ad == ((rd_T51 l0 Aa).f2) && (Ae == ((rd_T51 l0 Aa).f3))))) = true
   rw [if_pos c7] at H;have Ar := c7;(try (have As : decide (Ab = ((rd_T51 l0 Aa).f0) && (Ac == ((rd_T51 l0 Aa).f1) && (Ad == ((rd_T51 l0 Aa).f2) && (Ae == ((rd_T51 l0 Aa).f3))))) = true := by simpa using c7));(try (have At : (Ab == ((rd_T51 l0 Aa).f0) && (Ac == ((rd_T51 l0 Aa).f1) && (Ad == ((rd_T51 l0 Aa).f2) && (Ae == ((rd_T51 l0 Aa).f3))))) = true := by simpa using c7));clear c7;obtain rfl := Option.some.inj H;rotate_left;rw [if_neg c7] at H;have Ar : (Ab == ((rd_T51 l0 Aa).f0) && (Ac == ((rd_T51 l0 Aa).f1) && (Ad == ((rd_T51 l0 Aa).f2) && (Ae == ((rd_T51 l0 Aa).f3))))) = false := by simpa using c7
   (try (have As : decide (Ab = ((rd_T51 l0 Aa).f0) && (Ac == ((rd_T51 l0 Aa).f1) && (Ad == ((rd_T51 l0 Aa).f2) && (Ae == ((rd_T51 l0 Aa).f3))))) = false := by simpa using c7));(try (have At : (Ab == ((rd_T51 l0 Aa).f0) && (Ac == ((rd_T51 l0 Aa).f1) && (Ad == ((rd_T51 l0 Aa).f2) && (Ae == ((rd_T51 l0 Aa).f3))))) = false := by simpa using c7));(try (have AF : ¬ (Ab = ((rd_T51 l0 Aa).f0) && (Ac == ((rd_T51 l0 Aa).f1) && (Ad == ((rd_T51 l0 Aa).f2) && (Ae == ((rd_T51 l0 Aa).f3))))) := by simpa using c7));clear c7;have H' := Aside0.mk H;clear H;rotate_left
   ·rw [if_neg c6] at H;exact absurd H (by simp)
   ·rw [if_neg c5] at H;exact absurd H (by simp)
   rw [if_neg c4] at H;have Aq := qq c4;clear c4;obtain rfl := Option.some.inj H;rotate_left;rotate_left 2
   ·go_wp2
    repeat (go_quiet (fail); try go_wp2)
    go_ret
    exact er (bbw1 HB Ag)
   all_goals
    obtain ⟨Au, Av, Aw, Ax, Ay, Az, AA, AB⟩ := bz4 Af;obtain ⟨p517, q517, ad517, e517, Am, An, Ao, Ap⟩ := at_T51x HR0.out HB Aa;cases e517
    go_wp2
    repeat (go_quiet (fail); try go_wp2)
   ·go_ret
    exact er (bbw1 HB Ag)
   ·go_roundg k1
    case measure => have := AC.out; omega
    case rel => exact ⟨(wrap64 (Aa + 1)), (by first | rfl | (simp; done) | (simp [*]; done)), H', ⟨by have := AC.out; omega⟩, ⟨bkp Af⟩, ⟨bbw1 HB Ag⟩⟩
def impl_Mat_56.f (k : Nat) (l0 : List (S51)) (Aa : Int) (Ab : Int) (Ac : Int) (Ad : Int) : Option (Bool) := (impl_Mat_81.f k l0 Aa Ab Ac Ad).bind fun Af => (some (decide (Af ≥ 0)))
theorem impl_Mat_56.calls (k : Nat) (A0 : Option Addr) (c0 : Nat) (l0 : List (S51)) (Aa : Int) (Ab : Int) (Ac : Int) (Ad : Int) (r : Bool) (w : World) (hr0 : Kd.C k51 w A0 l0.length l0) (hc0 : l0.length ≤ c0) (h : impl_Mat_56.f k l0 Aa Ab Ac Ad = some r) :
  Calls Try.prog 56 #[.slice A0 l0.length c0, .agg #[.int .i64 Aa, .int .i64 Ab, .int .i64 Ac, .int .i64 Ad]] w fun e w' => e = .returned (.bool r) ∧ Below w.heap.size w w' := by
 have hu51 := Try.underlying51
 have HR0 := Aside0.mk hr0
 have Aq := Aside0.mk hc0
 clear hr0 hc0
 have HB := asd (Below.refl w.heap.size w)
 have H : ((impl_Mat_81.f k l0 Aa Ab Ac Ad).bind fun Af => (some (decide (Af ≥ 0)))) = some r := h
 clear h
 obtain ⟨Af, A3, H⟩ := ob H
 try dsimp only at H
 obtain rfl := Option.some.inj H
 go_enter Try.func56, Try.ntmps56
 go_wp2_with (first | ((with_reducible refine gd 3 rfl ?_); refine bx #[.int .i64 Aa, .int .i64 Ab, .int .i64 Ac, .int .i64 Ad] 51 ?_; intro Ap hg w4 Ae hb; have Ag := ngw0 hg HB; replace HB := bS0 HB hb; clear hb hg; obtain ⟨Ah, Ai, Aj, Ak, Al, Am, An, Ao⟩ := bz4 Ae) | ((with_reducible refine gate_callee (f := 81) rfl ?_); refine gl 7 Try.func81 #[.slice A0 l0.length c0, .agg #[.int .i64 Aa, .int .i64 Ab, .int .i64 Ac, .int .i64 Ad]] ?_; (with_reducible refine (impl_Mat_81.calls _ _ _ _ _ _ _ _ _ _ ?side1 ?side2 A3.out).mono ?_); (case side1 => exact ks (Kd.C_below HR0.out HB.out)); (case side2 => exact Aq.out); rintro e w6 ⟨rfl, hb⟩; refine ⟨_, rfl, ?_⟩; replace Ae := bB Ae hb; replace HB := bS1 HB Ag hb; (try clear hb)))
 go_ret
 exact er (bbw1 HB Ag)
def impl_compareNumbers.l0 : Nat → List Int → List Int → Int → Int → Option (Int)
 | 0, _, _, _, _ => none
 | k + 1, x0, x1, x7, x8 => if x8 < x7 then (if 0 ≤ x8 then (if x8 < (x0.length : Int) then (if x8 < (x1.length : Int) then (if (rd x0 x8) = (rd x1 x8) then (impl_compareNumbers.l0 k x0 x1 x7 (wrap64 (x8 + 1))) else (if (rd x0 x8) < (rd x1 x8) then (some (-1)) else (some 1))) else (none)) else (none)) else (none)) else (some 0)
def impl_compareNumbers.f (k : Nat) (l0 : List Int) (l1 : List Int) : Option (Int) := impl_compareNumbers.l0 k l0 l1 (l0.length : Int) 0
theorem impl_compareNumbers.calls (k : Nat) (A0 : Option Addr) (c0 : Nat) (l0 : List Int) (A1 : Option Addr) (c1 : Nat) (l1 : List Int) (r : Int) (w : World) (hr0 : Kd.C (Kd.int .i64) w A0 l0.length l0) (hc0 : l0.length ≤ c0) (hr1 : Kd.C (Kd.int .i64) w A1 l1.length l1) (hc1 : l1.length ≤ c1) (h : impl_compareNumbers.f k l0 l1 = some r) :
  Calls Try.prog 95 #[.slice A0 l0.length c0, .slice A1 l1.length c1] w fun e w' => e = .returned (.int .i64 r) ∧ Drawn0 w w' := by
 have HR0 := Aside0.mk hr0
 have An := Aside0.mk hc0
 clear hr0 hc0
 have HR1 := Aside0.mk hr1
 have Ao := Aside0.mk hc1
 clear hr1 hc1
 have H : (impl_compareNumbers.l0 k l0 l1 (l0.length : Int) 0) = some r := h
 clear h
 have H' := Aside0.mk H
 clear H
 go_enter Try.func95, Try.ntmps95
 go_wp2
 repeat (go_quiet (fail); try go_wp2)
 go_loopg [8] k (fun kq v8 w' => ∃ (Aa : Int), v8 = .int .i64 Aa ∧ Aside0 (impl_compareNumbers.l0 kq l0 l1 (l0.length : Int) Aa = some r) ∧ Aside0 (kq ≤ k) ∧ Drawn0 w w')
 case atStart => exact ⟨(0), (by first | rfl | (simp; done) | (simp [*]; done)), H', ⟨Nat.le_refl _⟩, by repeat (first | exact Drawn0.refl _ | apply Drawn0.step)⟩
 case round =>
  clear H';try clear c1
  obtain ⟨Aa, rfl, HA, Aj, ⟨m1, rfl⟩⟩ := hrel;cases gk with
  | zero => exact absurd HA.out (by simp [impl_compareNumbers.l0])
  | succ k1 =>
   have H := HA.out;clear HA;simp only [impl_compareNumbers.l0] at H;by_cases c3 : Aa < (l0.length : Int)
   rw [if_pos c3] at H;have Af := qp c3;clear c3;by_cases c4 : 0 ≤ Aa
   rw [if_pos c4] at H;have Ak := qp c4;clear c4;by_cases c5 : Aa < (l0.length : Int)
   rw [if_pos c5] at H;have Al := qp c5;clear c5;by_cases c6 : Aa < (l1.length : Int)
   rw [if_pos c6] at H;have Am := qp c6;clear c6;by_cases c7 : (rd l0 Aa) = (rd l1 Aa)
   rw [if_pos c7] at H;have Ag : ((rd l0 Aa) == (rd l1 Aa)) = true := beq_iff_eq.mpr c7;have Ah : ((rd l0 Aa) != (rd l1 Aa)) = false := bne_eq_false_iff_eq.mpr c7;clear c7;have H' := Aside0.mk H;clear H;rotate_left;rw [if_neg c7] at H;have Ag : ((rd l0 Aa) == (rd l1 Aa)) = false := beq_eq_false_iff_ne.mpr c7;have Ah : ((rd l0 Aa) != (rd l1 Aa)) = true := bne_iff_ne.mpr c7;by_cases c8 : (rd l0 Aa) < (rd l1 Aa)
   rw [if_pos c8] at H;have Ai := qp c8;clear c8;obtain rfl := Option.some.inj H;rotate_left;rw [if_neg c8] at H;have Ai := qq c8;clear c8;obtain rfl := Option.some.inj H;rotate_left
   ·rw [if_neg c6] at H;exact absurd H (by simp)
   ·rw [if_neg c5] at H;exact absurd H (by simp)
   ·rw [if_neg c4] at H;exact absurd H (by simp)
   rw [if_neg c3] at H;have Af := qq c3;clear c3;obtain rfl := Option.some.inj H;rotate_left;rotate_left 3
   ·go_wp2
    repeat (go_quiet (fail); try go_wp2)
    go_ret
    exact ⟨by first | rfl | (simp; done) | (simp [*]; done), by repeat (first | exact Drawn0.refl _ | apply Drawn0.step)⟩
   all_goals
    have p520 : 0 ≤ (Aa : Int) := od;have q520 : Aa < (l0.length : Int) := od;obtain ⟨ad520, e520, Ab⟩ := Kd.at_int HR0.out Aa p520 q520;cases e520
    replace p520 := eq_true p520;replace q520 := eq_true q520;have p521 : 0 ≤ (Aa : Int) := od;have q521 : Aa < (l1.length : Int) := od;obtain ⟨ad521, e521, Ac⟩ := Kd.at_int HR1.out Aa p521 q521;cases e521
    replace p521 := eq_true p521;replace q521 := eq_true q521
   ·go_wp2
    repeat (go_quiet (fail); try go_wp2)
    go_roundg k1
    case measure => have := Aj.out; omega
    case rel => exact ⟨(wrap64 (Aa + 1)), (by first | rfl | (simp; done) | (simp [*]; done)), H', ⟨by have := Aj.out; omega⟩, by repeat (first | exact Drawn0.refl _ | apply Drawn0.step)⟩
   rotate_left 2;all_goals
    have p522 : 0 ≤ (Aa : Int) := od;have q522 : Aa < (l0.length : Int) := od;obtain ⟨ad522, e522, Ad⟩ := Kd.at_int HR0.out Aa p522 q522;obtain rfl : ad520 = ad522 := (by injection e522);replace p522 := eq_true p522;replace q522 := eq_true q522;have p523 : 0 ≤ (Aa : Int) := od;have q523 : Aa < (l1.length : Int) := od;obtain ⟨ad523, e523, Ae⟩ := Kd.at_int HR1.out Aa p523 q523;obtain rfl : ad521 = ad523 := (by injection e523);replace p523 := eq_true p523;replace q523 := eq_true q523;go_wp2
    repeat (go_quiet (fail); try go_wp2)
    go_ret
    exact ⟨by first | rfl | (simp; done) | (simp [*]; done), by repeat (first | exact Drawn0.refl _ | apply Drawn0.step)⟩
def impl_compareMats.f (k : Nat) (Af : Int) (Ag : Int) (Ah : Int) (Ai : Int) (Ab : Int) (Ac : Int) (Ad : Int) (Ae : Int) : Option (Int) := (impl_compareNumbers.f k (([Af, Ag, Ah, Ai] : List Int)) (([Ab, Ac, Ad, Ae] : List Int))).bind fun Al => (some Al)
theorem impl_compareMats.calls (k : Nat) (Af : Int) (Ag : Int) (Ah : Int) (Ai : Int) (Ab : Int) (Ac : Int) (Ad : Int) (Ae : Int) (r : Int) (w : World) (h : impl_compareMats.f k Af Ag Ah Ai Ab Ac Ad Ae = some r) :
  Calls Try.prog 83 #[.agg #[.int .i64 Af, .int .i64 Ag, .int .i64 Ah, .int .i64 Ai], .agg #[.int .i64 Ab, .int .i64 Ac, .int .i64 Ad, .int .i64 Ae]] w fun e w' => e = .returned (.int .i64 r) ∧ Below w.heap.size w w' := by
 have hu51 := Try.underlying51
 have HB := asd (Below.refl w.heap.size w)
 have H : ((impl_compareNumbers.f k (([Af, Ag, Ah, Ai] : List Int)) (([Ab, Ac, Ad, Ae] : List Int))).bind fun Al => (some Al)) = some r := h
 clear h
 obtain ⟨Aw, Am⟩ : ∃ y_ : List Int, y_ = (([Af, Ag, Ah, Ai] : List Int)) := ⟨_, rfl⟩
 replace H : ((impl_compareNumbers.f k Aw (([Ab, Ac, Ad, Ae] : List Int))).bind fun Al => (some Al)) = some r := by first | (rw [Am]; with_reducible exact H) | (have H2_ := (Option.bind_some _ _).symm.trans H; rw [Am]; with_reducible exact H2_) | (have H2_ := (Option.bind_some _ _).symm.trans H; with_reducible exact H2_) | with_reducible exact H | (rw [Am]; exact H) | exact H
 have Au := Aside0.mk Am
 clear Am
 obtain ⟨Ax, An⟩ : ∃ y_ : List Int, y_ = (([Ab, Ac, Ad, Ae] : List Int)) := ⟨_, rfl⟩
 replace H : ((impl_compareNumbers.f k Aw Ax).bind fun Al => (some Al)) = some r := by first | (rw [An]; with_reducible exact H) | (have H2_ := (Option.bind_some _ _).symm.trans H; rw [An]; with_reducible exact H2_) | (have H2_ := (Option.bind_some _ _).symm.trans H; with_reducible exact H2_) | with_reducible exact H | (rw [An]; exact H) | exact H
 have Av := Aside0.mk An
 clear An
 obtain ⟨Al, A3, H⟩ := ob H
 try dsimp only at H
 obtain rfl := Option.some.inj H
 go_enter Try.func83, Try.ntmps83
 go_wp2_with (first | ((with_reducible refine gd 2 rfl ?_); refine bx #[.int .i64 Af, .int .i64 Ag, .int .i64 Ah, .int .i64 Ai] 51 ?_; intro AP hg w4 Aa hb; have Aj := ngw0 hg HB; replace HB := bS0 HB hb; clear hb hg) | ((with_reducible refine gd 3 rfl ?_); refine bx #[.int .i64 Ab, .int .i64 Ac, .int .i64 Ad, .int .i64 Ae] 51 ?_; intro AQ hg w5 Ao hb; have Ap := ngw1 hg HB Aj; replace HB := bS1 HB Aj hb; have Aq := nlt hg Aa; have Ar := nsy (nlt hg Aa); replace Aa := bB Aa hb; clear hb hg; have AR := Aq.out; have AS := Ar.out; obtain ⟨AH, AI, AJ, AK, AL, AM, AN, AO⟩ := bz4 Aa) | ((with_reducible refine gd 13 rfl ?_); refine Kd.R_lit (Kd.int .i64) _ 2 ?hg (N := 13) ?hd (xs := ([Af, Ag, Ah, Ai] : List Int)) (inner := [.int .i64 Af, .int .i64 Ag, .int .i64 Ah, .int .i64 Ai]) (ok := fun _ => True) (okp := fun _ => True) ?hr ?hp (fun _ hk => hk) trivial (Below.refl _ _) (Nat.le_refl _) (by simp) ?_; (case hd => rfl); (case hg => rfl); (case hr => first | (go_simp; done) | (go_simp; rfl)); (case hp => exact (Reps.one (show Kd.M (Kd.int .i64) _ _ _ Af [.int .i64 Af] from rfl) (Reps.one (show Kd.M (Kd.int .i64) _ _ _ Ag [.int .i64 Ag] from rfl) (Reps.one (show Kd.M (Kd.int .i64) _ _ _ Ah [.int .i64 Ah] from rfl) (Reps.one (show Kd.M (Kd.int .i64) _ _ _ Ai [.int .i64 Ai] from rfl) (Reps.none _ _)))))); intro v527 w8 Ay hb hg_ hnew_; clear hg_ hnew_; (first | rw [← Au.out] at Ay | (simp only [Int.reduceToNat] at Ay; rw [← Au.out] at Ay)); have Ak := asd (Kd.R_lower Ay (bsz2 HB Aj Ap)); replace Aa := bB Aa hb; replace Ao := bB Ao hb; replace HB := bS2 HB Aj Ap hb; clear hb Ay; obtain ⟨Az, AA, AB, AC, AD, AE, AF, AG⟩ := bz4 Ao) | ((with_reducible refine gd 22 rfl ?_); refine Kd.R_lit (Kd.int .i64) _ 2 ?hg (N := 22) ?hd (xs := ([Ab, Ac, Ad, Ae] : List Int)) (inner := [.int .i64 Ab, .int .i64 Ac, .int .i64 Ad, .int .i64 Ae]) (ok := fun _ => True) (okp := fun _ => True) ?hr ?hp (fun _ hk => hk) trivial (Below.refl _ _) (Nat.le_refl _) (by simp) ?_; (case hd => rfl); (case hg => rfl); (case hr => first | (go_simp; done) | (go_simp; rfl)); (case hp => exact (Reps.one (show Kd.M (Kd.int .i64) _ _ _ Ab [.int .i64 Ab] from rfl) (Reps.one (show Kd.M (Kd.int .i64) _ _ _ Ac [.int .i64 Ac] from rfl) (Reps.one (show Kd.M (Kd.int .i64) _ _ _ Ad [.int .i64 Ad] from rfl) (Reps.one (show Kd.M (Kd.int .i64) _ _ _ Ae [.int .i64 Ae] from rfl) (Reps.none _ _)))))); intro v530 AT As hb hg_ hnew_; clear hg_ hnew_; (first | rw [← Av.out] at As | (simp only [Int.reduceToNat] at As; rw [← Av.out] at As)); have At := asd (Kd.R_lower (Kd.R_new' As (Kd.R_lt (kr Ak))) (bsz2 HB Aj Ap)); replace Ak := asd (Kd.R_elder' (kr Ak) (Kd.R_base As) hb); replace Aa := bB Aa hb; replace Ao := bB Ao hb; replace HB := bS2 HB Aj Ap hb; clear hb As; obtain ⟨Ao13, co13, eo13⟩ := Kd.R_slice Ak.out; subst eo13; obtain ⟨Ao14, co14, eo14⟩ := Kd.R_slice At.out; subst eo14) | ((with_reducible refine gate_callee (f := 95) rfl ?_); refine gl 23 Try.func95 #[.slice Ao13 Aw.length co13, .slice Ao14 Ax.length co14] ?_; (with_reducible refine (impl_compareNumbers.calls _ _ _ _ _ _ _ _ _ ?side1 ?side2 ?side3 ?side4 A3.out).mono ?_); (case side1 => exact ks (Kd.R_reads' Ak.out).2.2); (case side2 => exact (Kd.R_reads' Ak.out).2.1); (case side3 => exact ks (Kd.R_reads' At.out).2.2); (case side4 => exact (Kd.R_reads' At.out).2.1); rintro e w' ⟨rfl, ⟨nd, rfl⟩⟩; refine ⟨_, rfl, ?_⟩))
 go_ret
 exact er (bbw2 HB Aj Ap)
def impl_compareVecs.f (k : Nat) (Ad : Int) (Ae : Int) (Ab : Int) (Ac : Int) : Option (Int) := (impl_compareNumbers.f k (([Ad, Ae] : List Int)) (([Ab, Ac] : List Int))).bind fun Ah => (some Ah)
theorem impl_compareVecs.calls (k : Nat) (Ad : Int) (Ae : Int) (Ab : Int) (Ac : Int) (r : Int) (w : World) (h : impl_compareVecs.f k Ad Ae Ab Ac = some r) :
  Calls Try.prog 84 #[.agg #[.int .i64 Ad, .int .i64 Ae], .agg #[.int .i64 Ab, .int .i64 Ac]] w fun e w' => e = .returned (.int .i64 r) ∧ Below w.heap.size w w' := by
 have hu53 := Try.underlying53
 have HB := asd (Below.refl w.heap.size w)
 have H : ((impl_compareNumbers.f k (([Ad, Ae] : List Int)) (([Ab, Ac] : List Int))).bind fun Ah => (some Ah)) = some r := h
 clear h
 obtain ⟨As, Ai⟩ : ∃ y_ : List Int, y_ = (([Ad, Ae] : List Int)) := ⟨_, rfl⟩
 replace H : ((impl_compareNumbers.f k As (([Ab, Ac] : List Int))).bind fun Ah => (some Ah)) = some r := by first | (rw [Ai]; with_reducible exact H) | (have H2_ := (Option.bind_some _ _).symm.trans H; rw [Ai]; with_reducible exact H2_) | (have H2_ := (Option.bind_some _ _).symm.trans H; with_reducible exact H2_) | with_reducible exact H | (rw [Ai]; exact H) | exact H
 have Aq := Aside0.mk Ai
 clear Ai
 obtain ⟨At, Aj⟩ : ∃ y_ : List Int, y_ = (([Ab, Ac] : List Int)) := ⟨_, rfl⟩
 replace H : ((impl_compareNumbers.f k As At).bind fun Ah => (some Ah)) = some r := by first | (rw [Aj]; with_reducible exact H) | (have H2_ := (Option.bind_some _ _).symm.trans H; rw [Aj]; with_reducible exact H2_) | (have H2_ := (Option.bind_some _ _).symm.trans H; with_reducible exact H2_) | with_reducible exact H | (rw [Aj]; exact H) | exact H
 have Ar := Aside0.mk Aj
 clear Aj
 obtain ⟨Ah, A3, H⟩ := ob H
 try dsimp only at H
 obtain rfl := Option.some.inj H
 go_enter Try.func84, Try.ntmps84
 go_wp2_with (first | ((with_reducible refine gd 2 rfl ?_); refine bx #[.int .i64 Ad, .int .i64 Ae] 53 ?_; intro AD hg w4 Aa hb; have Af := ngw0 hg HB; replace HB := bS0 HB hb; clear hb hg) | ((with_reducible refine gd 3 rfl ?_); refine bx #[.int .i64 Ab, .int .i64 Ac] 53 ?_; intro AE hg w5 Ak hb; have Al := ngw1 hg HB Af; replace HB := bS1 HB Af hb; have Am := nlt hg Aa; have An := nsy (nlt hg Aa); replace Aa := bB Aa hb; clear hb hg; have AF := Am.out; have AG := An.out; obtain ⟨Az, AA, AB, AC⟩ := bz2 Aa) | ((with_reducible refine gd 9 rfl ?_); refine Kd.R_lit (Kd.int .i64) _ 2 ?hg (N := 9) ?hd (xs := ([Ad, Ae] : List Int)) (inner := [.int .i64 Ad, .int .i64 Ae]) (ok := fun _ => True) (okp := fun _ => True) ?hr ?hp (fun _ hk => hk) trivial (Below.refl _ _) (Nat.le_refl _) (by simp) ?_; (case hd => rfl); (case hg => rfl); (case hr => first | (go_simp; done) | (go_simp; rfl)); (case hp => exact (Reps.one (show Kd.M (Kd.int .i64) _ _ _ Ad [.int .i64 Ad] from rfl) (Reps.one (show Kd.M (Kd.int .i64) _ _ _ Ae [.int .i64 Ae] from rfl) (Reps.none _ _)))); intro v536 w8 Au hb hg_ hnew_; clear hg_ hnew_; (first | rw [← Aq.out] at Au | (simp only [Int.reduceToNat] at Au; rw [← Aq.out] at Au)); have Ag := asd (Kd.R_lower Au (bsz2 HB Af Al)); replace Aa := bB Aa hb; replace Ak := bB Ak hb; replace HB := bS2 HB Af Al hb; clear hb Au; obtain ⟨Av, Aw, Ax, Ay⟩ := bz2 Ak) | ((with_reducible refine gd 14 rfl ?_); refine Kd.R_lit (Kd.int .i64) _ 2 ?hg (N := 14) ?hd (xs := ([Ab, Ac] : List Int)) (inner := [.int .i64 Ab, .int .i64 Ac]) (ok := fun _ => True) (okp := fun _ => True) ?hr ?hp (fun _ hk => hk) trivial (Below.refl _ _) (Nat.le_refl _) (by simp) ?_; (case hd => rfl); (case hg => rfl); (case hr => first | (go_simp; done) | (go_simp; rfl)); (case hp => exact (Reps.one (show Kd.M (Kd.int .i64) _ _ _ Ab [.int .i64 Ab] from rfl) (Reps.one (show Kd.M (Kd.int .i64) _ _ _ Ac [.int .i64 Ac] from rfl) (Reps.none _ _)))); intro v539 AH Ao hb hg_ hnew_; clear hg_ hnew_; (first | rw [← Ar.out] at Ao | (simp only [Int.reduceToNat] at Ao; rw [← Ar.out] at Ao)); have Ap := asd (Kd.R_lower (Kd.R_new' Ao (Kd.R_lt (kr Ag))) (bsz2 HB Af Al)); replace Ag := asd (Kd.R_elder' (kr Ag) (Kd.R_base Ao) hb); replace Aa := bB Aa hb; replace Ak := bB Ak hb; replace HB := bS2 HB Af Al hb; clear hb Ao; obtain ⟨Ao13, co13, eo13⟩ := Kd.R_slice Ag.out; subst eo13; obtain ⟨Ao14, co14, eo14⟩ := Kd.R_slice Ap.out; subst eo14) | ((with_reducible refine gate_callee (f := 95) rfl ?_); refine gl 15 Try.func95 #[.slice Ao13 As.length co13, .slice Ao14 At.length co14] ?_; (with_reducible refine (impl_compareNumbers.calls _ _ _ _ _ _ _ _ _ ?side1 ?side2 ?side3 ?side4 A3.out).mono ?_); (case side1 => exact ks (Kd.R_reads' Ag.out).2.2); (case side2 => exact (Kd.R_reads' Ag.out).2.1); (case side3 => exact ks (Kd.R_reads' Ap.out).2.2); (case side4 => exact (Kd.R_reads' Ap.out).2.1); rintro e w' ⟨rfl, ⟨nd, rfl⟩⟩; refine ⟨_, rfl, ?_⟩))
 go_ret
 exact er (bbw2 HB Af Al)
def impl_compareMotions.f (k : Nat) (Ah : Int) (Ai : Int) (Aj : Int) (Ak : Int) (Ap : Int) (Aq : Int) (Al : Int) (Am : Int) (An : Int) (Ao : Int) (Ar : Int) (As : Int) : Option (Int) := (impl_compareMats.f k Ah Ai Aj Ak Al Am An Ao).bind fun Af => (if Af = 0 then ((impl_compareVecs.f k Ap Aq Ar As).bind fun At => (some At)) else (some Af))
theorem impl_compareMotions.calls (k : Nat) (Ah : Int) (Ai : Int) (Aj : Int) (Ak : Int) (Ap : Int) (Aq : Int) (Al : Int) (Am : Int) (An : Int) (Ao : Int) (Ar : Int) (As : Int) (r : Int) (w : World) (h : impl_compareMotions.f k Ah Ai Aj Ak Ap Aq Al Am An Ao Ar As = some r) :
  Calls Try.prog 58 #[.agg #[.int .i64 Ah, .int .i64 Ai, .int .i64 Aj, .int .i64 Ak, .int .i64 Ap, .int .i64 Aq], .agg #[.int .i64 Al, .int .i64 Am, .int .i64 An, .int .i64 Ao, .int .i64 Ar, .int .i64 As]] w fun e w' => e = .returned (.int .i64 r) ∧ Below w.heap.size w w' := by
 have hu55 := Try.underlying55
 have hu51 := Try.underlying51
 have hu53 := Try.underlying53
 have HB := asd (Below.refl w.heap.size w)
 have H : ((impl_compareMats.f k Ah Ai Aj Ak Al Am An Ao).bind fun Af => (if Af = 0 then ((impl_compareVecs.f k Ap Aq Ar As).bind fun At => (some At)) else (some Af))) = some r := h
 clear h
 obtain ⟨Af, A3, H⟩ := ob H
 try dsimp only at H
 by_cases c4 : Af = 0
 ·rw [if_pos c4] at H;have Bw : (Af == 0) = true := beq_iff_eq.mpr c4;have Bx : (Af != 0) = false := bne_eq_false_iff_eq.mpr c4;clear c4;obtain ⟨At, A5, H⟩ := ob H;try dsimp only at H
  obtain rfl := Option.some.inj H;go_enter Try.func58, Try.ntmps58
  go_wp2_with (first | ((with_reducible refine gd 2 rfl ?_); refine bx #[.int .i64 Ah, .int .i64 Ai, .int .i64 Aj, .int .i64 Ak, .int .i64 Ap, .int .i64 Aq] 55 ?_; intro Au hg w6 Aa hb; have Ab := ngw0 hg HB; replace HB := bS0 HB hb; clear hb hg) | ((with_reducible refine gd 3 rfl ?_); refine bx #[.int .i64 Al, .int .i64 Am, .int .i64 An, .int .i64 Ao, .int .i64 Ar, .int .i64 As] 55 ?_; intro Av hg w7 Ac hb; have Ag := ngw1 hg HB Ab; replace HB := bS1 HB Ab hb; have Ad := nlt hg Aa; have Ae := nsy (nlt hg Aa); replace Aa := bB Aa hb; clear hb hg; have BM := Ad.out; have BN := Ae.out; obtain ⟨By, Bz, BA, BB, BC, BD, BE, BF, BG, BH, BI, BJ⟩ := bz6 Aa; obtain ⟨Aw, Ax, Ay, Az, AA, AB, AC, AD, AE, AF, AG, AH⟩ := bz6 Ac) | ((with_reducible refine gate_callee (f := 83) rfl ?_); refine gl 10 Try.func83 #[.agg #[.int .i64 Ah, .int .i64 Ai, .int .i64 Aj, .int .i64 Ak], .agg #[.int .i64 Al, .int .i64 Am, .int .i64 An, .int .i64 Ao]] ?_; (with_reducible refine (impl_compareMats.calls _ _ _ _ _ _ _ _ _ _ _ A3.out).mono ?_); rintro e BO ⟨rfl, hb⟩; refine ⟨_, rfl, ?_⟩; replace Aa := bB Aa hb; replace Ac := bB Ac hb; replace HB := bS2 HB Ab Ag hb; (try clear hb); obtain ⟨AI, AJ, AK, AL, AM, AN, AO, AP, AQ, AR, AS, AT⟩ := bz6 Aa; obtain ⟨AU, AV, AW, AX, AY, AZ, A0, A1, A2, A4, A6, A7⟩ := bz6 Ac) | ((with_reducible refine gate_callee (f := 84) rfl ?_); refine gl 18 Try.func84 #[.agg #[.int .i64 Ap, .int .i64 Aq], .agg #[.int .i64 Ar, .int .i64 As]] ?_; (with_reducible refine (impl_compareVecs.calls _ _ _ _ _ _ _ A5.out).mono ?_); rintro e BP ⟨rfl, hb⟩; refine ⟨_, rfl, ?_⟩; replace Aa := bB Aa hb; replace Ac := bB Ac hb; replace HB := bS2 HB Ab Ag hb; (try clear hb)));go_ret
  exact er (bbw2 HB Ab Ag)
 ·rw [if_neg c4] at H;have Bw : (Af == 0) = false := beq_eq_false_iff_ne.mpr c4;have Bx : (Af != 0) = true := bne_iff_ne.mpr c4;obtain rfl := Option.some.inj H;go_enter Try.func58, Try.ntmps58
  go_wp2_with (first | ((with_reducible refine gd 2 rfl ?_); refine bx #[.int .i64 Ah, .int .i64 Ai, .int .i64 Aj, .int .i64 Ak, .int .i64 Ap, .int .i64 Aq] 55 ?_; intro Au hg BQ Aa hb; have Ab := ngw0 hg HB; replace HB := bS0 HB hb; clear hb hg) | ((with_reducible refine gd 3 rfl ?_); refine bx #[.int .i64 Al, .int .i64 Am, .int .i64 An, .int .i64 Ao, .int .i64 Ar, .int .i64 As] 55 ?_; intro Av hg BR Ac hb; have Ag := ngw1 hg HB Ab; replace HB := bS1 HB Ab hb; have Ad := nlt hg Aa; have Ae := nsy (nlt hg Aa); replace Aa := bB Aa hb; clear hb hg; have BK := Ad.out; have BL := Ae.out; obtain ⟨A8, A9, Ba, Bb, Bc, Bd, Be, Bf, Bg, Bh, Bi, Bj⟩ := bz6 Aa; obtain ⟨Bk, Bl, Bm, Bn, Bo, Bp, Bq, Br, Bs, Bt, Bu, Bv⟩ := bz6 Ac) | ((with_reducible refine gate_callee (f := 83) rfl ?_); refine gl 10 Try.func83 #[.agg #[.int .i64 Ah, .int .i64 Ai, .int .i64 Aj, .int .i64 Ak], .agg #[.int .i64 Al, .int .i64 Am, .int .i64 An, .int .i64 Ao]] ?_; (with_reducible refine (impl_compareMats.calls _ _ _ _ _ _ _ _ _ _ _ A3.out).mono ?_); rintro e BS ⟨rfl, hb⟩; refine ⟨_, rfl, ?_⟩; replace Aa := bB Aa hb; replace Ac := bB Ac hb; replace HB := bS2 HB Ab Ag hb; (try clear hb)));go_ret
  exact er (bbw2 HB Ab Ag)
def impl_Lattice_reduceMotion.f (Ak : Int) (Al : Int) (Am : Int) (An : Int) (Ao : Int) (Ap : Int) (Aq : Int) (Ar : Int) (As : Int) : Option (Int × Int × Int × Int × Int × Int) := (impl_Lattice_reduce.f Ak Al Am Ar As).bind fun Aj => (some (An, Ao, Ap, Aq, Aj.1, Aj.2))
def impl_Lattice_reduceMotion.T1 : Bool × List (List Nat × List Nat) := (true, [([], []), ([0], [0]), ([], []), ([], []), ([3], [3]), ([2, 4], [2, 4]), ([1, 5], [1, 5]), ([6, 5, 0, 1, 2, 3, 4, 5, 6], [6])])
def impl_Lattice_reduceMotion.B1 : List Nat := [0, 1, 0, 0, 8, 28, 63, 127]
theorem impl_Lattice_reduceMotion.tab1 : rtab .any (opsOf Try.f59 1) = impl_Lattice_reduceMotion.T1 := by kernel_rfl
theorem impl_Lattice_reduceMotion.bits1 : waitsOk impl_Lattice_reduceMotion.T1.2 impl_Lattice_reduceMotion.B1 = true := by kernel_rfl
theorem impl_Lattice_reduceMotion.calls (Ak : Int) (Al : Int) (Am : Int) (An : Int) (Ao : Int) (Ap : Int) (Aq : Int) (Ar : Int) (As : Int) (r1 : Int) (r2 : Int) (r3 : Int) (r4 : Int) (r5 : Int) (r6 : Int) (w : World) (h : impl_Lattice_reduceMotion.f Ak Al Am An Ao Ap Aq Ar As = some (r1, r2, r3, r4, r5, r6)) :
  Calls Try.prog 59 #[.agg #[.int .i64 Ak, .int .i64 Al, .int .i64 Am], .agg #[.int .i64 An, .int .i64 Ao, .int .i64 Ap, .int .i64 Aq, .int .i64 Ar, .int .i64 As]] w fun e w' => e = .returned (.agg #[.int .i64 r1, .int .i64 r2, .int .i64 r3, .int .i64 r4, .int .i64 r5, .int .i64 r6]) ∧ Below w.heap.size w w' := by
 have hu25 := Try.underlying25
 have hu55 := Try.underlying55
 have hu51 := Try.underlying51
 have hu53 := Try.underlying53
 have HB := asd (Below.refl w.heap.size w)
 have H : ((impl_Lattice_reduce.f Ak Al Am Ar As).bind fun Aj => (some (An, Ao, Ap, Aq, Aj.1, Aj.2))) = some (r1, r2, r3, r4, r5, r6) := h
 clear h
 obtain ⟨⟨AR, AS⟩, A3, H⟩ := ob H
 try dsimp only at H
 simp only [Option.some.injEq, Prod.mk.injEq] at H
 obtain ⟨rfl, rfl, rfl, rfl, rfl, rfl⟩ := H
 go_enter Try.func59, Try.ntmps59
 try go_wp2_with (first | ((with_reducible refine gd 2 rfl ?_); refine bx #[.int .i64 Ak, .int .i64 Al, .int .i64 Am] 25 ?_; intro AX hg w4 Af hb; have Ai := ngw0 hg HB; replace HB := bS0 HB hb; clear hb hg) | ((with_reducible refine gd 3 rfl ?_); refine bx #[.int .i64 An, .int .i64 Ao, .int .i64 Ap, .int .i64 Aq, .int .i64 Ar, .int .i64 As] 55 ?_; intro AY hg w5 Ag hb; have At := ngw1 hg HB Ai; replace HB := bS1 HB Ai hb; have Av := nlt hg Af; have Aw := nsy (nlt hg Af); replace Af := bB Af hb; clear hb hg) | ((with_reducible refine gd 4 rfl ?_); refine bx #[.int .i64 0, .int .i64 0, .int .i64 0, .int .i64 0, .int .i64 0, .int .i64 0] 55 ?_; intro Ah hg w6 Ac hb; have Au := ngw2 hg HB Ai At; replace HB := bS2 HB Ai At hb; have Ab := nlt hg Af; have Ad := nsy (nlt hg Af); replace Af := bB Af hb; have Aa := nlt hg Ag; have Ae := nsy (nlt hg Ag); replace Ag := bB Ag hb; clear hb hg))
 replace Af := asd (blk_drew Af.out)
 replace Ag := asd (blk_drew Ag.out)
 replace Ac := asd (blk_drew Ac.out)
 replace HB := asd (qm HB.out)
 refine sh 8 (cb6 Ag (eb3 Af)) (fun hHeld => ?_); refine with_tabW impl_Lattice_reduceMotion.tab1 impl_Lattice_reduceMotion.bits1 (fun HT_ HW_ => ?_)
 generalize w6.drew = w7 at Af Ag Ac HB hHeld ⊢
 refine pu 0 (some 5) (bT 8 1) HT_ ?_
 refine pu 3 (some 8) (bs 8 9) HT_ ?_
 refine ta 1 (some 6) (bs 8 11) HT_ HW_ hHeld ?_
 refine ta 2 (some 7) (bT 8 4) HT_ HW_ hHeld ?_
 refine ta 4 (some 9) (bT 8 5) HT_ HW_ hHeld ?_
 refine ro 5 (some 10) (bT 8 6) HT_ (fun K hK => ?_)
 refine gs Try.func57 #[.agg #[.int .i64 Ak, .int .i64 Al, .int .i64 Am], .agg #[.int .i64 Ar, .int .i64 As]] ?_
 with_reducible refine (impl_Lattice_reduce.calls _ _ _ _ _ _ _ _ A3.out).mono ?_
 rintro e w8 ⟨rfl, hb⟩
 refine ⟨_, rfl, ?_⟩
 replace Af := bB Af hb
 replace Ag := bB Ag hb
 replace Ac := bB Ac hb
 replace HB := bS3 HB Ai At Au hb
 (try clear hb)
 (try clear hb2)
 (try clear hk)
 (try clear hi)
 refine hK.out _ _ (cb6 Ag (eb3 Af)).out (fun hHeld => ?_)
 clear hK K
 refine norm_ (a' := ?_) ?_ ?_
 rotate_left
 ·show Act.put _ (some 10) _ = _
  simp only [Act.put, sA, sB, sC, i64_w, i32_w];rfl
 refine pu 6 (some 11) (bT 8 7) HT_ ?_
 refine ro 7 (none) (bT 8 8) HT_ (fun K hK => ?_)
 have hs9 : w8.cell? ⟨Ah, 0, none⟩ = some (.int .i64 0) := bcl Ac 0
 have hfs9 := blk_frozen Ac.out 0
 have AT := Ab.out
 have AU := Aa.out
 have AV := Ad.out
 have AW := Ae.out
 have hs10 : w8.cell? ⟨Ah, 1, none⟩ = some (.int .i64 0) := bcl Ac 1
 have hfs10 := blk_frozen Ac.out 1
 have Ax := Ab.out
 have Ay := Aa.out
 have Az := Ad.out
 have AA := Ae.out
 have hs11 : w8.cell? ⟨Ah, 2, none⟩ = some (.int .i64 0) := bcl Ac 2
 have hfs11 := blk_frozen Ac.out 2
 have AB := Ab.out
 have AC := Aa.out
 have AD := Ad.out
 have AE := Ae.out
 have hs12 : w8.cell? ⟨Ah, 3, none⟩ = some (.int .i64 0) := bcl Ac 3
 have hfs12 := blk_frozen Ac.out 3
 have AF := Ab.out
 have AG := Aa.out
 have AH := Ad.out
 have AI := Ae.out
 have hs13 : w8.cell? ⟨Ah, 4, none⟩ = some (.int .i64 0) := bcl Ac 4
 have hfs13 := blk_frozen Ac.out 4
 have AJ := Ab.out
 have AK := Aa.out
 have AL := Ad.out
 have AM := Ae.out
 have hs14 : w8.cell? ⟨Ah, 5, none⟩ = some (.int .i64 0) := bcl Ac 5
 have hfs14 := blk_frozen Ac.out 5
 have AN := Ab.out
 have AO := Aa.out
 have AP := Ad.out
 have AQ := Ae.out
 refine skip_ (w1 := ?_) (by rfl) rfl ?_ ?_
 rotate_left
 ·go_simp;rfl
 refine hK.out _ _ ⟨(cf6 Aa (hHeld.1)), (cf6 Aa (hHeld.2.1)), (cf6 Aa (hHeld.2.2.1)), (cf6 Aa (hHeld.2.2.2.1)), (cf6 Aa (hHeld.2.2.2.2.1)), (cf6 Aa (hHeld.2.2.2.2.2.1)), (cf6 Ab (hHeld.2.2.2.2.2.2.1)), (cf6 Ab (hHeld.2.2.2.2.2.2.2.1)), (cf6 Ab (hHeld.2.2.2.2.2.2.2.2))⟩ (fun hHeld => ?_)
 clear hK K
 refine done_ (done_of HT_.out (by kernel_rfl)) ?_
 try go_wp2
 refine bodyPost_ret (results_cell_row rfl _ _ Ah 55 #[.int .i64 An, .int .i64 Ao, .int .i64 Ap, .int .i64 Aq, .int .i64 AR, .int .i64 AS] (0, 0) _ rfl (bq0 Ac) Try.underlying55 rfl (by kernel_rfl)) rfl ?_
 exact er (bbw3 HB Ai At Au)
def impl_Mat_times.f (Ab : Int) (Ac : Int) (Ad : Int) (Ae : Int) (Af : Int) (Ag : Int) (Ah : Int) (Ai : Int) : Option (Int × Int × Int × Int) := some (wrap64 ((wrap64 (Ab * Af)) + (wrap64 (Ac * Ah))), wrap64 ((wrap64 (Ab * Ag)) + (wrap64 (Ac * Ai))), wrap64 ((wrap64 (Ad * Af)) + (wrap64 (Ae * Ah))), wrap64 ((wrap64 (Ad * Ag)) + (wrap64 (Ae * Ai))))
theorem impl_Mat_times.calls (Ab : Int) (Ac : Int) (Ad : Int) (Ae : Int) (Af : Int) (Ag : Int) (Ah : Int) (Ai : Int) (r1 : Int) (r2 : Int) (r3 : Int) (r4 : Int) (w : World) (h : impl_Mat_times.f Ab Ac Ad Ae Af Ag Ah Ai = some (r1, r2, r3, r4)) :
  Calls Try.prog 85 #[.agg #[.int .i64 Ab, .int .i64 Ac, .int .i64 Ad, .int .i64 Ae], .agg #[.int .i64 Af, .int .i64 Ag, .int .i64 Ah, .int .i64 Ai]] w fun e w' => e = .returned (.agg #[.int .i64 r1, .int .i64 r2, .int .i64 r3, .int .i64 r4]) ∧ Below w.heap.size w w' := by
 have hu51 := Try.underlying51
 have HB := asd (Below.refl w.heap.size w)
 have H : (some (wrap64 ((wrap64 (Ab * Af)) + (wrap64 (Ac * Ah))), wrap64 ((wrap64 (Ab * Ag)) + (wrap64 (Ac * Ai))), wrap64 ((wrap64 (Ad * Af)) + (wrap64 (Ae * Ah))), wrap64 ((wrap64 (Ad * Ag)) + (wrap64 (Ae * Ai))))) = some (r1, r2, r3, r4) := h
 clear h
 simp only [Option.some.injEq, Prod.mk.injEq] at H
 obtain ⟨rfl, rfl, rfl, rfl⟩ := H
 go_enter Try.func85, Try.ntmps85
 go_wp2_with (first | ((with_reducible refine gd 2 rfl ?_); refine bx #[.int .i64 Ab, .int .i64 Ac, .int .i64 Ad, .int .i64 Ae] 51 ?_; intro AT hg w3 Aa hb; have Aj := ngw0 hg HB; replace HB := bS0 HB hb; clear hb hg) | ((with_reducible refine gd 3 rfl ?_); refine bx #[.int .i64 Af, .int .i64 Ag, .int .i64 Ah, .int .i64 Ai] 51 ?_; intro AU hg w4 Ak hb; have Ar := ngw1 hg HB Aj; replace HB := bS1 HB Aj hb; have Al := nlt hg Aa; have Am := nsy (nlt hg Aa); replace Aa := bB Aa hb; clear hb hg) | ((with_reducible refine gd 4 rfl ?_); refine bx #[.int .i64 0, .int .i64 0, .int .i64 0, .int .i64 0] 51 ?_; intro At hg w5 As hb; have Au := ngw2 hg HB Aj Ar; replace HB := bS2 HB Aj Ar hb; have An := nlt hg Aa; have Ao := nsy (nlt hg Aa); replace Aa := bB Aa hb; have Ap := nlt hg Ak; have Aq := nsy (nlt hg Ak); replace Ak := bB Ak hb; clear hb hg; have AV := Al.out; have AW := Am.out; have AX := An.out; have AY := Ao.out; obtain ⟨AL, AM, AN, AO, AP, AQ, AR, AS⟩ := bz4 Aa; have AZ := Ap.out; have A0 := Aq.out; obtain ⟨Av, Aw, Ax, Ay, Az, AA, AB, AC⟩ := bz4 Ak; obtain ⟨AD, AE, AF, AG, AH, AI, AJ, AK⟩ := bz4 As))
 refine bodyPost_ret (results_cell_row rfl _ _ At 51 #[.int .i64 (wrap64 ((wrap64 (Ab * Af)) + (wrap64 (Ac * Ah)))), .int .i64 (wrap64 ((wrap64 (Ab * Ag)) + (wrap64 (Ac * Ai)))), .int .i64 (wrap64 ((wrap64 (Ad * Af)) + (wrap64 (Ae * Ah)))), .int .i64 (wrap64 ((wrap64 (Ad * Ag)) + (wrap64 (Ae * Ai))))] (0, 0) _ rfl (bq0 As) Try.underlying51 rfl (by kernel_rfl)) rfl ?_
 exact er (bbw3 HB Aj Ar Au)
def impl_Vec_add.f (Ad : Int) (Ae : Int) (Af : Int) (Ag : Int) : Option (Int × Int) := some (wrap64 (Ad + Af), wrap64 (Ae + Ag))
theorem impl_Vec_add.calls (Ad : Int) (Ae : Int) (Af : Int) (Ag : Int) (r1 : Int) (r2 : Int) (w : World) (h : impl_Vec_add.f Ad Ae Af Ag = some (r1, r2)) :
  Calls Try.prog 86 #[.agg #[.int .i64 Ad, .int .i64 Ae], .agg #[.int .i64 Af, .int .i64 Ag]] w fun e w' => e = .returned (.agg #[.int .i64 r1, .int .i64 r2]) ∧ Below w.heap.size w w' := by
 have hu53 := Try.underlying53
 have HB := asd (Below.refl w.heap.size w)
 have H : (some (wrap64 (Ad + Af), wrap64 (Ae + Ag))) = some (r1, r2) := h
 clear h
 simp only [Option.some.injEq, Prod.mk.injEq] at H
 obtain ⟨rfl, rfl⟩ := H
 go_enter Try.func86, Try.ntmps86
 go_wp2_with (first | ((with_reducible refine gd 2 rfl ?_); refine bx #[.int .i64 Ad, .int .i64 Ae] 53 ?_; intro AD hg w3 Aa hb; have Ab := ngw0 hg HB; replace HB := bS0 HB hb; clear hb hg) | ((with_reducible refine gd 3 rfl ?_); refine bx #[.int .i64 Af, .int .i64 Ag] 53 ?_; intro AE hg w4 Ac hb; have An := ngw1 hg HB Ab; replace HB := bS1 HB Ab hb; have Ah := nlt hg Aa; have Ai := nsy (nlt hg Aa); replace Aa := bB Aa hb; clear hb hg) | ((with_reducible refine gd 4 rfl ?_); refine bx #[.int .i64 0, .int .i64 0] 53 ?_; intro Ap hg w5 Ao hb; have Aq := ngw2 hg HB Ab An; replace HB := bS2 HB Ab An hb; have Aj := nlt hg Aa; have Ak := nsy (nlt hg Aa); replace Aa := bB Aa hb; have Al := nlt hg Ac; have Am := nsy (nlt hg Ac); replace Ac := bB Ac hb; clear hb hg; have AF := Ah.out; have AG := Ai.out; have AH := Aj.out; have AI := Ak.out; obtain ⟨Az, AA, AB, AC⟩ := bz2 Aa; have AJ := Al.out; have AK := Am.out; obtain ⟨Ar, As, At, Au⟩ := bz2 Ac; obtain ⟨Av, Aw, Ax, Ay⟩ := bz2 Ao))
 refine bodyPost_ret (results_cell_row rfl _ _ Ap 53 #[.int .i64 (wrap64 (Ad + Af)), .int .i64 (wrap64 (Ae + Ag))] (0, 0) _ rfl (bq0 Ao) Try.underlying53 rfl (by kernel_rfl)) rfl ?_
 exact er (bbw3 HB Ab An Aq)
def impl_Motion_times.f (Ak : Int) (Al : Int) (Am : Int) (An : Int) (Ar : Int) (As : Int) (At : Int) (Au : Int) (Av : Int) (Aw : Int) (Ax : Int) (Ay : Int) : Option (Int × Int × Int × Int × Int × Int) := (impl_Mat_times.f Ak Al Am An At Au Av Aw).bind fun Ah => ((impl_Mat_apply.f Ak Al Am An Ax Ay).bind fun Ap => ((impl_Vec_add.f Ap.1 Ap.2 Ar As).bind fun Aq => (some (Ah.1, Ah.2.1, Ah.2.2.1, Ah.2.2.2, Aq.1, Aq.2))))
def impl_Motion_times.T1 : Bool × List (List Nat × List Nat) := (true, [([], []), ([0], [0]), ([], []), ([2], [2]), ([1, 3], [1, 3]), ([], []), ([5], [5]), ([], []), ([7], [7]), ([6, 8, 4], [6, 8]), ([], []), ([10], [10]), ([9, 11, 9], [9, 11]), ([4, 12], [4, 12]), ([13, 12, 0, 1, 2, 3, 4, 5, 6, 7, 8, 9, 10, 11, 12, 13], [13])])
def impl_Motion_times.B1 : List Nat := [0, 1, 0, 4, 15, 0, 32, 0, 128, 511, 0, 1024, 4095, 8191, 16383]
theorem impl_Motion_times.tab1 : rtab .any (opsOf Try.f60 1) = impl_Motion_times.T1 := by kernel_rfl
theorem impl_Motion_times.bits1 : waitsOk impl_Motion_times.T1.2 impl_Motion_times.B1 = true := by kernel_rfl
theorem impl_Motion_times.calls (Ak : Int) (Al : Int) (Am : Int) (An : Int) (Ar : Int) (As : Int) (At : Int) (Au : Int) (Av : Int) (Aw : Int) (Ax : Int) (Ay : Int) (r1 : Int) (r2 : Int) (r3 : Int) (r4 : Int) (r5 : Int) (r6 : Int) (w : World) (h : impl_Motion_times.f Ak Al Am An Ar As At Au Av Aw Ax Ay = some (r1, r2, r3, r4, r5, r6)) :
  Calls Try.prog 60 #[.agg #[.int .i64 Ak, .int .i64 Al, .int .i64 Am, .int .i64 An, .int .i64 Ar, .int .i64 As], .agg #[.int .i64 At, .int .i64 Au, .int .i64 Av, .int .i64 Aw, .int .i64 Ax, .int .i64 Ay]] w fun e w' => e = .returned (.agg #[.int .i64 r1, .int .i64 r2, .int .i64 r3, .int .i64 r4, .int .i64 r5, .int .i64 r6]) ∧ Below w.heap.size w w' := by
 have hu55 := Try.underlying55
 have hu51 := Try.underlying51
 have hu53 := Try.underlying53
 have HB := asd (Below.refl w.heap.size w)
 have H : ((impl_Mat_times.f Ak Al Am An At Au Av Aw).bind fun Ah => ((impl_Mat_apply.f Ak Al Am An Ax Ay).bind fun Ap => ((impl_Vec_add.f Ap.1 Ap.2 Ar As).bind fun Aq => (some (Ah.1, Ah.2.1, Ah.2.2.1, Ah.2.2.2, Aq.1, Aq.2))))) = some (r1, r2, r3, r4, r5, r6) := h
 clear h
 obtain ⟨⟨A1, A2, A6, A7⟩, A3, H⟩ := ob H
 try dsimp only at H
 obtain ⟨⟨A8, A9⟩, A4, H⟩ := ob H
 try dsimp only at H
 obtain ⟨⟨Ba, Bb⟩, A5, H⟩ := ob H
 try dsimp only at H
 simp only [Option.some.injEq, Prod.mk.injEq] at H
 obtain ⟨rfl, rfl, rfl, rfl, rfl, rfl⟩ := H
 go_enter Try.func60, Try.ntmps60
 try go_wp2_with (first | ((with_reducible refine gd 2 rfl ?_); refine bx #[.int .i64 Ak, .int .i64 Al, .int .i64 Am, .int .i64 An, .int .i64 Ar, .int .i64 As] 55 ?_; intro Bc hg w6 Ad hb; have Ai := ngw0 hg HB; replace HB := bS0 HB hb; clear hb hg) | ((with_reducible refine gd 3 rfl ?_); refine bx #[.int .i64 At, .int .i64 Au, .int .i64 Av, .int .i64 Aw, .int .i64 Ax, .int .i64 Ay] 55 ?_; intro Bd hg w7 Ae hb; have Ao := ngw1 hg HB Ai; replace HB := bS1 HB Ai hb; have AA := nlt hg Ad; have AB := nsy (nlt hg Ad); replace Ad := bB Ad hb; clear hb hg) | ((with_reducible refine gd 4 rfl ?_); refine bx #[.int .i64 0, .int .i64 0, .int .i64 0, .int .i64 0, .int .i64 0, .int .i64 0] 55 ?_; intro Aj hg w8 Ac hb; have Az := ngw2 hg HB Ai Ao; replace HB := bS2 HB Ai Ao hb; have Aa := nlt hg Ad; have Af := nsy (nlt hg Ad); replace Ad := bB Ad hb; have Ab := nlt hg Ae; have Ag := nsy (nlt hg Ae); replace Ae := bB Ae hb; clear hb hg))
 replace Ad := asd (blk_drew Ad.out)
 replace Ae := asd (blk_drew Ae.out)
 replace Ac := asd (blk_drew Ac.out)
 replace HB := asd (qm HB.out)
 refine sh 15 (cb6 Ad (eb6 Ae)) (fun hHeld => ?_); refine with_tabW impl_Motion_times.tab1 impl_Motion_times.bits1 (fun HT_ HW_ => ?_)
 generalize w8.drew = w9 at Ad Ae Ac HB hHeld ⊢
 refine pu 0 (some 5) (bT 15 1) HT_ ?_
 refine pu 2 (some 7) (bs 15 5) HT_ ?_
 refine pu 5 (some 10) (bs 15 37) HT_ ?_
 refine pu 7 (some 12) (bs 15 165) HT_ ?_
 refine pu 10 (some 15) (bs 15 1189) HT_ ?_
 refine ta 1 (some 6) (bs 15 1191) HT_ HW_ hHeld ?_
 refine ta 3 (some 8) (bs 15 1199) HT_ HW_ hHeld ?_
 refine ta 6 (some 11) (bs 15 1263) HT_ HW_ hHeld ?_
 refine ta 8 (some 13) (bs 15 1519) HT_ HW_ hHeld ?_
 refine ta 11 (some 16) (bs 15 3567) HT_ HW_ hHeld ?_
 refine ro 4 (some 9) (bs 15 3583) HT_ (fun K hK => ?_)
 refine gs Try.func85 #[.agg #[.int .i64 Ak, .int .i64 Al, .int .i64 Am, .int .i64 An], .agg #[.int .i64 At, .int .i64 Au, .int .i64 Av, .int .i64 Aw]] ?_
 with_reducible refine (impl_Mat_times.calls _ _ _ _ _ _ _ _ _ _ _ _ _ A3.out).mono ?_
 rintro e Be ⟨rfl, hb⟩
 refine ⟨_, rfl, ?_⟩
 replace Ad := bB Ad hb
 replace Ae := bB Ae hb
 replace Ac := bB Ac hb
 replace HB := bS3 HB Ai Ao Az hb
 (try clear hb)
 (try clear hb2)
 (try clear hk)
 (try clear hi)
 refine hK.out _ _ (cb6 Ad (eb6 Ae)).out (fun hHeld => ?_)
 clear hK K
 refine norm_ (a' := ?_) ?_ ?_
 rotate_left
 ·show Act.put _ (some 9) _ = _
  simp only [Act.put, sA, sB, sC, i64_w, i32_w];rfl
 refine ro 9 (some 14) (bT 15 12) HT_ (fun K hK => ?_)
 refine gs Try.func80 #[.agg #[.int .i64 Ak, .int .i64 Al, .int .i64 Am, .int .i64 An], .agg #[.int .i64 Ax, .int .i64 Ay]] ?_
 with_reducible refine (impl_Mat_apply.calls _ _ _ _ _ _ _ _ _ A4.out).mono ?_
 rintro e Bf ⟨rfl, hb⟩
 refine ⟨_, rfl, ?_⟩
 replace Ad := bB Ad hb
 replace Ae := bB Ae hb
 replace Ac := bB Ac hb
 replace HB := bS3 HB Ai Ao Az hb
 (try clear hb)
 (try clear hb2)
 (try clear hk)
 (try clear hi)
 refine hK.out _ _ (cb6 Ad (eb6 Ae)).out (fun hHeld => ?_)
 clear hK K
 refine norm_ (a' := ?_) ?_ ?_
 rotate_left
 ·show Act.put _ (some 14) _ = _
  simp only [Act.put, sA, sB, sC, i64_w, i32_w];rfl
 refine ro 12 (some 17) (bT 15 13) HT_ (fun K hK => ?_)
 refine gs Try.func86 #[.agg #[.int .i64 A8, .int .i64 A9], .agg #[.int .i64 Ar, .int .i64 As]] ?_
 with_reducible refine (impl_Vec_add.calls _ _ _ _ _ _ _ A5.out).mono ?_
 rintro e AC ⟨rfl, hb⟩
 refine ⟨_, rfl, ?_⟩
 replace Ad := bB Ad hb
 replace Ae := bB Ae hb
 replace Ac := bB Ac hb
 replace HB := bS3 HB Ai Ao Az hb
 (try clear hb)
 (try clear hb2)
 (try clear hk)
 (try clear hi)
 refine hK.out _ _ (cb6 Ad (eb6 Ae)).out (fun hHeld => ?_)
 clear hK K
 refine norm_ (a' := ?_) ?_ ?_
 rotate_left
 ·show Act.put _ (some 17) _ = _
  simp only [Act.put, sA, sB, sC, i64_w, i32_w];rfl
 refine pu 13 (some 18) (bT 15 14) HT_ ?_
 refine ro 14 (none) (bT 15 15) HT_ (fun K hK => ?_)
 have hs13 : AC.cell? ⟨Aj, 0, none⟩ = some (.int .i64 0) := bcl Ac 0
 have hfs13 := blk_frozen Ac.out 0
 have AD := Aa.out
 have AE := Ab.out
 have AF := Af.out
 have AG := Ag.out
 have hs14 : AC.cell? ⟨Aj, 1, none⟩ = some (.int .i64 0) := bcl Ac 1
 have hfs14 := blk_frozen Ac.out 1
 have AH := Aa.out
 have AI := Ab.out
 have AJ := Af.out
 have AK := Ag.out
 have hs15 : AC.cell? ⟨Aj, 2, none⟩ = some (.int .i64 0) := bcl Ac 2
 have hfs15 := blk_frozen Ac.out 2
 have AL := Aa.out
 have AM := Ab.out
 have AN := Af.out
 have AO := Ag.out
 have hs16 : AC.cell? ⟨Aj, 3, none⟩ = some (.int .i64 0) := bcl Ac 3
 have hfs16 := blk_frozen Ac.out 3
 have AP := Aa.out
 have AQ := Ab.out
 have AR := Af.out
 have AS := Ag.out
 have hs17 : AC.cell? ⟨Aj, 4, none⟩ = some (.int .i64 0) := bcl Ac 4
 have hfs17 := blk_frozen Ac.out 4
 have AT := Aa.out
 have AU := Ab.out
 have AV := Af.out
 have AW := Ag.out
 have hs18 : AC.cell? ⟨Aj, 5, none⟩ = some (.int .i64 0) := bcl Ac 5
 have hfs18 := blk_frozen Ac.out 5
 have AX := Aa.out
 have AY := Ab.out
 have AZ := Af.out
 have A0 := Ag.out
 refine skip_ (w1 := ?_) (by rfl) rfl ?_ ?_
 rotate_left
 ·go_simp;rfl
 refine hK.out _ _ ⟨(cf6 Aa (hHeld.1)), (cf6 Aa (hHeld.2.1)), (cf6 Aa (hHeld.2.2.1)), (cf6 Aa (hHeld.2.2.2.1)), (cf6 Aa (hHeld.2.2.2.2.1)), (cf6 Aa (hHeld.2.2.2.2.2.1)), (cf6 Ab (hHeld.2.2.2.2.2.2.1)), (cf6 Ab (hHeld.2.2.2.2.2.2.2.1)), (cf6 Ab (hHeld.2.2.2.2.2.2.2.2.1)), (cf6 Ab (hHeld.2.2.2.2.2.2.2.2.2.1)), (cf6 Ab (hHeld.2.2.2.2.2.2.2.2.2.2.1)), (cf6 Ab (hHeld.2.2.2.2.2.2.2.2.2.2.2))⟩ (fun hHeld => ?_)
 clear hK K
 refine done_ (done_of HT_.out (by kernel_rfl)) ?_
 try go_wp2
 refine bodyPost_ret (results_cell_row rfl _ _ Aj 55 #[.int .i64 A1, .int .i64 A2, .int .i64 A6, .int .i64 A7, .int .i64 Ba, .int .i64 Bb] (0, 0) _ rfl (bq0 Ac) Try.underlying55 rfl (by kernel_rfl)) rfl ?_
 exact er (bbw3 HB Ai Ao Az)
attribute [local go_sem high] eqA53
theorem mapMo.wide : (match Try.prog.underlying 55 with | some (.array _ _) | some (.struct _) => true | _ => false) = true := by rw [Try.underlying55]
theorem mapMo.law : Go.Maps.Keyed Try.prog 55 := Go.Maps.Keyed.of_law (deep_law_laid (P := Try.prog) (by kernel_rfl) (m := 3) (by omega) (of_decide_eq_true (by kernel_rfl)) (by kernel_rfl) mapMo.wide)
def mapMo.enc (x : S55) : Value := .agg #[.int .i64 x.f0.f0, .int .i64 x.f0.f1, .int .i64 x.f0.f2, .int .i64 x.f0.f3, .int .i64 x.f1.f0, .int .i64 x.f1.f1]
def mapMo.lits (x : S55) : List Lit := [.int .i64 x.f0.f0, .int .i64 x.f0.f1, .int .i64 x.f0.f2, .int .i64 x.f0.f3, .int .i64 x.f1.f0, .int .i64 x.f1.f1]
def mapMo.wf (x : S55) : Bool := (mapMo.lits x).all Lit.wf
def mapMo.kl (x : S55) : Lit := .string (keyBytes (mapMo.lits x))
theorem mapMo.hkey (x : S55) (h : mapMo.wf x = true) : keyOf Try.prog 55 (mapMo.enc x) = some (mapMo.kl x) := by
 simp only [mapMo.wf, mapMo.lits, List.all_cons, List.all_nil, Bool.and_true, Bool.and_eq_true] at h
 obtain ⟨h0, h1, h2, h3, h4, h5⟩ := h
 have k2 : ∀ (d : Nat) (n : Int), (Lit.int .i64 n).wf = true → Try.prog.keyLits (d + 1) 2 [.int .i64 n] = some [.int .i64 n] := fun d n hn => by
  simp [Program.keyLits, Try.underlying2, hn]
 have k34 : ∀ (d : Nat) (a b : Int), (Lit.int .i64 a).wf = true → (Lit.int .i64 b).wf = true → Try.prog.keyLits (d + 2) 53 [.int .i64 a, .int .i64 b] = some [.int .i64 a, .int .i64 b] := fun d a b ha hb => by
  unfold Program.keyLits;rw [Try.underlying53];have c : Try.prog.cellsOf 53 = 2 := by kernel_rfl
  have c2 : Try.prog.cellsOf 2 = 1 := by kernel_rfl
  simp [c, c2, k2, ha, hb]
 have k33 : ∀ (d : Nat) (a b c e : Int), (Lit.int .i64 a).wf = true → (Lit.int .i64 b).wf = true → (Lit.int .i64 c).wf = true → (Lit.int .i64 e).wf = true → Try.prog.keyLits (d + 2) 51 [.int .i64 a, .int .i64 b, .int .i64 c, .int .i64 e] = some [.int .i64 a, .int .i64 b, .int .i64 c, .int .i64 e] := fun d a b c e ha hb hc he => by
  unfold Program.keyLits;rw [Try.underlying51];have c' : Try.prog.cellsOf 51 = 4 := by kernel_rfl
  have c2 : Try.prog.cellsOf 2 = 1 := by kernel_rfl
  simp [c', c2, k2, ha, hb, hc, he]
 have hf : (mapMo.enc x).formed Try.prog 55 = true := by
  simp [Value.formed, mapMo.enc, Try.underlying55, show Try.prog.cellsOf 55 = 6 by kernel_rfl]
 have hk : Try.prog.keyType 55 = true := by kernel_rfl
 have hs : ∃ m, Try.prog.types.size = m + 2 := ⟨Try.prog.types.size - 2, by have : (2 : Nat) ≤ Try.prog.types.size := of_decide_eq_true (by kernel_rfl); omega⟩
 obtain ⟨m, hm⟩ := hs
 unfold keyOf
 rw [Try.underlying55, hm]
 dsimp only
 rw [hk, hf]
 unfold Program.keyLits
 rw [Try.underlying55]
 have c : Try.prog.cellsOf 55 = 6 := by kernel_rfl
 have Aa : Try.prog.cellsOf 51 = 4 := by kernel_rfl
 have Ab : Try.prog.cellsOf 53 = 2 := by kernel_rfl
 simp [mapMo.enc, Value.cells, c, Aa, Ab, k33, k34, h0, h1, h2, h3, h4, h5, mapMo.kl, mapMo.lits]
def mapMo.eqB (x y : S55) : Bool := x.f0.f0 == y.f0.f0 && (x.f0.f1 == y.f0.f1 && (x.f0.f2 == y.f0.f2 && (x.f0.f3 == y.f0.f3 && (x.f1.f0 == y.f1.f0 && x.f1.f1 == y.f1.f1))))
theorem mapMo.eqB_iff (x y : S55) : mapMo.eqB x y = true ↔ x = y := by
 obtain ⟨⟨a, b, c, d⟩, e, f⟩ := x
 obtain ⟨⟨a', b', c', d'⟩, e', f'⟩ := y
 simp only [mapMo.eqB, Bool.and_eq_true, beq_iff_eq]
 constructor
 ·rintro ⟨rfl, rfl, rfl, rfl, rfl, rfl⟩; rfl
 ·intro h; cases h; exact ⟨rfl, rfl, rfl, rfl, rfl, rfl⟩
theorem mapMo.enc_inj {x y : S55} (h : mapMo.enc x = mapMo.enc y) : x = y := by
 obtain ⟨⟨a, b, c, d⟩, e, f⟩ := x
 obtain ⟨⟨a', b', c', d'⟩, e', f'⟩ := y
 simp only [mapMo.enc, Value.agg.injEq, Array.mk.injEq, List.cons.injEq, Value.int.injEq, true_and, and_true] at h
 obtain ⟨rfl, rfl, rfl, rfl, rfl, rfl⟩ := h
 rfl
theorem mapMo.kl_inj {x y : S55} (hx : mapMo.wf x = true) (hy : mapMo.wf y = true) (h : mapMo.kl x = mapMo.kl y) : x = y := by
 have e1 := mapMo.hkey x hx
 have e2 := mapMo.hkey y hy
 rw [← h] at e2
 exact mapMo.enc_inj (mapMo.law.inj e1 e2)
def mapMo.setD (xs : List S55) (D : DataW Unit) : DataW Unit := xs.foldl (fun D x => D.put (mapMo.kl x) (.lit (.bool true))) D
theorem mapMo.setD_at (y : S55) (hy : mapMo.wf y = true) : ∀ (xs : List S55) (D : DataW Unit) (b : Bool), (∀ x ∈ xs, mapMo.wf x = true) → Go.Maps.IsMap D → D.atKey (mapMo.kl y) (.lit (.bool false)) = .lit (.bool b) →
  (mapMo.setD xs D).atKey (mapMo.kl y) (.lit (.bool false)) = .lit (.bool (b || xs.any fun x => mapMo.eqB x y))
 | [], D, b, _, _, h => by simpa [mapMo.setD] using h
 | x :: xs, D, b, hw, hD, h => by
  have hx := hw x (List.mem_cons_self)
  have ih := mapMo.setD_at y hy xs (D.put (mapMo.kl x) (.lit (.bool true))) (b || mapMo.eqB x y) (fun z hz => hw z (List.mem_cons_of_mem _ hz)) (hD.put _ _) (by
   by_cases e : x = y
   ·subst e
    rw [Go.Maps.atKey_put_same hD (mapMo.law.key (mapMo.hkey x hx))]
    rw [(mapMo.eqB_iff x x).2 rfl, Bool.or_true]
   ·rw [Go.Maps.atKey_put_other (fun g => e (mapMo.kl_inj hx hy g.symm)), h]
    have : mapMo.eqB x y = false := Bool.eq_false_iff.2 (fun g => e ((mapMo.eqB_iff x y).1 g))
    rw [this, Bool.or_false])
  rw [List.any_cons, ← Bool.or_assoc]
  exact ih
def mapMo.MS (w : World) (B : Nat) (xs : List S55) : Prop := (∀ x ∈ xs, mapMo.wf x = true) ∧ w.ownsMap Try.prog 55 (plainElem (H := Unit) Try.prog 4) B xs.length (mapMo.setD xs (.map []))
theorem mapMo.plain_inv {v : Value} {b : Bool} {ps : List MemPlace} (h : plainElem (H := Unit) Try.prog 4 v = some (.lit (.bool b), ps)) : v = .bool b := by
 unfold plainElem at h
 rw [Try.underlying4] at h
 cases v <;> simp at h
 rw [h.1]
theorem mapMo.MS_run {w : World} {B : Nat} {xs : List S55} (h : mapMo.MS w B xs) (y : S55) (hy : mapMo.wf y = true) :
  (Instr.lookup 82 (.map (some B)) (mapMo.enc y) false).run Try.prog w = .ok (.bool (xs.any fun x => mapMo.eqB x y)) w := by
 obtain ⟨v, ps, hrun, hv⟩ := h.2.lookup (e := 4) mapMo.law Try.underlying82 (z := .bool false) (by kernel_rfl) (plainElem_bool Try.underlying4 false) (mapMo.hkey y hy)
 rw [mapMo.setD_at y hy xs (.map []) false h.1 Go.Maps.isMap_empty rfl, Bool.false_or] at hv
 rw [hrun, mapMo.plain_inv hv]
theorem mapMo.MS_ne {w : World} {B : Nat} {xs : List S55} (h : mapMo.MS w B xs) {g : Nat} {cs : Array Value} {t : TypeId} {p : Nat × Nat} (b : w.heap[g]? = some (.cells cs t p)) : B ≠ g := by
 obtain ⟨-, es, clock, hb, -⟩ := h
 rintro rfl
 rw [hb] at b
 cases b
theorem mapMo.MS_move {w w1 : World} {B : Nat} {xs : List S55} (h : mapMo.MS w B xs) (hm : w1.heap[B]? = w.heap[B]?) : mapMo.MS w1 B xs := by
 obtain ⟨h0, es, clock, hb, r⟩ := h
 exact ⟨h0, es, clock, hm.trans hb, r⟩
theorem mapMo.MS_below {w w1 : World} {B : Nat} {xs : List S55} (h : mapMo.MS w B xs) (hb : Below w.heap.size w w1) : mapMo.MS w1 B xs := mapMo.MS_move h (hb.block B h.2.lt)
theorem mapMo.MS_alloc {w : World} {B : Nat} {xs : List S55} (h : mapMo.MS w B xs) (o : Obj) : mapMo.MS (w.alloc o) B xs := mapMo.MS_below h (qo (Below.refl _ _) _)
theorem mapMo.MS_drewN {w : World} {B : Nat} {xs : List S55} (h : mapMo.MS w B xs) (n : Nat) : mapMo.MS (w.drewN n) B xs := h
theorem mapMo.MS_drew {w : World} {B : Nat} {xs : List S55} (h : mapMo.MS w B xs) : mapMo.MS w.drew B xs := h
theorem mapMo.MS_set {w : World} {B : Nat} {xs : List S55} {g j : Nat} {v : Value} (h : mapMo.MS w B xs) (hne : B ≠ g) : mapMo.MS (w.setCell ⟨g, j, none⟩ v) B xs := mapMo.MS_move h (Below.heap_setCell w _ v B hne)
theorem mapMo.MS_over {w w1 : World} {B : Nat} {xs : List S55} (h : mapMo.MS w B xs) {v : Value} {e' : Nat} (hty : ∀ k, v.ownBlock = some k → ∃ cells, w.heap[k]? = some (.cells cells e' (0, 0))) (hg : w.grownBy w1 v.ownBlock) : mapMo.MS w1 B xs :=
 mapMo.MS_move h (hg.block B h.2.lt (fun e => by obtain ⟨cs, hc⟩ := hty B e.symm; exact mapMo.MS_ne h hc rfl))
theorem mapMo.R_map {α : Type} {d : Kd α} {e : Nat} {w w1 : World} {base : Nat} {ok : Nat → Prop} {v : Value} {l : List α} (h : d.R e w base ok v l) {B : Nat} {xs : List S55} (hM : mapMo.MS w B xs) (hg : w.grownBy w1 (some B)) : d.R e w1 base ok v l :=
 Kd.R_mono (Kd.R_move (Kd.R_bound h) (fun k hk => by
  obtain ⟨_, _, hlt, _, _, cs, hc⟩ := hk
  exact hg.block k hlt (fun e => (mapMo.MS_ne hM hc) (Option.some.inj e).symm))) (fun _ hk => hk.1)
def mapMo.has (_ : Nat) (xs : List S55) (y0 y1 y2 y3 y4 y5 : Int) : Option Bool := if mapMo.wf ⟨⟨y0, y1, y2, y3⟩, ⟨y4, y5⟩⟩ = true then some (xs.any fun x => mapMo.eqB x ⟨⟨y0, y1, y2, y3⟩, ⟨y4, y5⟩⟩) else none
theorem mapMo.has_mono : ∀ (xs : List S55) (y0 y1 y2 y3 y4 y5 : Int) (k : Nat), LeO (mapMo.has k xs y0 y1 y2 y3 y4 y5) (mapMo.has (k + 1) xs y0 y1 y2 y3 y4 y5) := fun _ _ _ _ _ _ _ _ => LeO.refl _
theorem mapMo.has_inv {k : Nat} {xs : List S55} {y0 y1 y2 y3 y4 y5 : Int} {r : Bool} (A : mapMo.has k xs y0 y1 y2 y3 y4 y5 = some r) : mapMo.wf ⟨⟨y0, y1, y2, y3⟩, ⟨y4, y5⟩⟩ = true ∧ (xs.any fun x => mapMo.eqB x ⟨⟨y0, y1, y2, y3⟩, ⟨y4, y5⟩⟩) = r := by
 unfold mapMo.has at A
 by_cases h : mapMo.wf ⟨⟨y0, y1, y2, y3⟩, ⟨y4, y5⟩⟩ = true
 ·rw [if_pos h] at A; exact ⟨h, Option.some.inj A⟩
 ·rw [if_neg h] at A; cases A
theorem mapMo.blk_put {w w1 : World} {g : Nat} {cs : Array Value} {t : TypeId} (h : w.heap[g]? = some (.cells cs t (0, 0))) {B : Nat} {xs : List S55} (hM : mapMo.MS w B xs) (hg : w.grownBy w1 (some B)) : w1.heap[g]? = some (.cells cs t (0, 0)) :=
 (hg.block g (blk_lt h) (fun e => mapMo.MS_ne hM h (Option.some.inj e).symm)).trans h
theorem mapMo.below_put {w W w1 : World} {g : Nat} (h : Below w.heap.size w W) (hB : w.heap.size ≤ g) (hg : W.grownBy w1 (some g)) : Below w.heap.size w w1 :=
 h.trans ⟨hg.os, hg.tape, hg.output, hg.size, fun i hi => hg.block i (Nat.lt_of_lt_of_le hi h.size) (fun e => by have := Option.some.inj e; omega)⟩
section
variable {ops : Array Oper} {rest : List Oper} {o : Oper} {a : Act} {Q : Exit → Act → World → Prop} {Kc : Act → World → Prop} {W : World}
theorem mapMo.make_event (hgd : o.guard = none) {N : Tmp} (_hd : o.dst = some N) (hrun : (execOp a.eval o).run Try.prog W = .ok (.value (.map (some W.heap.size))) (W.alloc (.map #[] 0)))
  (h : ∀ g, g = W.heap.size → ∀ w1, mapMo.MS w1 g [] → Below W.heap.size W w1 → wpList Try.prog ops Q rest (a.put o.dst (.map (some g))) w1) : wpList Try.prog ops Q (o :: rest) a W :=
 Kd.event_run hgd hrun (h _ rfl _ ⟨fun _ hx => absurd hx (by simp), World.ownsMap_made W _ _ _⟩ (qo (Below.refl _ _) _))
theorem mapMo.put_event (hgd : o.guard = none) (m x v : Operand) (hop : o.op = Op.mapUpdate 82 m x v) {B : Nat} {xs : List S55} (hm : a.eval m = .map (some B)) (hM : mapMo.MS W B xs) (y : S55) (hx : a.eval x = mapMo.enc y) (hv : a.eval v = .bool true) (hy : mapMo.wf y = true) (hn : xs.length < 2932031007402)
  (h : ∀ w1, mapMo.MS w1 B (xs ++ [y]) → W.grownBy w1 (some B) → wpList Try.prog ops Q rest (a.put o.dst undef) w1) : wpList Try.prog ops Q (o :: rest) a W :=
 wpList_mapUpdate_own W hgd m x v 82 hop 55 4 mapMo.law Try.underlying82 (plainElem (H := Unit) Try.prog 4) B xs.length _ hm hM.2 (by unfold maxLen; omega) _ _ _ hx hv (mapMo.hkey y hy) _ [] (plainElem_bool Try.underlying4 true)
  (fun w' h1 h2 => h w' ⟨fun z hz => by
   rcases List.mem_append.1 hz with hz | hz
   ·exact hM.1 z hz
   ·rw [List.mem_singleton.1 hz]; exact hy, by
   rw [List.length_append]
   unfold mapMo.setD at h1 ⊢
   rw [List.foldl_append]
   exact h1⟩ h2)
theorem mapMo.gate_ins {t : TypeId} {m x v : Operand} (_h : o.op = Op.insert t m x v) (h : wpList Try.prog ops Q (o :: rest) a W) : wpList Try.prog ops Q (o :: rest) a W := h
theorem mapMo.ins_event (hgd : o.guard = none) (m x v : Operand) (hop : o.op = Op.insert 82 m x v) {B : Nat} {xs : List S55} (hm : a.eval m = .map (some B)) (hM : mapMo.MS W B xs) (y : S55) (hx : a.eval x = mapMo.enc y) (hv : a.eval v = .bool true) (hy : mapMo.wf y = true) (hn : xs.length < 2932031007402)
  (h : ∀ w1, mapMo.MS w1 B (xs ++ [y]) → W.grownBy w1 (some B) → wpList Try.prog ops Q rest (a.put o.dst undef) w1) : wpList Try.prog ops Q (o :: rest) a W := by
 refine wpList_plain hgd fun K' hK' => ?_
 obtain ⟨w', hrun, r1, r2⟩ := hM.2.update mapMo.law Try.underlying82 (R := plainElem (H := Unit) Try.prog 4) (by unfold maxLen; omega) (mapMo.hkey y hy) (plainElem_bool Try.underlying4 true)
 unfold Oper.wp
 simp [execOp, hop, hm, hx, hv, hrun, Result.andThen]
 refine hK' _ _ (h w' ⟨fun z hz => ?_, ?_⟩ r2)
 ·rcases List.mem_append.1 hz with hz | hz
  ·exact hM.1 z hz
  ·rw [List.mem_singleton.1 hz]; exact hy
 ·rw [List.length_append];unfold mapMo.setD at r1 ⊢;rw [List.foldl_append];exact r1
theorem mapMo.get_has {k : Nat} {xs : List S55} {y0 y1 y2 y3 y4 y5 : Int} {r : Bool} (A : mapMo.has k xs y0 y1 y2 y3 y4 y5 = some r) (hgd : o.guard = none) (m x : Operand) (hop : o.op = Op.lookup 82 m x false) {B : Nat} (hm : a.eval m = .map (some B)) (hM : mapMo.MS W B xs) (hx : a.eval x = mapMo.enc ⟨⟨y0, y1, y2, y3⟩, ⟨y4, y5⟩⟩)
  (h : wpList Try.prog ops Q rest (a.put o.dst (.bool r)) W) : wpList Try.prog ops Q (o :: rest) a W := by
 obtain ⟨hy, hr⟩ := mapMo.has_inv A
 subst hr
 exact Kd.event_run hgd (by simp [execOp, hop, hm, hx, mapMo.MS_run hM _ hy, Result.andThen]) h
theorem mapMo.get_call {k : Nat} {xs : List S55} {y0 y1 y2 y3 y4 y5 : Int} {r : Bool} (A : mapMo.has k xs y0 y1 y2 y3 y4 y5 = some r) (hgd : o.guard = none) (m x : Operand) (hop : o.op = Op.lookup 82 m x false) {B : Nat} (hm : a.eval m = .map (some B)) (hM : mapMo.MS W B xs) (hx : a.eval x = mapMo.enc ⟨⟨y0, y1, y2, y3⟩, ⟨y4, y5⟩⟩)
  (h : ∀ w1, Below W.heap.size W w1 → wpList Try.prog ops Q rest (a.put o.dst (.bool r)) w1) : wpList Try.prog ops Q (o :: rest) a W := mapMo.get_has A hgd m x hop hm hM hx (h W (Below.refl _ _))
theorem mapMo.get_step {k : Nat} {xs : List S55} {y0 y1 y2 y3 y4 y5 : Int} {r : Bool} (A : mapMo.has k xs y0 y1 y2 y3 y4 y5 = some r) (hw : Region.wanted o (yielded ops a.tmps) = true) {N : Option Tmp} (hN : o.dst = N) (m x : Operand) (hop : o.op = Op.lookup 82 m x false) {B : Nat} (hm : a.eval m = .map (some B)) (hM : mapMo.MS W B xs) (hx : a.eval x = mapMo.enc ⟨⟨y0, y1, y2, y3⟩, ⟨y4, y5⟩⟩)
  (h : Kc (a.put N (.bool r)) W) : if Region.wanted o (yielded ops a.tmps) = true then Oper.wp Try.prog o a W Kc Q else Kc (a.put N undef) W := by
 obtain ⟨hy, hr⟩ := mapMo.has_inv A
 subst hr
 subst hN
 exact event_step hw (by simp [execOp, hop, hm, hx, mapMo.MS_run hM _ hy, Result.andThen]) h
end
end Go.Proofs.Ytedmadofpdkekaa.PA
