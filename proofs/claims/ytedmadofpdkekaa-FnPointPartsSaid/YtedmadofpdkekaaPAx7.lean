import Derived.Test.YtedmadofpdkekaaPAx0
import Derived.Test.YtedmadofpdkekaaPAx1
import Derived.Test.YtedmadofpdkekaaPAx6
namespace Go.Proofs.Ytedmadofpdkekaa.PA
open Go.RowKit Go.Proofs.YtedmadofpdkekaaW.PrintWords Go.Proofs.YtedmadofpdkekaaW.PrintLast Go.Proofs.YtedmadofpdkekaaW.PrintMore
attribute [local go_sem] max2_int min2_int max_two min_two max_three min_three max_four min_four   -- for this text's walks alone
set_option linter.unusedVariables false
set_option maxHeartbeats 8000000
set_option maxRecDepth 100000
set_option linter.unusedSimpArgs false
def spec_l04Keeps.f (a0 : Int) (Ap : Int) (Ar : Int) (Aq : Int) (As : Int) : Option (Bool) := (spec_l04Norm.f a0 Ap Aq).bind fun At => (if At = 1 then ((spec_l04Norm.f a0 Ar As).bind fun Au => (if Au = 1 then ((spec_l01Add.f Ap Aq Ar As).bind fun Av => ((spec_l04Norm.f a0 Av.1 Av.2).bind fun Az => (some (Az == (wrap64 (2 + a0)))))) else (some false))) else (some false))
def spec_l04Keeps.T1 : Bool × List (List Nat × List Nat) := (true, [([], []), ([0], [0]), ([], []), ([2], [2]), ([1, 3], [1, 3]), ([], []), ([5], [5]), ([], []), ([7], [7]), ([6, 8], [6, 8]), ([], []), ([], []), ([10, 4, 0, 1, 2, 3, 4, 10, 11], [4, 10]), ([11, 9, 12, 0, 1, 2, 3, 4, 5, 6, 7, 8, 9, 10, 11, 12], [9, 11])])
def spec_l04Keeps.B1 : List Nat := [0, 1, 0, 4, 15, 0, 32, 0, 128, 480, 0, 0, 3103, 8191]
theorem spec_l04Keeps.tab1 : rtab .any (opsOf Try.f88 1) = spec_l04Keeps.T1 := by kernel_rfl
theorem spec_l04Keeps.bits1 : waitsOk spec_l04Keeps.T1.2 spec_l04Keeps.B1 = true := by kernel_rfl
theorem spec_l04Keeps.calls (a0 : Int) (Ap : Int) (Ar : Int) (Aq : Int) (As : Int) (r : Bool) (w : World) (h : spec_l04Keeps.f a0 Ap Ar Aq As = some r) :
  Calls Try.prog 88 #[.int .i64 a0, .agg #[.int .i64 Ap, .int .i64 Ar, .int .i64 Aq, .int .i64 As]] w fun e w' => e = .returned (.bool r) ∧ Below w.heap.size w w' := by
 have hu51 := Try.underlying51
 have hu53 := Try.underlying53
 have HB := asd (Below.refl w.heap.size w)
 have H : ((spec_l04Norm.f a0 Ap Aq).bind fun At => (if At = 1 then ((spec_l04Norm.f a0 Ar As).bind fun Au => (if Au = 1 then ((spec_l01Add.f Ap Aq Ar As).bind fun Av => ((spec_l04Norm.f a0 Av.1 Av.2).bind fun Az => (some (Az == (wrap64 (2 + a0)))))) else (some false))) else (some false))) = some r := h
 clear h
 obtain ⟨At, A3, H⟩ := ob H
 try dsimp only at H
 by_cases c4 : At = 1
 rw [if_pos c4] at H
 have Bi : (At == 1) = true := beq_iff_eq.mpr c4
 have Bj : (At != 1) = false := bne_eq_false_iff_eq.mpr c4
 clear c4
 obtain ⟨Au, A5, H⟩ := ob H
 try dsimp only at H
 by_cases c6 : Au = 1
 rw [if_pos c6] at H
 have Bk : (Au == 1) = true := beq_iff_eq.mpr c6
 have Bl : (Au != 1) = false := bne_eq_false_iff_eq.mpr c6
 clear c6
 obtain ⟨⟨BE, BF⟩, A7, H⟩ := ob H
 try dsimp only at H
 obtain ⟨Az, A8, H⟩ := ob H
 try dsimp only at H
 obtain rfl := Option.some.inj H
 rotate_left
 rw [if_neg c6] at H
 have Bk : (Au == 1) = false := beq_eq_false_iff_ne.mpr c6
 have Bl : (Au != 1) = true := bne_iff_ne.mpr c6
 obtain rfl := Option.some.inj H
 rotate_left
 rw [if_neg c4] at H
 have Bi : (At == 1) = false := beq_eq_false_iff_ne.mpr c4
 have Bj : (At != 1) = true := bne_iff_ne.mpr c4
 obtain rfl := Option.some.inj H
 rotate_left
 all_goals
  go_enter Try.func88, Try.ntmps88
  try go_wp2_with (first | ((with_reducible refine gd 3 rfl ?_); refine bx #[.int .i64 Ap, .int .i64 Ar, .int .i64 Aq, .int .i64 As] 51 ?_; intro Ai hg w9 Aa hb; have Ah := ngw0 hg HB; replace HB := bS0 HB hb; clear hb hg))
  replace Aa := asd (blk_drew Aa.out);replace HB := asd (qm HB.out);refine sh 14 (eb4 Aa) (fun hHeld => ?_); refine with_tabW spec_l04Keeps.tab1 spec_l04Keeps.bits1 (fun HT_ HW_ => ?_);generalize w9.drew = BI at Aa HB hHeld ⊢;refine pu 0 (some 7) (bT 14 1) HT_ ?_;refine pu 2 (some 9) (bs 14 5) HT_ ?_;refine pu 5 (some 12) (bs 14 37) HT_ ?_;refine pu 7 (some 14) (bs 14 165) HT_ ?_;refine ta 1 (some 8) (bs 14 167) HT_ HW_ hHeld ?_;refine ta 3 (some 10) (bs 14 175) HT_ HW_ hHeld ?_;refine pu 4 (some 11) (bs 14 191) HT_ ?_;refine ta 6 (some 13) (bT 14 8) HT_ HW_ hHeld ?_;refine ta 8 (some 15) (bT 14 9) HT_ HW_ hHeld ?_;refine pu 9 (some 16) (bT 14 10) HT_ ?_;refine join_ (σ := Nat × Nat) 2 (bT 14 12) (fun s_ => [(5, .pointer (some ⟨s_.1, 0, none⟩)), (6, .pointer (some ⟨s_.2, 0, none⟩))]) (fun s_ w' => (w'.cell? ⟨Ai, 0, none⟩ = some (.int .i64 Ap) ∧ w'.cell? ⟨Ai, 1, none⟩ = some (.int .i64 Ar) ∧ w'.cell? ⟨Ai, 2, none⟩ = some (.int .i64 Aq) ∧ w'.cell? ⟨Ai, 3, none⟩ = some (.int .i64 As)) ∧ (w'.heap[Ai]? = some (.cells #[.int .i64 Ap, .int .i64 Ar, .int .i64 Aq, .int .i64 As] 51 (0, 0))) ∧ (w'.heap[s_.1]? = some (.cells #[.int .i64 0, .int .i64 0] 53 (0, 0))) ∧ (w'.heap[s_.2]? = some (.cells #[.int .i64 0, .int .i64 0] 53 (0, 0))) ∧ (w.heap.size ≤ s_.1) ∧ (w.heap.size ≤ s_.1) ∧ (Ai ≠ s_.1) ∧ (s_.1 ≠ Ai) ∧ (s_.2 ≠ s_.1) ∧ (s_.1 ≠ s_.2) ∧ (w.heap.size ≤ s_.2) ∧ (w.heap.size ≤ s_.2) ∧ (Ai ≠ s_.2) ∧ (s_.2 ≠ Ai) ∧ (Below w.heap.size w w')) ?_ ?_;rotate_left
  ·intro hCont;refine two_ (i := 10) (j := 11) (Ni := some 5) (Nj := some 6) (bT 14 11) (bs 14 3071) rfl rfl rfl rfl (two_of HT_.out (by kernel_rfl)) (by decide) (by decide) (fun K hK => ?_) (fun K hK => ?_)
   ·skip
    refine box_step ?hg (N := 5) ?hd (cs := #[.int .i64 0, .int .i64 0]) (t := 53) ?hr ?_; (case hd => rfl); (case hg => rfl); (case hr => first | (go_simp; done) | (go_simp; rfl));intro An hg BG hbox hb;have Ag := asd (hbox);have Aw := ngw1 hg HB Ah;have Al := ngw1 hg HB Ah;replace HB := bS1 HB Ah hb;have Ac := nlt hg Aa;have Ak := nsy (nlt hg Aa);replace Aa := bB Aa hb;clear hb hbox hg;refine hK.out _ _ (eb4 Aa).out (fun hHeld => ?_);clear hK K;refine norm_ (a' := ?_) ?_ ?_;rotate_left
    ·show Act.put _ (some 5) _ = _
     simp only [Act.put, sA, sB, sC, i64_w, i32_w];rfl
    refine ro 11 (some 6) (bT 14 12) HT_ (fun K hK => ?_);refine box_step ?hg (N := 6) ?hd (cs := #[.int .i64 0, .int .i64 0]) (t := 53) ?hr ?_; (case hd => rfl); (case hg => rfl); (case hr => first | (go_simp; done) | (go_simp; rfl));intro Ao hg BH hbox hb;have Af := asd (hbox);have Ax := ngw2 hg HB Ah Al;have Am := ngw2 hg HB Ah Al;replace HB := bS2 HB Ah Al hb;have Ab := nlt hg Aa;have Aj := nsy (nlt hg Aa);replace Aa := bB Aa hb;have Ad := nlt hg Ag;have Ae := nsy (nlt hg Ag);replace Ag := bB Ag hb;clear hb hbox hg;refine hK.out _ _ (eb4 Aa).out (fun hHeld => ?_);clear hK K;refine norm_ (a' := ?_) ?_ ?_;rotate_left
    ·show Act.put _ (some 6) _ = _
     simp only [Act.put, sA, sB, sC, i64_w, i32_w];rfl
    exact norm_ (by simp only [putAll, Act.put, sA, sB, sC]) (hCont (An, Ao) _ ⟨hHeld, (bkp Aa), (bkp Ag), (bkp Af), Aw.out, Al.out, Ac.out, Ak.out, Ae.out, Ad.out, Ax.out, Am.out, Ab.out, Aj.out, (bbw3 HB Ah Al Am)⟩)
   ·skip
    refine box_step ?hg (N := 6) ?hd (cs := #[.int .i64 0, .int .i64 0]) (t := 53) ?hr ?_; (case hd => rfl); (case hg => rfl); (case hr => first | (go_simp; done) | (go_simp; rfl));intro Ao hg BG hbox hb;have Af := asd (hbox);have Ax := ngw1 hg HB Ah;have Am := ngw1 hg HB Ah;replace HB := bS1 HB Ah hb;have Ab := nlt hg Aa;have Aj := nsy (nlt hg Aa);replace Aa := bB Aa hb;clear hb hbox hg;refine hK.out _ _ (eb4 Aa).out (fun hHeld => ?_);clear hK K;refine norm_ (a' := ?_) ?_ ?_;rotate_left
    ·show Act.put _ (some 6) _ = _
     simp only [Act.put, sA, sB, sC, i64_w, i32_w];rfl
    refine ro 10 (some 5) (bT 14 12) HT_ (fun K hK => ?_);refine box_step ?hg (N := 5) ?hd (cs := #[.int .i64 0, .int .i64 0]) (t := 53) ?hr ?_; (case hd => rfl); (case hg => rfl); (case hr => first | (go_simp; done) | (go_simp; rfl));intro An hg BH hbox hb;have Ag := asd (hbox);have Aw := ngw2 hg HB Ah Am;have Al := ngw2 hg HB Ah Am;replace HB := bS2 HB Ah Am hb;have Ac := nlt hg Aa;have Ak := nsy (nlt hg Aa);replace Aa := bB Aa hb;have Ae := nlt hg Af;have Ad := nsy (nlt hg Af);replace Af := bB Af hb;clear hb hbox hg;refine hK.out _ _ (eb4 Aa).out (fun hHeld => ?_);clear hK K;refine norm_ (a' := ?_) ?_ ?_;rotate_left
    ·show Act.put _ (some 5) _ = _
     simp only [Act.put, sA, sB, sC, i64_w, i32_w];rfl
    exact norm_ (by simp only [putAll, Act.put, sA, sB, sC]) (hCont (An, Ao) _ ⟨hHeld, (bkp Aa), (bkp Ag), (bkp Af), Aw.out, Al.out, Ac.out, Ak.out, Ae.out, Ad.out, Ax.out, Am.out, Ab.out, Aj.out, (bbw3 HB Ah Am Al)⟩)
  rintro ⟨An, Ao⟩ Ay ⟨hS_, h0_, h1_, h2_, h3_, h4_, h5_, h6_, h7_, h8_, h9_, h10_, h11_, h12_, h13_⟩;have Bm : Aside0 (Ay.heap[Ai]? = some (.cells #[.int .i64 Ap, .int .i64 Ar, .int .i64 Aq, .int .i64 As] 51 (0, 0))) := ⟨h0_⟩;have Bn : Aside0 (Ay.heap[An]? = some (.cells #[.int .i64 0, .int .i64 0] 53 (0, 0))) := ⟨h1_⟩;have Bo : Aside0 (Ay.heap[Ao]? = some (.cells #[.int .i64 0, .int .i64 0] 53 (0, 0))) := ⟨h2_⟩;have Bp : Aside0 (w.heap.size ≤ An) := ⟨h3_⟩;have Bq : Aside0 (w.heap.size ≤ An) := ⟨h4_⟩;have Br : Aside0 (Ai ≠ An) := ⟨h5_⟩;have Bs : Aside0 (An ≠ Ai) := ⟨h6_⟩;have Bt : Aside0 (Ao ≠ An) := ⟨h7_⟩;have Bu : Aside0 (An ≠ Ao) := ⟨h8_⟩;have Bv : Aside0 (w.heap.size ≤ Ao) := ⟨h9_⟩;have AA : Aside0 (w.heap.size ≤ Ao) := ⟨h10_⟩;have AB : Aside0 (Ai ≠ Ao) := ⟨h11_⟩;have AC : Aside0 (Ao ≠ Ai) := ⟨h12_⟩;have AD : Aside0 (Below w.heap.size w Ay) := ⟨h13_⟩;clear Aa;clear HB;clear h0_ h1_ h2_ h3_ h4_ h5_ h6_ h7_ h8_ h9_ h10_ h11_ h12_ h13_;have Aa := Bm;have Ag := Bn;have Af := Bo;have Aw := Bp;have Al := Bq;have Ac := Br;have Ak := Bs;have Ae := Bt;have Ad := Bu;have Ax := Bv;have Am := AA;have Ab := AB;have Aj := AC;have HB := AD;clear Bm Bn Bo Bp Bq Br Bs Bt Bu Bv AA AB AC AD;have hHeld : Ay.cell? ⟨Ai, 0, none⟩ = some (.int .i64 Ap) ∧ Ay.cell? ⟨Ai, 1, none⟩ = some (.int .i64 Ar) ∧ Ay.cell? ⟨Ai, 2, none⟩ = some (.int .i64 Aq) ∧ Ay.cell? ⟨Ai, 3, none⟩ = some (.int .i64 As) := hS_;refine norm_ (a' := ?_) ?_ ?_;rotate_left
  ·simp only [putAll, Act.put, sA, sB, sC];rfl
  refine ro 12 (none) (bT 14 13) HT_ (fun K hK => ?_);have hs14 : Ay.cell? ⟨An, 0, none⟩ = some (.int .i64 0) := bcl Ag 0;have hfs14 := blk_frozen Ag.out 0;have AE := Ac.out;have AF := Ae.out;have AG := Ak.out;have AH := Ad.out;have hs15 : Ay.cell? ⟨An, 1, none⟩ = some (.int .i64 0) := bcl Ag 1;have hfs15 := blk_frozen Ag.out 1;have AI := Ac.out;have AJ := Ae.out;have AK := Ak.out;have AL := Ad.out;refine skip_ (w1 := ?_) (by rfl) rfl ?_ ?_;rotate_left
  ·go_simp;rfl
  refine hK.out _ _ ⟨(cf2 Ac (hHeld.1)), (cf2 Ac (hHeld.2.1)), (cf2 Ac (hHeld.2.2.1)), (cf2 Ac (hHeld.2.2.2))⟩ (fun hHeld => ?_);clear hK K;refine ro 13 (none) (bT 14 14) HT_ (fun K hK => ?_);have hs16 : Ay.cell? ⟨Ao, 0, none⟩ = some (.int .i64 0) := bcl Af 0;have hfs16 := blk_frozen Af.out 0;have AM := Ab.out;have AN := Ad.out;have AO := Aj.out;have AP := Ae.out;have hs17 : Ay.cell? ⟨Ao, 1, none⟩ = some (.int .i64 0) := bcl Af 1;have hfs17 := blk_frozen Af.out 1;have AQ := Ab.out;have AR := Ad.out;have AS := Aj.out;have AT := Ae.out;refine skip_ (w1 := ?_) (by rfl) rfl ?_ ?_;rotate_left
  ·go_simp;rfl
  refine hK.out _ _ ⟨(cf2 Ab (hHeld.1)), (cf2 Ab (hHeld.2.1)), (cf2 Ab (hHeld.2.2.1)), (cf2 Ab (hHeld.2.2.2))⟩ (fun hHeld => ?_);clear hK K;refine done_ (done_of HT_.out (by kernel_rfl)) ?_;have Bw := Ak.out;have Bx := Ac.out;have By := Ad.out;have Bz := Ae.out;obtain ⟨AU, AV, AW, AX⟩ := bz2 Ag
 try go_wp2_with (first | ((with_reducible refine gate_callee (f := 96) rfl ?_); refine gl 19 Try.func96 #[.int .i64 a0, .agg #[.int .i64 Ap, .int .i64 Aq]] ?_; (with_reducible refine (spec_l04Norm.calls _ _ _ _ _ A3.out).mono ?_); rintro e BJ ⟨rfl, hb⟩; refine ⟨_, rfl, ?_⟩; replace Aa := asd (blk_below (g := Ai) (o := .cells #[.int .i64 Ap, .int .i64 Ar, .int .i64 Aq, .int .i64 As] 51 (0, 0)) (bq2 Aa Ab Ac) hb); replace Ag := asd (blk_below (g := An) (o := .cells #[.int .i64 Ap, .int .i64 Aq] 53 (0, 0)) (bq1 Ag Ad) hb); replace Af := asd (blk_below (g := Ao) (o := .cells #[.int .i64 Ar, .int .i64 As] 53 (0, 0)) (bq1 Af Ae) hb); replace HB := bS3 HB Ah Al Am hb; (try clear hb); have BA := Aj.out; have BB := Ab.out; obtain ⟨AY, AZ, A0, A1⟩ := bz2 Af) | (go_at_call 96; (with_reducible refine (spec_l04Norm.calls _ _ _ _ _ A5.out).mono ?_); rintro e BK ⟨rfl, hb⟩; replace Aa := bB Aa hb; replace Ag := bB Ag hb; replace Af := bB Af hb; replace HB := bS3 HB Ah Al Am hb; (try clear hb); obtain ⟨A2, A4, A6, A9⟩ := bz2 Ag; obtain ⟨Ba, Bb, Bc, Bd⟩ := bz2 Af) | (go_at_call 67; (with_reducible refine (spec_l01Add.calls _ _ _ _ _ _ _ A7.out).mono ?_); rintro e BL ⟨rfl, hb⟩; replace Aa := bB Aa hb; replace Ag := bB Ag hb; replace Af := bB Af hb; replace HB := bS3 HB Ah Al Am hb; (try clear hb)) | (go_at_call 96; (with_reducible refine (spec_l04Norm.calls _ _ _ _ _ A8.out).mono ?_); rintro e BM ⟨rfl, hb⟩; replace Aa := bB Aa hb; replace Ag := bB Ag hb; replace Af := bB Af hb; replace HB := bS3 HB Ah Al Am hb; (try clear hb)))
 rotate_left
 try go_wp2_with (first | ((with_reducible refine gate_callee (f := 96) rfl ?_); refine gl 19 Try.func96 #[.int .i64 a0, .agg #[.int .i64 Ap, .int .i64 Aq]] ?_; (with_reducible refine (spec_l04Norm.calls _ _ _ _ _ A3.out).mono ?_); rintro e BN ⟨rfl, hb⟩; refine ⟨_, rfl, ?_⟩; replace Aa := asd (blk_below (g := Ai) (o := .cells #[.int .i64 Ap, .int .i64 Ar, .int .i64 Aq, .int .i64 As] 51 (0, 0)) (bq2 Aa Ab Ac) hb); replace Ag := asd (blk_below (g := An) (o := .cells #[.int .i64 Ap, .int .i64 Aq] 53 (0, 0)) (bq1 Ag Ad) hb); replace Af := asd (blk_below (g := Ao) (o := .cells #[.int .i64 Ar, .int .i64 As] 53 (0, 0)) (bq1 Af Ae) hb); replace HB := bS3 HB Ah Al Am hb; (try clear hb); have BC := Aj.out; have BD := Ab.out; obtain ⟨Be, Bf, Bg, Bh⟩ := bz2 Af) | (go_at_call 96; (with_reducible refine (spec_l04Norm.calls _ _ _ _ _ A5.out).mono ?_); rintro e BO ⟨rfl, hb⟩; replace Aa := bB Aa hb; replace Ag := bB Ag hb; replace Af := bB Af hb; replace HB := bS3 HB Ah Al Am hb; (try clear hb)))
 rotate_left
 try go_wp2_with (first | ((with_reducible refine gate_callee (f := 96) rfl ?_); refine gl 19 Try.func96 #[.int .i64 a0, .agg #[.int .i64 Ap, .int .i64 Aq]] ?_; (with_reducible refine (spec_l04Norm.calls _ _ _ _ _ A3.out).mono ?_); rintro e BP ⟨rfl, hb⟩; refine ⟨_, rfl, ?_⟩; replace Aa := asd (blk_below (g := Ai) (o := .cells #[.int .i64 Ap, .int .i64 Ar, .int .i64 Aq, .int .i64 As] 51 (0, 0)) (bq2 Aa Ab Ac) hb); replace Ag := asd (blk_below (g := An) (o := .cells #[.int .i64 Ap, .int .i64 Aq] 53 (0, 0)) (bq1 Ag Ad) hb); replace Af := asd (blk_below (g := Ao) (o := .cells #[.int .i64 Ar, .int .i64 As] 53 (0, 0)) (bq1 Af Ae) hb); replace HB := bS3 HB Ah Al Am hb; (try clear hb)))
 rotate_left
 all_goals
  go_ret
  exact er (bbw3 HB Ah Al Am)
attribute [local go_sem high] eqA25
def spec_l04Mats.l0 : Nat → Int → List (S51) → Int → Option ((List (S51)))
 | 0, _, _, _ => none
 | k + 1, x0, x3, x4 => if x4 < 81 then ((spec_l04Keeps.f x0 (wrap64 ((wrap64 (Int.tdiv x4 27)) - 1)) (wrap64 ((Int.tmod (wrap64 (Int.tdiv x4 9)) 3) - 1)) (wrap64 ((Int.tmod (wrap64 (Int.tdiv x4 3)) 3) - 1)) (wrap64 ((Int.tmod x4 3) - 1))).bind fun Aj => (if Aj = true then (if x3.length < 4398046511104 then (spec_l04Mats.l0 k x0 (x3 ++ [(⟨wrap64 ((wrap64 (Int.tdiv x4 27)) - 1), wrap64 ((Int.tmod (wrap64 (Int.tdiv x4 9)) 3) - 1), wrap64 ((Int.tmod (wrap64 (Int.tdiv x4 3)) 3) - 1), wrap64 ((Int.tmod x4 3) - 1)⟩ : S51)]) (wrap64 (x4 + 1))) else (none)) else (spec_l04Mats.l0 k x0 x3 (wrap64 (x4 + 1))))) else (some x3)
def spec_l04Mats.f (k : Nat) (a0 : Int) : Option ((List (S51))) := spec_l04Mats.l0 k a0 (([] : List (S51))) 0
theorem spec_l04Mats.calls (k : Nat) (a0 : Int) (r : List (S51)) (w : World) (h : spec_l04Mats.f k a0 = some r) :
  Calls Try.prog 72 #[.int .i64 a0] w fun e w' => ∃ v0_ : Value, e = .returned (v0_) ∧ Kd.R k51 51 w' w.heap.size (fun _ => True) v0_ r ∧ Below w.heap.size w w' := by
 have hu51 := Try.underlying51
 have HB := asd (Below.refl w.heap.size w)
 have H : (spec_l04Mats.l0 k a0 (([] : List (S51))) 0) = some r := h
 clear h
 obtain ⟨Ak, Af⟩ : ∃ y_ : List (S51), y_ = (([] : List (S51))) := ⟨_, rfl⟩
 replace H : (spec_l04Mats.l0 k a0 Ak 0) = some r := by first | (rw [Af]; with_reducible exact H) | (have H2_ := (Option.bind_some _ _).symm.trans H; rw [Af]; with_reducible exact H2_) | (have H2_ := (Option.bind_some _ _).symm.trans H; with_reducible exact H2_) | with_reducible exact H | (rw [Af]; exact H) | exact H
 have Ai := Aside0.mk Af
 clear Af
 have H' := Aside0.mk H
 clear H
 go_enter Try.func72, Try.ntmps72
 go_wp2_with (first | ((with_reducible refine gd 6 rfl ?_); refine Kd.R_lit k51 _ 51 ?hg (N := 6) ?hd (xs := ([] : List (S51))) (inner := []) (ok := fun _ => True) (okp := fun _ => True) ?hr ?hp (fun _ hk => hk) trivial (Below.refl _ _) (Nat.le_refl _) (by simp) ?_; (case hd => rfl); (case hg => rfl); (case hr => first | (go_simp; done) | (go_simp; rfl)); (case hp => exact (Reps.none _ _)); intro v242 w2 Al hb hg_ hnew_; clear hg_ hnew_; (first | rw [← Ai.out] at Al | (simp only [Int.reduceToNat] at Al; rw [← Ai.out] at Al)); have Am := asd (Kd.R_lower Al (bsz0 HB)); replace HB := bS0 HB hb; clear hb Al))
 go_loopg [3, 4] k (fun kq v3 v4 w' => ∃ (Ah : List (S51)) (Aa : Int), v4 = .int .i64 Aa ∧ Aside0 (spec_l04Mats.l0 kq a0 Ah Aa = some r) ∧ Aside0 (kq ≤ k) ∧ Aside0 (Kd.R k51 51 w' w.heap.size (fun _ => True) v3 Ah) ∧ Aside0 (Below w.heap.size w w'))
 case atStart => exact ⟨(Ak), (0), (by first | rfl | (simp; done) | (simp [*]; done)), H', ⟨Nat.le_refl _⟩, ⟨by (with_reducible repeat (first | apply Kd.R_alloc | apply Kd.R_drewN | apply Kd.R_drew)); exact Am.out⟩, ⟨bbw0 HB⟩⟩
 case round =>
  clear H';obtain ⟨Ah, Aa, rfl, HA, Aq, Ad, HB⟩ := hrel;cases gk with
  | zero => exact absurd HA.out (by simp [spec_l04Mats.l0])
  | succ k1 =>
   have H := HA.out;clear HA;simp only [spec_l04Mats.l0] at H;by_cases c4 : Aa < 81
   ·rw [if_pos c4] at H;have AH := qp c4;clear c4;obtain ⟨Aj, A5, H⟩ := ob H;(try dsimp only at H);by_cases c6 : Aj = true
    ·subst c6;replace H := ifT H;by_cases c7 : Ah.length < 4398046511104
     ·rw [if_pos c7] at H;have AI := Aside0.mk c7;clear c7;obtain ⟨An, Ag⟩ : ∃ y_ : List (S51), y_ = (Ah ++ [(⟨wrap64 ((wrap64 (Int.tdiv Aa 27)) - 1), wrap64 ((Int.tmod (wrap64 (Int.tdiv Aa 9)) 3) - 1), wrap64 ((Int.tmod (wrap64 (Int.tdiv Aa 3)) 3) - 1), wrap64 ((Int.tmod Aa 3) - 1)⟩ : S51)]) := ⟨_, rfl⟩;replace H : (spec_l04Mats.l0 k1 a0 An (wrap64 (Aa + 1))) = some r := by first | (rw [Ag]; with_reducible exact H) | (have H2_ := (Option.bind_some _ _).symm.trans H; rw [Ag]; with_reducible exact H2_) | (have H2_ := (Option.bind_some _ _).symm.trans H; with_reducible exact H2_) | with_reducible exact H | (rw [Ag]; exact H) | exact H
      have Ao := Aside0.mk Ag;clear Ag;have H' := Aside0.mk H;clear H;go_wp2_with (first | ((with_reducible refine gd 5 rfl ?_); refine bx #[.int .i64 0, .int .i64 0, .int .i64 0, .int .i64 0] 51 ?_; intro Ac hg w8 Ab hb; replace Ad := asd (Kd.R_below (Kd.R_elderB (kr Ad) Ac (Nat.le_of_eq hg.symm)) hb); have Ae := ngw0 hg HB; replace HB := bS0 HB hb; clear hb hg; obtain ⟨AJ, AK, AL, AM, AN, AO, AP, AQ⟩ := bz4 Ab) | ((with_reducible refine gate_callee (f := 88) rfl ?_); refine gl 28 Try.func88 #[.int .i64 a0, .agg #[.int .i64 (wrap64 ((wrap64 (Int.tdiv Aa 27)) - 1)), .int .i64 (wrap64 ((Int.tmod (wrap64 (Int.tdiv Aa 9)) 3) - 1)), .int .i64 (wrap64 ((Int.tmod (wrap64 (Int.tdiv Aa 3)) 3) - 1)), .int .i64 (wrap64 ((Int.tmod Aa 3) - 1))]] ?_; (with_reducible refine (spec_l04Keeps.calls _ _ _ _ _ _ _ A5.out).mono ?_); rintro e AU ⟨rfl, hb⟩; refine ⟨_, rfl, ?_⟩; replace Ad := asd (Kd.R_below (by (with_reducible repeat (first | apply Kd.R_alloc | apply Kd.R_drewN | apply Kd.R_drew)); exact (Kd.R_mono (rw4 (Kd.R_mono Ad.out (fun k_ hk => (⟨hk, hk.2⟩ : _ ∧ k_ ≠ Ac)))) (fun _ h_ => h_.1))) hb); replace Ab := asd (blk_below (g := Ac) (o := .cells #[.int .i64 (wrap64 ((wrap64 (Int.tdiv Aa 27)) - 1)), .int .i64 (wrap64 ((Int.tmod (wrap64 (Int.tdiv Aa 9)) 3) - 1)), .int .i64 (wrap64 ((Int.tmod (wrap64 (Int.tdiv Aa 3)) 3) - 1)), .int .i64 (wrap64 ((Int.tmod Aa 3) - 1))] 51 (0, 0)) (bq0 Ab) hb); replace HB := bS1 HB Ae hb; (try clear hb); obtain ⟨Ar, As, At, Au, Av, Aw, Ax, Ay⟩ := bz4 Ab) | ((with_reducible refine gate_builtin (b := .append) (xs := #[.tmp 29, .tmp 31]) rfl ?_); at_builtin; refine Kd.R_append k51 (w0 := w) w.heap.size rfl (.tmp 29) (.tmp 31) 29 51 (.agg #[(.int .i64 0), (.int .i64 0), (.int .i64 0), (.int .i64 0)]) 32 rfl Try.underlying29 info51 rfl (by decide) (by omega) u3 Ah (⟨wrap64 ((wrap64 (Int.tdiv Aa 27)) - 1), wrap64 ((Int.tmod (wrap64 (Int.tdiv Aa 9)) 3) - 1), wrap64 ((Int.tmod (wrap64 (Int.tdiv Aa 3)) 3) - 1), wrap64 ((Int.tmod Aa 3) - 1)⟩ : S51) [.int .i64 (wrap64 ((wrap64 (Int.tdiv Aa 27)) - 1)), .int .i64 (wrap64 ((Int.tmod (wrap64 (Int.tdiv Aa 9)) 3) - 1)), .int .i64 (wrap64 ((Int.tmod (wrap64 (Int.tdiv Aa 3)) 3) - 1)), .int .i64 (wrap64 ((Int.tmod Aa 3) - 1))] (fun k_ => k_ ≠ Ac) (fun _ => False) rfl rfl ?aP (fun _ hk => hk.elim) ?aF ?aO ?aB ?aS ?aL ?_; (case aP => exact k51_mkM _ _ _ (⟨wrap64 ((wrap64 (Int.tdiv Aa 27)) - 1), wrap64 ((Int.tmod (wrap64 (Int.tdiv Aa 9)) 3) - 1), wrap64 ((Int.tmod (wrap64 (Int.tdiv Aa 3)) 3) - 1), wrap64 ((Int.tmod Aa 3) - 1)⟩ : S51)); (case aB => exact (bbw1 HB Ae)); (case aF => exact (fun k_ hk => Kd.freshB (g := Ac) (o := .cells #[.int .i64 (wrap64 ((wrap64 (Int.tdiv Aa 27)) - 1)), .int .i64 (wrap64 ((Int.tmod (wrap64 (Int.tdiv Aa 9)) 3) - 1)), .int .i64 (wrap64 ((Int.tmod (wrap64 (Int.tdiv Aa 3)) 3) - 1)), .int .i64 (wrap64 ((Int.tmod Aa 3) - 1))] 51 (0, 0)) (bkp Ab) k_ hk)); (case aO => exact (by (with_reducible repeat (first | apply Kd.R_alloc | apply Kd.R_drewN | apply Kd.R_drew)); exact Kd.R_mono Ad.out (fun _ hk => hk.2))); (case aS => exact (bsz1 HB Ae)); (case aL => have := AI.out; omega); intro v247 AV ho hb hg hat; rw [← Ao.out] at ho; have AR := asd (blk_grown (g := Ac) (o := .cells #[.int .i64 (wrap64 ((wrap64 (Int.tdiv Aa 27)) - 1)), .int .i64 (wrap64 ((Int.tmod (wrap64 (Int.tdiv Aa 9)) 3) - 1)), .int .i64 (wrap64 ((Int.tmod (wrap64 (Int.tdiv Aa 3)) 3) - 1)), .int .i64 (wrap64 ((Int.tmod Aa 3) - 1))] 51 (0, 0)) (bkp Ab) hg (Kd.R_away Ad.out (fun _ hk => hk.2))); have AS := asd (hb); have AT := asd (ho); clear Ab; clear HB; clear Ad; have Ab := AR; have HB := AS; have Ap := AT; clear AR AS AT; clear ho hb hg hat));go_roundg k1
      case measure => have := Aq.out; omega
      case rel => exact ⟨(An), (wrap64 (Aa + 1)), (by first | rfl | (simp; done) | (simp [*]; done)), H', ⟨by have := Aq.out; omega⟩, ⟨by (with_reducible repeat (first | apply Kd.R_alloc | apply Kd.R_drewN | apply Kd.R_drew)); exact Kd.R_mono Ap.out (fun _ hk => trivial)⟩, ⟨bbw1 HB Ae⟩⟩
     ·rw [if_neg c7] at H;exact absurd H (by simp)
    ·replace c6 := Bool.eq_false_iff.mpr c6;subst c6;replace H := ifF H;have H' := Aside0.mk H;clear H;go_wp2_with (first | ((with_reducible refine gd 5 rfl ?_); refine bx #[.int .i64 0, .int .i64 0, .int .i64 0, .int .i64 0] 51 ?_; intro Ac hg AW Ab hb; replace Ad := asd (Kd.R_below (Kd.R_elderB (kr Ad) Ac (Nat.le_of_eq hg.symm)) hb); have Ae := ngw0 hg HB; replace HB := bS0 HB hb; clear hb hg; obtain ⟨Az, AA, AB, AC, AD, AE, AF, AG⟩ := bz4 Ab) | ((with_reducible refine gate_callee (f := 88) rfl ?_); refine gl 28 Try.func88 #[.int .i64 a0, .agg #[.int .i64 (wrap64 ((wrap64 (Int.tdiv Aa 27)) - 1)), .int .i64 (wrap64 ((Int.tmod (wrap64 (Int.tdiv Aa 9)) 3) - 1)), .int .i64 (wrap64 ((Int.tmod (wrap64 (Int.tdiv Aa 3)) 3) - 1)), .int .i64 (wrap64 ((Int.tmod Aa 3) - 1))]] ?_; (with_reducible refine (spec_l04Keeps.calls _ _ _ _ _ _ _ A5.out).mono ?_); rintro e AX ⟨rfl, hb⟩; refine ⟨_, rfl, ?_⟩; replace Ad := asd (Kd.R_below (by (with_reducible repeat (first | apply Kd.R_alloc | apply Kd.R_drewN | apply Kd.R_drew)); exact (Kd.R_mono (rw4 (Kd.R_mono Ad.out (fun k_ hk => (⟨hk, hk.2⟩ : _ ∧ k_ ≠ Ac)))) (fun _ h_ => h_.1))) hb); replace Ab := asd (blk_below (g := Ac) (o := .cells #[.int .i64 (wrap64 ((wrap64 (Int.tdiv Aa 27)) - 1)), .int .i64 (wrap64 ((Int.tmod (wrap64 (Int.tdiv Aa 9)) 3) - 1)), .int .i64 (wrap64 ((Int.tmod (wrap64 (Int.tdiv Aa 3)) 3) - 1)), .int .i64 (wrap64 ((Int.tmod Aa 3) - 1))] 51 (0, 0)) (bq0 Ab) hb); replace HB := bS1 HB Ae hb; (try clear hb)));go_roundg k1
     case measure => have := Aq.out; omega
     case rel => exact ⟨(Ah), (wrap64 (Aa + 1)), (by first | rfl | (simp; done) | (simp [*]; done)), H', ⟨by have := Aq.out; omega⟩, ⟨by (with_reducible repeat (first | apply Kd.R_alloc | apply Kd.R_drewN | apply Kd.R_drew)); exact Kd.R_mono Ad.out (fun _ hk => trivial)⟩, ⟨bbw1 HB Ae⟩⟩
   ·rw [if_neg c4] at H;have AH := qq c4;clear c4;obtain rfl := Option.some.inj H;go_wp2
    go_ret
    exact ⟨_, by first | rfl | (simp [errW_none, errW_some] <;> rfl) | (simp [*, errW_none, errW_some] <;> rfl), by (with_reducible repeat (first | apply Kd.R_alloc | apply Kd.R_drewN | apply Kd.R_drew)); exact Ad.out, bbw0 HB⟩
def spec_l04Stable.l0 : Nat → List (S51) → List (S51) → Int → Int → Int → Int → Option ((List (S51)))
 | 0, _, _, _, _, _, _ => none
 | k + 1, x5, x6, x7, Ai, Aj, Ak => if x7 < (x5.length : Int) then (if 0 ≤ x7 then ((spec_l04Image.f k ((rd_T51 x5 x7).f0) ((rd_T51 x5 x7).f1) ((rd_T51 x5 x7).f2) ((rd_T51 x5 x7).f3) Ai Aj Ak).bind fun Ax => (if (Ax.1 == Ai && (Ax.2.1 == Aj && (Ax.2.2 == Ak))) = true then (if x6.length < 4398046511104 then (spec_l04Stable.l0 k x5 (x6 ++ [(⟨(rd_T51 x5 x7).f0, (rd_T51 x5 x7).f1, (rd_T51 x5 x7).f2, (rd_T51 x5 x7).f3⟩ : S51)]) (wrap64 (x7 + 1)) Ai Aj Ak) else (none)) else (spec_l04Stable.l0 k x5 x6 (wrap64 (x7 + 1)) Ai Aj Ak))) else (none)) else (some x6)
def spec_l04Stable.f (k : Nat) (a0 : Int) (Ad : Int) (Ae : Int) (Af : Int) : Option ((List (S51))) := (spec_l04Mats.f k a0).bind fun Ab => (spec_l04Stable.l0 k Ab (([] : List (S51))) 0 Ad Ae Af)
def spec_l04Stable.T6 : Bool × List (List Nat × List Nat) := (true, [([], []), ([], []), ([0, 1], [0, 1]), ([2], [2]), ([], []), ([3, 4], [3, 4]), ([], []), ([5, 6], [5, 6])])
def spec_l04Stable.B6 : List Nat := [0, 0, 3, 7, 0, 31, 0, 127]
theorem spec_l04Stable.tab6 : rtab .any (opsOf Try.f51 6) = spec_l04Stable.T6 := by kernel_rfl
theorem spec_l04Stable.bits6 : waitsOk spec_l04Stable.T6.2 spec_l04Stable.B6 = true := by kernel_rfl
theorem spec_l04Stable.calls (k : Nat) (a0 : Int) (Ad : Int) (Ae : Int) (Af : Int) (r : List (S51)) (w : World) (h : spec_l04Stable.f k a0 Ad Ae Af = some r) :
  Calls Try.prog 51 #[.int .i64 a0, .agg #[.int .i64 Ad, .int .i64 Ae, .int .i64 Af]] w fun e w' => ∃ v0_ : Value, e = .returned (v0_) ∧ Kd.R k51 51 w' w.heap.size (fun _ => True) v0_ r ∧ Below w.heap.size w w' := by
 have hu25 := Try.underlying25
 have hu51 := Try.underlying51
 have HB := asd (Below.refl w.heap.size w)
 have H : ((spec_l04Mats.f k a0).bind fun Ab => (spec_l04Stable.l0 k Ab (([] : List (S51))) 0 Ad Ae Af)) = some r := h
 clear h
 obtain ⟨Ab, A3, H⟩ := ob H
 try dsimp only at H
 obtain ⟨AC, Am⟩ : ∃ y_ : List (S51), y_ = (([] : List (S51))) := ⟨_, rfl⟩
 replace H : (spec_l04Stable.l0 k Ab AC 0 Ad Ae Af) = some r := by first | (rw [Am]; with_reducible exact H) | (have H2_ := (Option.bind_some _ _).symm.trans H; rw [Am]; with_reducible exact H2_) | (have H2_ := (Option.bind_some _ _).symm.trans H; with_reducible exact H2_) | with_reducible exact H | (rw [Am]; exact H) | exact H
 have Az := Aside0.mk Am
 clear Am
 have H' := Aside0.mk H
 clear H
 go_enter Try.func51, Try.ntmps51
 go_wp2_with (first | ((with_reducible refine gd 3 rfl ?_); refine bx #[.int .i64 Ad, .int .i64 Ae, .int .i64 Af] 25 ?_; intro AA hg w4 Ac hb; have Ag := ngw0 hg HB; replace HB := bS0 HB hb; clear hb hg) | ((with_reducible refine gate_callee (f := 72) rfl ?_); refine gl 9 Try.func72 #[.int .i64 a0] ?_; (with_reducible refine (spec_l04Mats.calls _ _ _ _ A3.out).mono ?_); rintro e w5 ⟨v251, rfl, AS, hb⟩; refine ⟨_, rfl, ?_⟩; have As := asd (Kd.R_lower AS (bsz1 HB Ag)); replace Ac := bB Ac hb; replace HB := bS1 HB Ag hb; (try clear hb); (try clear hb2); (try clear hk); (try clear hi); (try clear AS)) | ((with_reducible refine gd 10 rfl ?_); refine Kd.R_lit k51 _ 51 ?hg (N := 10) ?hd (xs := ([] : List (S51))) (inner := []) (ok := fun _ => True) (okp := fun _ => True) ?hr ?hp (fun _ hk => hk) trivial (Below.refl _ _) (Nat.le_refl _) (by simp) ?_; (case hd => rfl); (case hg => rfl); (case hr => first | (go_simp; done) | (go_simp; rfl)); (case hp => exact (Reps.none _ _)); intro v254 w6 AB hb hg_ hnew_; clear hg_ hnew_; (first | rw [← Az.out] at AB | (simp only [Int.reduceToNat] at AB; rw [← Az.out] at AB)); have AD := asd (Kd.R_lower (Kd.R_new' AB (Kd.R_lt (kr As))) (bsz1 HB Ag)); replace As := asd (Kd.R_elder' (kr As) (Kd.R_base AB) hb); replace Ac := bB Ac hb; replace HB := bS1 HB Ag hb; clear hb AB))
 go_loopg [6, 7] k (fun kq v6 v7 w' => ∃ (Ao : List (S51)) (Aa : Int), v7 = .int .i64 Aa ∧ Aside0 (spec_l04Stable.l0 kq Ab Ao Aa Ad Ae Af = some r) ∧ Aside0 (kq ≤ k) ∧ Aside0 (Kd.R k51 51 w' w.heap.size (fun k_ => some k_ ≠ (v6 : Value).ownBlock) v251 Ab) ∧ Aside0 (Kd.R k51 51 w' w.heap.size (fun k_ => some k_ ≠ (v251 : Value).ownBlock) v6 Ao) ∧ Aside0 (w'.heap[AA]? = some (.cells #[.int .i64 Ad, .int .i64 Ae, .int .i64 Af] 25 (0, 0))) ∧ Aside0 (Below w.heap.size w w'))
 case atStart => exact ⟨(AC), (0), (by first | rfl | (simp; done) | (simp [*]; done)), H', ⟨Nat.le_refl _⟩, ⟨by (with_reducible repeat (first | apply Kd.R_alloc | apply Kd.R_drewN | apply Kd.R_drew)); exact Kd.R_mono As.out (fun _ hk => hk.2)⟩, ⟨by (with_reducible repeat (first | apply Kd.R_alloc | apply Kd.R_drewN | apply Kd.R_drew)); exact Kd.R_mono AD.out (fun _ hk => hk.2)⟩, ⟨bkp Ac⟩, ⟨bbw1 HB Ag⟩⟩
 case round =>
  clear H';obtain ⟨Ao, Aa, rfl, HA, AL, Ah, Al, Ac, HB⟩ := hrel;cases gk with
  | zero => exact absurd HA.out (by simp [spec_l04Stable.l0])
  | succ k1 =>
   have H := HA.out;clear HA;simp only [spec_l04Stable.l0] at H;by_cases c8 : Aa < (Ab.length : Int)
   rw [if_pos c8] at H;have AR := qp c8;clear c8;by_cases c9 : 0 ≤ Aa
   rw [if_pos c9] at H;have AY := qp c9;clear c9;obtain ⟨⟨Ap, Aq, Ar⟩, AZ, H⟩ := ob H;try dsimp only at H
   by_cases Ay : (Ap == Ad && (Aq == Ae && (Ar == Af))) = true
   rw [if_pos Ay] at H;have AE := Ay;(try (have AF : decide (Ap = Ad && (Aq == Ae && (Ar == Af))) = true := by simpa using Ay));(try (have AG : (Ap == Ad && (Aq == Ae && (Ar == Af))) = true := by simpa using Ay));clear Ay;by_cases AM : Ao.length < 4398046511104
   rw [if_pos AM] at H;have AH := Aside0.mk AM;clear AM;obtain ⟨AI, An⟩ : ∃ y_ : List (S51), y_ = (Ao ++ [(⟨(rd_T51 Ab Aa).f0, (rd_T51 Ab Aa).f1, (rd_T51 Ab Aa).f2, (rd_T51 Ab Aa).f3⟩ : S51)]) := ⟨_, rfl⟩;replace H : (spec_l04Stable.l0 k1 Ab AI (wrap64 (Aa + 1)) Ad Ae Af) = some r := by first | (rw [An]; with_reducible exact H) | (have H2_ := (Option.bind_some _ _).symm.trans H; rw [An]; with_reducible exact H2_) | (have H2_ := (Option.bind_some _ _).symm.trans H; with_reducible exact H2_) | with_reducible exact H | (rw [An]; exact H) | exact H
   have AJ := Aside0.mk An;clear An;have H' := Aside0.mk H;clear H;rotate_left
   ·rw [if_neg AM] at H;exact absurd H (by simp)
   rw [if_neg Ay] at H;have AE : (Ap == Ad && (Aq == Ae && (Ar == Af))) = false := by simpa using Ay
   (try (have AF : decide (Ap = Ad && (Aq == Ae && (Ar == Af))) = false := by simpa using Ay));(try (have AG : (Ap == Ad && (Aq == Ae && (Ar == Af))) = false := by simpa using Ay));(try (have AT : ¬ (Ap = Ad && (Aq == Ae && (Ar == Af))) := by simpa using Ay));clear Ay;have H' := Aside0.mk H;clear H;rotate_left
   ·rw [if_neg c9] at H;exact absurd H (by simp)
   rw [if_neg c8] at H;have AR := qq c8;clear c8;obtain rfl := Option.some.inj H;rotate_left;all_goals
    obtain ⟨Ao13, co13, eo13⟩ := Kd.R_slice Ah.out;subst eo13
   rotate_left 2
   ·go_wp2
    go_ret
    exact ⟨_, by first | rfl | (simp [errW_none, errW_some] <;> rfl) | (simp [*, errW_none, errW_some] <;> rfl), by (with_reducible repeat (first | apply Kd.R_alloc | apply Kd.R_drewN | apply Kd.R_drew)); exact Kd.R_mono Al.out (fun _ hk => trivial), bbw1 HB Ag⟩
   all_goals
    try go_wp2
    replace Ah := asd (Kd.R_drew Ah.out);replace Al := asd (Kd.R_drew Al.out);replace Ac := asd (blk_drew Ac.out);replace HB := asd (qm HB.out);have p256 : 0 ≤ (Aa : Int) := od;have q256 : Aa < (Ab.length : Int) := od;obtain ⟨ad256, e256, At, Au, Av, Aw⟩ := at_T51 (Kd.R_reads' Ah.out).2.2 Aa p256 q256;cases e256
    replace p256 := eq_true p256;replace q256 := eq_true q256;refine sh 8 (cb3 Ac (c1 At (c1 Au (c1 Av (e1 Aw))))) (fun hHeld => ?_); refine with_tabW spec_l04Stable.tab6 spec_l04Stable.bits6 (fun HT_ HW_ => ?_);generalize wr.drew = A0 at Ah Al Ac HB At Au Av Aw hHeld ⊢;refine pu 0 (some 17) (bT 8 1) HT_ ?_;refine pu 1 (some 18) (bT 8 2) HT_ ?_;refine pu 2 (some 19) (bT 8 3) HT_ ?_;refine ta 3 (some 20) (bT 8 4) HT_ HW_ hHeld ?_;refine ta 4 (some 21) (bT 8 5) HT_ HW_ hHeld ?_;refine ta 6 (some 23) (bs 8 95) HT_ HW_ hHeld ?_;refine ro 5 (some 22) (bT 8 7) HT_ (fun K hK => ?_);refine gs Try.func62 #[.agg #[.int .i64 ((rd_T51 Ab Aa).f0), .int .i64 ((rd_T51 Ab Aa).f1), .int .i64 ((rd_T51 Ab Aa).f2), .int .i64 ((rd_T51 Ab Aa).f3)], .agg #[.int .i64 Ad, .int .i64 Ae, .int .i64 Af]] ?_;with_reducible refine (spec_l04Image.calls _ _ _ _ _ _ _ _ _ _ _ _ AZ.out).mono ?_
    rintro e A1 ⟨rfl, hb⟩;have HS3_ := hbc hb (hHeld.2.2.2.1);have HS4_ := hbc hb (hHeld.2.2.2.2.1);have HS5_ := hbc hb (hHeld.2.2.2.2.2.1);have HS6_ := hbc hb (hHeld.2.2.2.2.2.2);refine ⟨_, rfl, ?_⟩;replace Ah := asd (Kd.R_below (kr Ah) hb);replace Al := asd (Kd.R_below (kr Al) hb);replace Ac := bB Ac hb;replace HB := bS1 HB Ag hb;(try clear hb);(try clear hb2);(try clear hk);(try clear hi);refine hK.out _ _ ⟨bcl Ac 0, bcl Ac 1, bcl Ac 2, HS3_, HS4_, HS5_, HS6_⟩ (fun hHeld => ?_);clear hK K;refine norm_ (a' := ?_) ?_ ?_;rotate_left
    ·show Act.put _ (some 22) _ = _
     simp only [Act.put, sA, sB, sC, i64_w, i32_w];rfl
    refine pu 7 (some 24) (bT 8 8) HT_ ?_;refine done_ (done_of HT_.out (by kernel_rfl)) ?_
   ·have p260 : 0 ≤ (Aa : Int) := od;have q260 : Aa < (Ab.length : Int) := od;obtain ⟨ad260, e260, AN, AO, AP, AQ⟩ := at_T51 (Kd.R_reads' Ah.out).2.2 Aa p260 q260;obtain rfl : ad256 = ad260 := (by injection e260);replace p260 := eq_true p260;replace q260 := eq_true q260;try go_wp2_with (first | ((with_reducible refine gate_builtin (b := .append) (xs := #[.tmp 25, .tmp 30]) rfl ?_); at_builtin; refine Kd.R_append k51 (w0 := w) w.heap.size rfl (.tmp 25) (.tmp 30) 29 51 (.agg #[(.int .i64 0), (.int .i64 0), (.int .i64 0), (.int .i64 0)]) 32 rfl Try.underlying29 info51 rfl (by decide) (by omega) u6 Ao (⟨(rd_T51 Ab Aa).f0, (rd_T51 Ab Aa).f1, (rd_T51 Ab Aa).f2, (rd_T51 Ab Aa).f3⟩ : S51) [.int .i64 ((rd_T51 Ab Aa).f0), .int .i64 ((rd_T51 Ab Aa).f1), .int .i64 ((rd_T51 Ab Aa).f2), .int .i64 ((rd_T51 Ab Aa).f3)] (fun k_ => some k_ ≠ (.slice (some ad256) Ab.length co13 : Value).ownBlock) (fun _ => False) rfl rfl ?aP (fun _ hk => hk.elim) ?aF ?aO ?aB ?aS ?aL ?_; (case aP => exact k51_mkM _ _ _ (⟨(rd_T51 Ab Aa).f0, (rd_T51 Ab Aa).f1, (rd_T51 Ab Aa).f2, (rd_T51 Ab Aa).f3⟩ : S51)); (case aB => exact (bbw1 HB Ag)); (case aF => exact (fun k_ hk => Kd.fresh' (Kd.R_lt (kr Ah)) k_ hk)); (case aO => exact (kr Al)); (case aS => exact (bsz1 HB Ag)); (case aL => have := AH.out; omega); intro v262 A2 ho hb hg hat; rw [← AJ.out] at ho; have AU := asd (Kd.R_after (ok := (fun _ => True)) (by (with_reducible repeat (first | apply Kd.R_alloc | apply Kd.R_drewN | apply Kd.R_drew)); exact Kd.R_mono Ah.out (fun _ hk => ⟨trivial, hk⟩)) hg hat); have AV := asd (blk_grown (g := AA) (o := .cells #[.int .i64 Ad, .int .i64 Ae, .int .i64 Af] 25 (0, 0)) (bkp Ac) hg (Kd.R_ne Al.out Ac.out (by decide))); have AW := asd (hb); have AX := asd (ho); clear Ah; clear Ac; clear HB; clear Al; have Ah := AU; have Ac := AV; have HB := AW; have AK := AX; clear AU AV AW AX; clear ho hb hg hat))
    go_roundg k1
    case measure => have := AL.out; omega
    case rel => exact ⟨(AI), (wrap64 (Aa + 1)), (by first | rfl | (simp; done) | (simp [*]; done)), H', ⟨by have := AL.out; omega⟩, ⟨by (with_reducible repeat (first | apply Kd.R_alloc | apply Kd.R_drewN | apply Kd.R_drew)); exact Kd.R_mono Ah.out (fun _ hk => hk.2)⟩, ⟨by (with_reducible repeat (first | apply Kd.R_alloc | apply Kd.R_drewN | apply Kd.R_drew)); exact AK.out⟩, ⟨bkp Ac⟩, ⟨bbw1 HB Ag⟩⟩
   ·try go_wp2
    go_roundg k1
    case measure => have := AL.out; omega
    case rel => exact ⟨(Ao), (wrap64 (Aa + 1)), (by first | rfl | (simp; done) | (simp [*]; done)), H', ⟨by have := AL.out; omega⟩, ⟨by (with_reducible repeat (first | apply Kd.R_alloc | apply Kd.R_drewN | apply Kd.R_drew)); exact Ah.out⟩, ⟨by (with_reducible repeat (first | apply Kd.R_alloc | apply Kd.R_drewN | apply Kd.R_drew)); exact Al.out⟩, ⟨bkp Ac⟩, ⟨bbw1 HB Ag⟩⟩
end Go.Proofs.Ytedmadofpdkekaa.PA
