import Derived.Test.YtedmadofpdkekaaPAx0
namespace Go.Proofs.Ytedmadofpdkekaa.PA
open Go.RowKit Go.Proofs.YtedmadofpdkekaaW.PrintWords Go.Proofs.YtedmadofpdkekaaW.PrintLast Go.Proofs.YtedmadofpdkekaaW.PrintMore
attribute [local go_sem] max2_int min2_int max_two min_two max_three min_three max_four min_four   -- for this text's walks alone
set_option linter.unusedVariables false
set_option maxHeartbeats 8000000
set_option maxRecDepth 100000
set_option linter.unusedSimpArgs false
def laws_big.f (l0 : List Int) : Option (Bool) := some (decide ((l0.length : Int) > 4096))
theorem laws_big.calls (A0 : Option Addr) (c0 : Nat) (l0 : List Int) (r : Bool) (w : World) (hr0 : Kd.C (Kd.int .u8) w A0 l0.length l0) (hc0 : l0.length ≤ c0) (h : laws_big.f l0 = some r) :
  Calls Try.prog 4 #[.slice A0 l0.length c0] w fun e w' => e = .returned (.bool r) ∧ Drawn0 w w' := by
 have HR0 := Aside0.mk hr0
 have Aa := Aside0.mk hc0
 clear hr0 hc0
 have H : (some (decide ((l0.length : Int) > 4096))) = some r := h
 clear h
 obtain rfl := Option.some.inj H
 go_enter Try.func4, Try.ntmps4
 go_wp2
 go_ret
 exact ⟨by first | rfl | (simp; done) | (simp [*]; done), by repeat (first | exact Drawn0.refl _ | apply Drawn0.step)⟩
def IsS64 (w0 W : World) (g : Nat) (f0 : List Int) (f1 : Int) (f2 : Int) : Prop := ∃ A0 c0, W.heap[g]? = some (.cells #[.slice A0 f0.length c0, .int .i64 f1, .int .i64 f2] 64 (0, 0)) ∧ w0.heap.size ≤ g ∧ Kd.C (Kd.int .u8) w0 A0 f0.length f0
theorem IsS64.grown {w0 W : World} {g : Nat} {f0 : List Int} {f1 : Int} {f2 : Int} {W1 : World} {row : Option Nat} (h : IsS64 w0 W g f0 f1 f2) (hw : W.grownBy W1 row) (hne : some g ≠ row) : IsS64 w0 W1 g f0 f1 f2 := by
 obtain ⟨A0, c0, hb, hg, hr0⟩ := h
 exact ⟨A0, c0, blk_grown hb hw hne, hg, hr0⟩
theorem IsS64.own_neN {w0 W : World} {g : Nat} {f0 : List Int} {f1 : Int} {f2 : Int} {α : Type} {d : Kd α} {e : Nat} {base : Nat} {ok : Nat → Prop} {v : Value} {xs : List α} (h : IsS64 w0 W g f0 f1 f2) (ho : Kd.N d e W base ok v xs) (ht : e ≠ 64) : some g ≠ v.ownBlock := by
 obtain ⟨A0, c0, hb, hg, hr0⟩ := h
 exact Kd.N_ne ho hb ht
theorem IsS64.fresh {w0 W : World} {g : Nat} {f0 : List Int} {f1 : Int} {f2 : Int} (h : IsS64 w0 W g f0 f1 f2) : ∀ k, W.heap.size ≤ k → k ≠ g := by
 obtain ⟨A0, c0, hb, hg, hr0⟩ := h
 exact Kd.freshB hb
theorem IsS64.kept {w0 W : World} {g : Nat} {f0 : List Int} {f1 : Int} {f2 : Int} {W1 : World} {S : Nat → Prop} (h : IsS64 w0 W g f0 f1 f2) (hk : Kept W W1 S) (hne : ¬ S g) : IsS64 w0 W1 g f0 f1 f2 := by
 obtain ⟨A0, c0, hb, hg, hr0⟩ := h
 exact ⟨A0, c0, blk_kept hb hk hne, hg, hr0⟩
theorem IsS64.below {w0 W : World} {g : Nat} {f0 : List Int} {f1 : Int} {f2 : Int} {W1 : World} (h : IsS64 w0 W g f0 f1 f2) (hw : Below W.heap.size W W1) : IsS64 w0 W1 g f0 f1 f2 := h.grown (grown_of_below hw none) (by simp)
theorem qc {w0 W : World} {g : Nat} {f0 : List Int} {f1 : Int} {f2 : Int} (h : IsS64 w0 W g f0 f1 f2) (o : Obj) : IsS64 w0 (W.alloc o) g f0 f1 f2 := h.below (qo (Below.refl _ _) o)
theorem qb {w0 W : World} {g : Nat} {f0 : List Int} {f1 : Int} {f2 : Int} (h : IsS64 w0 W g f0 f1 f2) (m : Nat) : IsS64 w0 (W.drewN m) g f0 f1 f2 := h
theorem qf {w0 W : World} {g : Nat} {f0 : List Int} {f1 : Int} {f2 : Int} (h : IsS64 w0 W g f0 f1 f2) : IsS64 w0 W.drew g f0 f1 f2 := h
theorem IsS64.at_ {w0 W : World} {g : Nat} {f0 : List Int} {f1 : Int} {f2 : Int} {w' : World} {m : Nat} (hq : W.drewN m = w') (h : IsS64 w0 W g f0 f1 f2) : IsS64 w0 w' g f0 f1 f2 := by subst hq; exact qb h m
theorem IsS64.apart {w0 W : World} {g : Nat} {f0 : List Int} {f1 : Int} {f2 : Int} {α : Type} {d : Kd α} {e : Nat} {base : Nat} {ok : Nat → Prop} {v : Value} {xs : List α} (h : IsS64 w0 W g f0 f1 f2) (ho : d.R e W base ok v xs) (ht : ∀ q, q ∈ e :: d.E → q ≠ 64) : d.R e W base (fun k => ok k ∧ k ≠ g) v xs := by
 obtain ⟨A0, c0, hb, hg, hr0⟩ := h
 exact Kd.R_types ho hb ht
theorem IsS64.own_ne {w0 W : World} {g : Nat} {f0 : List Int} {f1 : Int} {f2 : Int} {α : Type} {d : Kd α} {e : Nat} {base : Nat} {ok : Nat → Prop} {v : Value} {xs : List α} (h : IsS64 w0 W g f0 f1 f2) (ho : d.R e W base ok v xs) (ht : e ≠ 64) : some g ≠ v.ownBlock := by
 obtain ⟨A0, c0, hb, hg, hr0⟩ := h
 exact Kd.R_ne ho hb ht
theorem IsS64.apartQ {w0 W : World} {g : Nat} {f0 : List Int} {f1 : Int} {f2 : Int} {α : Type} {d : Kd α} {e : Nat} {base : Nat} {ok : Nat → Prop} {v : Value} {xs : List α} (h : IsS64 w0 W g f0 f1 f2) (ho : d.Q e W base ok v xs) (ht : ∀ q, q ∈ e :: d.E → q ≠ 64) : d.Q e W base (fun k => ok k ∧ k ≠ g) v xs := by
 obtain ⟨A0, c0, hb, hg, hr0⟩ := h
 exact Kd.Q_types ho hb ht
theorem IsS64.own_neQ {w0 W : World} {g : Nat} {f0 : List Int} {f1 : Int} {f2 : Int} {α : Type} {d : Kd α} {e : Nat} {base : Nat} {ok : Nat → Prop} {v : Value} {xs : List α} (h : IsS64 w0 W g f0 f1 f2) (ho : d.Q e W base ok v xs) (ht : e ≠ 64) : some g ≠ v.ownBlock := by
 obtain ⟨A0, c0, hb, hg, hr0⟩ := h
 exact Kd.Q_ne ho hb ht
theorem IsS64.apartS {w0 W : World} {g : Nat} {f0 : List Int} {f1 : Int} {f2 : Int} {α : Type} {d : Kd α} {e : Nat} {base : Nat} {ok : Nat → Prop} {v : Value} {xs : List α} (h : IsS64 w0 W g f0 f1 f2) (ho : d.S e W base ok v xs) (ht : ∀ q, q ∈ e :: d.E → q ≠ 64) : d.S e W base (fun k => ok k ∧ k ≠ g) v xs := by
 obtain ⟨A0, c0, hb, hg, hr0⟩ := h
 exact Kd.S_types ho hb ht
theorem IsS64.own_neS {w0 W : World} {g : Nat} {f0 : List Int} {f1 : Int} {f2 : Int} {α : Type} {d : Kd α} {e : Nat} {base : Nat} {ok : Nat → Prop} {v : Value} {xs : List α} (h : IsS64 w0 W g f0 f1 f2) (ho : d.S e W base ok v xs) (ht : e ≠ 64) : some g ≠ v.ownBlock := by
 obtain ⟨A0, c0, hb, hg, hr0⟩ := h
 exact Kd.S_ne ho hb ht
theorem IsS64.lt {w0 W : World} {g : Nat} {f0 : List Int} {f1 : Int} {f2 : Int} (h : IsS64 w0 W g f0 f1 f2) : g < W.heap.size := by
 obtain ⟨A0, c0, hb, hg, hr0⟩ := h
 exact blk_lt hb
theorem IsS64.ge {w0 W : World} {g : Nat} {f0 : List Int} {f1 : Int} {f2 : Int} (h : IsS64 w0 W g f0 f1 f2) : w0.heap.size ≤ g := by
 obtain ⟨A0, c0, hb, hg, hr0⟩ := h
 exact hg
theorem IsS64.ne_blk {w0 W : World} {g : Nat} {f0 : List Int} {f1 : Int} {f2 : Int} {a : Nat} {cs : Array Value} {t : TypeId} {fr : Nat × Nat} (h : IsS64 w0 W g f0 f1 f2) (hb2 : W.heap[a]? = some (.cells cs t fr)) (ht : t ≠ 64) : g ≠ a := by
 obtain ⟨A0, c0, hb, hg, hr0⟩ := h
 rintro rfl
 rw [hb] at hb2
 injection hb2 with hb2
 injection hb2 with _ ht2
 exact ht ht2.symm
theorem qa {w0 W : World} {g : Nat} {f0 : List Int} {f1 : Int} {f2 : Int} {p : Addr} (h : IsS64 w0 W g f0 f1 f2) (hne : g ≠ p.block) (u : Value) : IsS64 w0 (W.setCell p u) g f0 f1 f2 := by
 obtain ⟨A0, c0, hb, hg, hr0⟩ := h
 exact ⟨A0, c0, blk_far hb hne u, hg, hr0⟩
theorem cellS64_0 {W : World} {g : Nat} {A0 : Option Addr} {c0 : Nat} {f0 : List Int} {f1 : Int} {f2 : Int} (h : W.heap[g]? = some (.cells #[.slice A0 f0.length c0, .int .i64 f1, .int .i64 f2] 64 (0, 0))) : W.cell? ⟨g, 0, none⟩ = some (.slice A0 f0.length c0) := (blk_cell h 0).trans rfl
theorem cellS64_1 {W : World} {g : Nat} {A0 : Option Addr} {c0 : Nat} {f0 : List Int} {f1 : Int} {f2 : Int} (h : W.heap[g]? = some (.cells #[.slice A0 f0.length c0, .int .i64 f1, .int .i64 f2] 64 (0, 0))) : W.cell? ⟨g, 1, none⟩ = some (.int .i64 f1) := (blk_cell h 1).trans rfl
theorem qd {w0 W : World} {g : Nat} {f0 : List Int} {f1 : Int} {f2 : Int} (h : IsS64 w0 W g f0 f1 f2) (x : Int) : IsS64 w0 (W.setCell ⟨g, 1, none⟩ (.int .i64 x)) g f0 x f2 := by
 obtain ⟨A0, c0, hb, hg, hr0⟩ := h
 exact ⟨A0, c0, by simpa using blk_set hb 1 (.int .i64 x), hg, hr0⟩
theorem cellS64_2 {W : World} {g : Nat} {A0 : Option Addr} {c0 : Nat} {f0 : List Int} {f1 : Int} {f2 : Int} (h : W.heap[g]? = some (.cells #[.slice A0 f0.length c0, .int .i64 f1, .int .i64 f2] 64 (0, 0))) : W.cell? ⟨g, 2, none⟩ = some (.int .i64 f2) := (blk_cell h 2).trans rfl
theorem qe {w0 W : World} {g : Nat} {f0 : List Int} {f1 : Int} {f2 : Int} (h : IsS64 w0 W g f0 f1 f2) (x : Int) : IsS64 w0 (W.setCell ⟨g, 2, none⟩ (.int .i64 x)) g f0 f1 x := by
 obtain ⟨A0, c0, hb, hg, hr0⟩ := h
 exact ⟨A0, c0, by simpa using blk_set hb 2 (.int .i64 x), hg, hr0⟩
theorem IsS64.new (w0 W : World) (A0 : Option Addr) (c0 : Nat) (f0 : List Int) (f1 : Int) (f2 : Int) (hB : Below w0.heap.size w0 W) (hr0 : Kd.C (Kd.int .u8) w0 A0 f0.length f0) : IsS64 w0 (W.alloc (.cells #[.slice A0 f0.length c0, .int .i64 f1, .int .i64 f2] 64)) W.heap.size f0 f1 f2 := ⟨A0, c0, by simpa using heap_alloc_new W _, hB.size, hr0⟩
def spec_l01Next.f (Ad : List Int) (Aa : Int) (Ac : Int) (a1 : Int) : Option (Int × Int × Int) := if a1 ≤ 1 then (some (0, Aa, Ac)) else (if Aa < (Ad.length : Int) then (if 0 ≤ Aa then (if a1 ≤ 256 then (if (Int.tmod (wrap64 (Aa + 1)) 2) = 0 then (if 0 ≤ (wrap64 ((wrap64 (Aa + 1)) - 1)) then (if (wrap64 ((wrap64 (Aa + 1)) - 1)) < (Ad.length : Int) then (if a1 = 0 then (none) else (some (Int.tmod (wrap64 (rd Ad (wrap64 ((wrap64 (Aa + 1)) - 1)))) a1, wrap64 (Aa + 1), Int.tmod (wrap64 ((wrap64 (Ac * 48271)) + 67)) 2147483647))) else (none)) else (none)) else (if a1 = 0 then (none) else (some (Int.tmod (wrap64 ((wrap64 (Int.tdiv (Int.tmod (wrap64 ((wrap64 (Ac * 48271)) + 67)) 2147483647) 37)) + (wrap64 (rd Ad Aa)))) a1, wrap64 (Aa + 1), Int.tmod (wrap64 ((wrap64 (Ac * 48271)) + 67)) 2147483647)))) else (if a1 = 0 then (none) else (some (Int.tmod (wrap64 ((wrap64 (Int.tdiv (Int.tmod (wrap64 ((wrap64 (Ac * 48271)) + 67)) 2147483647) 37)) + (wrap64 (rd Ad Aa)))) a1, wrap64 (Aa + 1), Int.tmod (wrap64 ((wrap64 (Ac * 48271)) + 67)) 2147483647)))) else (none)) else (if a1 = 0 then (none) else (some (Int.tmod (wrap64 (Int.tdiv (Int.tmod (wrap64 ((wrap64 (Ac * 48271)) + 67)) 2147483647) 37)) a1, Aa, Int.tmod (wrap64 ((wrap64 (Ac * 48271)) + 67)) 2147483647))))
theorem spec_l01Next.calls (g : Nat) (Ad : List Int) (Aa : Int) (Ac : Int) (a1 : Int) (r1 : Int) (r2 : Int) (r3 : Int) (w0 w : World) (hI : IsS64 w0 w g Ad Aa Ac) (hB : Below w0.heap.size w0 w) (h : spec_l01Next.f Ad Aa Ac a1 = some (r1, r2, r3)) :
  Calls Try.prog 29 #[.pointer (some ⟨g, 0, none⟩), .int .i64 a1] w fun e w' => e = .returned (.int .i64 r1) ∧ IsS64 w0 w' g Ad r2 r3 ∧ Below w0.heap.size w0 w' ∧ KeepBut w w' g none := by
 have HI0 := Aside0.mk hI
 have HK := asd (KeepBut.refl w g none)
 have HL := Aside0.mk hB.size
 clear hI
 have HW0 := Aside0.mk hB.size
 have HB := Aside0.mk hB
 clear hB
 have H : (if a1 ≤ 1 then (some (0, Aa, Ac)) else (if Aa < (Ad.length : Int) then (if 0 ≤ Aa then (if a1 ≤ 256 then (if (Int.tmod (wrap64 (Aa + 1)) 2) = 0 then (if 0 ≤ (wrap64 ((wrap64 (Aa + 1)) - 1)) then (if (wrap64 ((wrap64 (Aa + 1)) - 1)) < (Ad.length : Int) then (if a1 = 0 then (none) else (some (Int.tmod (wrap64 (rd Ad (wrap64 ((wrap64 (Aa + 1)) - 1)))) a1, wrap64 (Aa + 1), Int.tmod (wrap64 ((wrap64 (Ac * 48271)) + 67)) 2147483647))) else (none)) else (none)) else (if a1 = 0 then (none) else (some (Int.tmod (wrap64 ((wrap64 (Int.tdiv (Int.tmod (wrap64 ((wrap64 (Ac * 48271)) + 67)) 2147483647) 37)) + (wrap64 (rd Ad Aa)))) a1, wrap64 (Aa + 1), Int.tmod (wrap64 ((wrap64 (Ac * 48271)) + 67)) 2147483647)))) else (if a1 = 0 then (none) else (some (Int.tmod (wrap64 ((wrap64 (Int.tdiv (Int.tmod (wrap64 ((wrap64 (Ac * 48271)) + 67)) 2147483647) 37)) + (wrap64 (rd Ad Aa)))) a1, wrap64 (Aa + 1), Int.tmod (wrap64 ((wrap64 (Ac * 48271)) + 67)) 2147483647)))) else (none)) else (if a1 = 0 then (none) else (some (Int.tmod (wrap64 (Int.tdiv (Int.tmod (wrap64 ((wrap64 (Ac * 48271)) + 67)) 2147483647) 37)) a1, Aa, Int.tmod (wrap64 ((wrap64 (Ac * 48271)) + 67)) 2147483647))))) = some (r1, r2, r3) := h
 clear h
 by_cases c3 : a1 ≤ 1
 rw [if_pos c3] at H
 have Ay := qp c3
 clear c3
 rotate_left
 rw [if_neg c3] at H
 have Ay := qq c3
 clear c3
 by_cases c4 : Aa < (Ad.length : Int)
 rw [if_pos c4] at H
 have Az := qp c4
 clear c4
 by_cases c5 : 0 ≤ Aa
 rw [if_pos c5] at H
 have AO := qp c5
 clear c5
 by_cases c6 : a1 ≤ 256
 rw [if_pos c6] at H
 have AA := qp c6
 clear c6
 by_cases c7 : (Int.tmod (wrap64 (Aa + 1)) 2) = 0
 rw [if_pos c7] at H
 have AB : ((Int.tmod (wrap64 (Aa + 1)) 2) == 0) = true := beq_iff_eq.mpr c7
 have AC : ((Int.tmod (wrap64 (Aa + 1)) 2) != 0) = false := bne_eq_false_iff_eq.mpr c7
 clear c7
 obtain ⟨Ag, Af⟩ : ∃ j_ : Int, (wrap64 ((wrap64 (Aa + 1)) - 1)) = j_ := ⟨_, rfl⟩
 replace H : (if 0 ≤ (Ag) then (if (Ag) < (Ad.length : Int) then (if a1 = 0 then (none) else (some (Int.tmod (wrap64 (rd Ad (Ag))) a1, wrap64 (Aa + 1), Int.tmod (wrap64 ((wrap64 (Ac * 48271)) + 67)) 2147483647))) else (none)) else (none)) = some (r1, r2, r3) := by first | (rw [Af] at H; first | done | exact H) | (simp only [Af] at H ⊢; exact H)
 have AD : (IntKind.i64.wrap ((wrap64 (Aa + 1)) - 1)) = Ag := (i64_w _).trans Af
 have AE : (IntKind.i64.wrap ((IntKind.i64.wrap (Aa + 1)) - 1)) = Ag := by simp only [i64_w]; exact Af
 by_cases c9 : 0 ≤ (Ag)
 rw [if_pos c9] at H
 have AP := qp c9
 clear c9
 by_cases Ah : (Ag) < (Ad.length : Int)
 rw [if_pos Ah] at H
 have AF := qp Ah
 clear Ah
 by_cases Ai : a1 = 0
 ·rw [if_pos Ai] at H;exact absurd H (by simp)
 rw [if_neg Ai] at H
 have AG : (a1 == 0) = false := beq_eq_false_iff_ne.mpr Ai
 have AH : (a1 != 0) = true := bne_iff_ne.mpr Ai
 rotate_left
 ·rw [if_neg Ah] at H;exact absurd H (by simp)
 ·rw [if_neg c9] at H;exact absurd H (by simp)
 rw [if_neg c7] at H
 have AB : ((Int.tmod (wrap64 (Aa + 1)) 2) == 0) = false := beq_eq_false_iff_ne.mpr c7
 have AC : ((Int.tmod (wrap64 (Aa + 1)) 2) != 0) = true := bne_iff_ne.mpr c7
 by_cases Aj : a1 = 0
 ·rw [if_pos Aj] at H;exact absurd H (by simp)
 rw [if_neg Aj] at H
 have AI : (a1 == 0) = false := beq_eq_false_iff_ne.mpr Aj
 have AJ : (a1 != 0) = true := bne_iff_ne.mpr Aj
 rotate_left
 rw [if_neg c6] at H
 have AA := qq c6
 clear c6
 by_cases Ak : a1 = 0
 ·rw [if_pos Ak] at H;exact absurd H (by simp)
 rw [if_neg Ak] at H
 have AK : (a1 == 0) = false := beq_eq_false_iff_ne.mpr Ak
 have AL : (a1 != 0) = true := bne_iff_ne.mpr Ak
 rotate_left
 ·rw [if_neg c5] at H;exact absurd H (by simp)
 rw [if_neg c4] at H
 have Az := qq c4
 clear c4
 by_cases Al : a1 = 0
 ·rw [if_pos Al] at H;exact absurd H (by simp)
 rw [if_neg Al] at H
 have AM : (a1 == 0) = false := beq_eq_false_iff_ne.mpr Al
 have AN : (a1 != 0) = true := bne_iff_ne.mpr Al
 rotate_left
 all_goals
  simp only [Option.some.injEq, Prod.mk.injEq] at H;obtain ⟨rfl, rfl, rfl⟩ := H
 ·go_enter Try.func29, Try.ntmps29
  go_wp2
  repeat (go_quiet (fail); try go_wp2)
  go_ret
  exact ⟨by first | rfl | (simp [errW_none, errW_some] <;> rfl) | (simp [*, errW_none, errW_some] <;> rfl), by repeat (first | (with_reducible first | exact HI0.out | apply qc | apply qb | apply qf | apply qd | apply qe) | exact HI0.out), by repeat (first | (with_reducible first | exact HB.out | apply qo | apply qn | apply qm | refine ql ?_ (IsS64.ge HI0.out)) | exact HB.out), by repeat (first | (with_reducible first | exact HK.out | apply qg | apply qh | apply qj | apply qi) | exact HK.out)⟩
 rotate_left 3
 ·obtain ⟨ASz18_0, cSz18_0, HGz18, hgz18, HSz18_0⟩ := HI0.out;have Am := cellS64_0 HGz18;have An := cellS64_1 HGz18;have Ao := cellS64_2 HGz18;have Ap := blk_frozen HGz18 1;have Aq := blk_frozen HGz18 2;clear HGz18 hgz18;go_enter Try.func29, Try.ntmps29
  go_wp2
  repeat (go_quiet (fail); try go_wp2)
  go_ret
  exact ⟨by first | rfl | (simp [errW_none, errW_some] <;> rfl) | (simp [*, errW_none, errW_some] <;> rfl), by repeat (first | (with_reducible first | exact HI0.out | apply qc | apply qb | apply qf | apply qd | apply qe) | exact HI0.out), by repeat (first | (with_reducible first | exact HB.out | apply qo | apply qn | apply qm | refine ql ?_ (IsS64.ge HI0.out)) | exact HB.out), by repeat (first | (with_reducible first | exact HK.out | apply qg | apply qh | apply qj | apply qi) | exact HK.out)⟩
 all_goals
  obtain ⟨ASz12_0, cSz12_0, HGz12, hgz12, HSz12_0⟩ := HI0.out;have Ar := cellS64_0 HGz12;have As := cellS64_1 HGz12;have At := cellS64_2 HGz12;have Au := blk_frozen HGz12 1;have Av := blk_frozen HGz12 2;clear HGz12 hgz12;have p101 : 0 ≤ (Aa : Int) := od;have q101 : Aa < (Ad.length : Int) := od;obtain ⟨ad101, e101, Ae⟩ := Kd.at_int HSz12_0 Aa p101 q101;cases e101
  have hn101_0 : ad101.block ≠ g := Nat.ne_of_lt (Nat.lt_of_lt_of_le (by have := World.block_lt_of_cell? _ _ Ae; first | rwa [add_block] at this | exact this) (IsS64.ge HI0.out));replace Ae := pw_cell_below HB.out Ae;replace Ae := (cell_far (p := ⟨g, 2, none⟩) (by first | (rw [add_block]; exact hn101_0) | (show (Addr.add _ _).block ≠ _; rw [add_block]; exact hn101_0) | exact hn101_0) (.int .i64 (Int.tmod (wrap64 ((wrap64 (Ac * 48271)) + 67)) 2147483647))).trans Ae;(try have Aw := fun (n_ : Nat) => (show (((w.drewN n_).setCell ⟨g, 2, none⟩ (.int .i64 (Int.tmod (wrap64 ((wrap64 (Ac * 48271)) + 67)) 2147483647)))).cell? _ = some _ from Ae));clear hn101_0;replace p101 := eq_true p101;replace q101 := eq_true q101
 have p102 : 0 ≤ ((Ag) : Int) := od
 have q102 : (Ag) < (Ad.length : Int) := od
 obtain ⟨ad102, e102, Ab⟩ := Kd.at_int HSz12_0 (Ag) p102 q102
 obtain rfl : ad101 = ad102 := (by injection e102)
 have hn102_0 : ad101.block ≠ g := Nat.ne_of_lt (Nat.lt_of_lt_of_le (by have := World.block_lt_of_cell? _ _ Ab; first | rwa [add_block] at this | exact this) (IsS64.ge HI0.out))
 have hn102_1 : ad101.block ≠ g := Nat.ne_of_lt (Nat.lt_of_lt_of_le (by have := World.block_lt_of_cell? _ _ Ab; first | rwa [add_block] at this | exact this) (IsS64.ge HI0.out))
 replace Ab := pw_cell_below HB.out Ab
 replace Ab := (cell_far (p := ⟨g, 2, none⟩) (by first | (rw [add_block]; exact hn102_0) | (show (Addr.add _ _).block ≠ _; rw [add_block]; exact hn102_0) | exact hn102_0) (.int .i64 (Int.tmod (wrap64 ((wrap64 (Ac * 48271)) + 67)) 2147483647))).trans Ab
 replace Ab := (cell_far (p := ⟨g, 1, none⟩) (by first | (rw [add_block]; exact hn102_1) | (show (Addr.add _ _).block ≠ _; rw [add_block]; exact hn102_1) | exact hn102_1) (.int .i64 (wrap64 (Aa + 1)))).trans Ab
 (try have Ax := fun (n_ : Nat) => (show ((((w.drewN n_).setCell ⟨g, 2, none⟩ (.int .i64 (Int.tmod (wrap64 ((wrap64 (Ac * 48271)) + 67)) 2147483647))).setCell ⟨g, 1, none⟩ (.int .i64 (wrap64 (Aa + 1))))).cell? _ = some _ from Ab))
 (try have hz102_0 := fun (n_ : Nat) => (show ((((w.setCell ⟨g, 2, none⟩ (.int .i64 (Int.tmod (wrap64 ((wrap64 (Ac * 48271)) + 67)) 2147483647))).drewN n_).setCell ⟨g, 1, none⟩ (.int .i64 (wrap64 (Aa + 1))))).cell? _ = some _ from Ab))
 clear hn102_0
 clear hn102_1
 replace p102 := eq_true p102
 replace q102 := eq_true q102
 rotate_left 3
 all_goals
  go_enter Try.func29, Try.ntmps29
  go_wp2
  repeat (go_quiet (fail); try go_wp2)
  go_ret
 ·exact ⟨by first | rfl | (simp [errW_none, errW_some] <;> rfl) | (simp only [← Af]; first | rfl | (simp [errW_none, errW_some] <;> rfl)) | (simp [*, errW_none, errW_some] <;> rfl), by repeat (first | (with_reducible first | exact HI0.out | apply qc | apply qb | apply qf | apply qd | apply qe) | exact HI0.out), by repeat (first | (with_reducible first | exact HB.out | apply qo | apply qn | apply qm | refine ql ?_ (IsS64.ge HI0.out)) | exact HB.out), by repeat (first | (with_reducible first | exact HK.out | apply qg | apply qh | apply qj | apply qi) | exact HK.out)⟩
 rotate_left 2
 all_goals
  exact ⟨by first | rfl | (simp [errW_none, errW_some] <;> rfl) | (simp [*, errW_none, errW_some] <;> rfl), by repeat (first | (with_reducible first | exact HI0.out | apply qc | apply qb | apply qf | apply qd | apply qe) | exact HI0.out), by repeat (first | (with_reducible first | exact HB.out | apply qo | apply qn | apply qm | refine ql ?_ (IsS64.ge HI0.out)) | exact HB.out), by repeat (first | (with_reducible first | exact HK.out | apply qg | apply qh | apply qj | apply qi) | exact HK.out)⟩
def spec_l01Pick.f (Ac : List Int) (Ad : Int) (Ae : Int) (l1 : List Int) : Option (Int × Int × Int) := (spec_l01Next.f Ac Ad Ae (l1.length : Int)).bind fun Aa => (if 0 ≤ Aa.1 then (if Aa.1 < (l1.length : Int) then (some (rd l1 Aa.1, Aa.2.1, Aa.2.2)) else (none)) else (none))
theorem spec_l01Pick.calls (g : Nat) (Ac : List Int) (Ad : Int) (Ae : Int) (A1 : Option Addr) (c1 : Nat) (l1 : List Int) (r1 : Int) (r2 : Int) (r3 : Int) (w0 w : World) (hI : IsS64 w0 w g Ac Ad Ae) (hB : Below w0.heap.size w0 w) (hr1 : Kd.C (Kd.int .i64) w A1 l1.length l1) (hc1 : l1.length ≤ c1) (hf1 : ∀ ad, A1 = some ad → 0 < l1.length → ad.block ≠ g) (h : spec_l01Pick.f Ac Ad Ae l1 = some (r1, r2, r3)) :
  Calls Try.prog 69 #[.pointer (some ⟨g, 0, none⟩), .slice A1 l1.length c1] w fun e w' => e = .returned (.int .i64 r1) ∧ IsS64 w0 w' g Ac r2 r3 ∧ Below w0.heap.size w0 w' ∧ KeepBut w w' g none := by
 have HR1 := Aside0.mk hr1
 have Ak := Aside0.mk hc1
 clear hr1 hc1
 have HI0 := Aside0.mk hI
 have HK := asd (KeepBut.refl w g none)
 have HL := Aside0.mk hB.size
 clear hI
 have HW0 := Aside0.mk hB.size
 have HB := Aside0.mk hB
 clear hB
 have H : ((spec_l01Next.f Ac Ad Ae (l1.length : Int)).bind fun Aa => (if 0 ≤ Aa.1 then (if Aa.1 < (l1.length : Int) then (some (rd l1 Aa.1, Aa.2.1, Aa.2.2)) else (none)) else (none))) = some (r1, r2, r3) := h
 clear h
 obtain ⟨⟨Af, Ag, Ah⟩, A3, H⟩ := ob H
 try dsimp only at H
 by_cases c4 : 0 ≤ Af
 ·rw [if_pos c4] at H;have Ai := qp c4;clear c4;by_cases c5 : Af < (l1.length : Int)
  ·rw [if_pos c5] at H;have Aj := qp c5;clear c5;simp only [Option.some.injEq, Prod.mk.injEq] at H;obtain ⟨rfl, rfl, rfl⟩ := H;go_enter Try.func69, Try.ntmps69
   go_wp2_with (first | ((with_reducible refine gate_callee (f := 29) rfl ?_); refine gl 9 Try.func29 #[.pointer (some ⟨g, 0, none⟩), .int .i64 (l1.length : Int)] ?_; (with_reducible refine (spec_l01Next.calls _ _ _ _ _ _ _ _ w0 _ ?side1 ?side2 A3.out).mono ?_); (case side1 => repeat (first | (with_reducible first | exact HI0.out | apply qc | apply qb | apply qf | apply qd | apply qe) | exact HI0.out)); (case side2 => repeat (first | (with_reducible first | exact HB.out | apply qo | apply qn | apply qm | refine ql ?_ (IsS64.ge HI0.out)) | exact HB.out)); rintro e w6 ⟨rfl, hi, hb, hk⟩; refine ⟨_, rfl, ?_⟩; replace HK := asd (KeepBut.trans (by repeat (first | (with_reducible first | exact HK.out | apply qg | apply qh | apply qj | apply qi) | exact HK.out)) hk (.inl rfl)); replace HB := asd (hb); replace HI0 := asd (hi); (try clear hb); (try clear hb2); (try clear hk); (try clear hi); have p106 : 0 ≤ (Af : Int) := od; have q106 : Af < (l1.length : Int) := od; obtain ⟨ad106, e106, Ab⟩ := Kd.at_int HR1.out Af p106 q106; cases e106; replace Ab := keep_cell HK.out Ab (by first | (rw [add_block]; exact hf1 _ rfl (by omega)) | exact hf1 _ rfl (by omega) | exact hf1 ad106 rfl (by omega)); replace p106 := eq_true p106; replace q106 := eq_true q106));go_ret
   exact ⟨by first | rfl | (simp [errW_none, errW_some] <;> rfl) | (simp [*, errW_none, errW_some] <;> rfl), by repeat (first | (with_reducible first | exact HI0.out | apply qc | apply qb | apply qf | apply qd | apply qe) | exact HI0.out), by repeat (first | (with_reducible first | exact HB.out | apply qo | apply qn | apply qm | refine ql ?_ (IsS64.ge HI0.out)) | exact HB.out), by repeat (first | (with_reducible first | exact HK.out | apply qg | apply qh | apply qj | apply qi) | exact HK.out)⟩
  ·rw [if_neg c5] at H;exact absurd H (by simp)
 ·rw [if_neg c4] at H;exact absurd H (by simp)
def spec_l04DrawFrame.f (Ac : List Int) (Ag : Int) (Ah : Int) : Option (Int × Int × Int) := (spec_l01Next.f Ac Ag Ah 40).bind fun Aa => (if Aa.1 = 0 then ((spec_l01Pick.f Ac Aa.2.1 Aa.2.2 (([(-1), 2] : List Int))).bind fun Ab => (some (Ab.1, Ab.2.1, Ab.2.2))) else ((spec_l01Next.f Ac Aa.2.1 Aa.2.2 2).bind fun Ad => (some (Ad.1, Ad.2.1, Ad.2.2))))
theorem spec_l04DrawFrame.calls (g : Nat) (Ac : List Int) (Ag : Int) (Ah : Int) (r1 : Int) (r2 : Int) (r3 : Int) (w0 w : World) (hI : IsS64 w0 w g Ac Ag Ah) (hB : Below w0.heap.size w0 w) (h : spec_l04DrawFrame.f Ac Ag Ah = some (r1, r2, r3)) :
  Calls Try.prog 46 #[.pointer (some ⟨g, 0, none⟩)] w fun e w' => e = .returned (.int .i64 r1) ∧ IsS64 w0 w' g Ac r2 r3 ∧ Below w0.heap.size w0 w' ∧ KeepBut w w' g none := by
 have HI0 := Aside0.mk hI
 have HK := asd (KeepBut.refl w g none)
 have HL := Aside0.mk hB.size
 clear hI
 have HW0 := Aside0.mk hB.size
 have HB := Aside0.mk hB
 clear hB
 have H : ((spec_l01Next.f Ac Ag Ah 40).bind fun Aa => (if Aa.1 = 0 then ((spec_l01Pick.f Ac Aa.2.1 Aa.2.2 (([(-1), 2] : List Int))).bind fun Ab => (some (Ab.1, Ab.2.1, Ab.2.2))) else ((spec_l01Next.f Ac Aa.2.1 Aa.2.2 2).bind fun Ad => (some (Ad.1, Ad.2.1, Ad.2.2))))) = some (r1, r2, r3) := h
 clear h
 obtain ⟨⟨Ai, Ak, Al⟩, A2, H⟩ := ob H
 try dsimp only at H
 by_cases c3 : Ai = 0
 rw [if_pos c3] at H
 have Ao : (Ai == 0) = true := beq_iff_eq.mpr c3
 have Ap : (Ai != 0) = false := bne_eq_false_iff_eq.mpr c3
 clear c3
 obtain ⟨Am, Af⟩ : ∃ y_ : List Int, y_ = (([(-1), 2] : List Int)) := ⟨_, rfl⟩
 replace H : ((spec_l01Pick.f Ac Ak Al Am).bind fun Ab => (some (Ab.1, Ab.2.1, Ab.2.2))) = some (r1, r2, r3) := by first | (rw [Af]; with_reducible exact H) | (have H2_ := (Option.bind_some _ _).symm.trans H; rw [Af]; with_reducible exact H2_) | (have H2_ := (Option.bind_some _ _).symm.trans H; with_reducible exact H2_) | with_reducible exact H | (rw [Af]; exact H) | exact H
 have Aj := Aside0.mk Af
 clear Af
 obtain ⟨⟨Aq, Ar, As⟩, A4, H⟩ := ob H
 try dsimp only at H
 rotate_left
 rw [if_neg c3] at H
 have Ao : (Ai == 0) = false := beq_eq_false_iff_ne.mpr c3
 have Ap : (Ai != 0) = true := bne_iff_ne.mpr c3
 obtain ⟨⟨At, Au, Av⟩, Aw, H⟩ := ob H
 try dsimp only at H
 rotate_left
 all_goals
  simp only [Option.some.injEq, Prod.mk.injEq] at H;obtain ⟨rfl, rfl, rfl⟩ := H;go_enter Try.func46, Try.ntmps46
  go_wp2_with (first | ((with_reducible refine gate_callee (f := 29) rfl ?_); refine gl 4 Try.func29 #[.pointer (some ⟨g, 0, none⟩), .int .i64 40] ?_; (with_reducible refine (spec_l01Next.calls _ _ _ _ _ _ _ _ w0 _ ?side1 ?side2 A2.out).mono ?_); (case side1 => repeat (first | (with_reducible first | exact HI0.out | apply qc | apply qb | apply qf | apply qd | apply qe) | exact HI0.out)); (case side2 => repeat (first | (with_reducible first | exact HB.out | apply qo | apply qn | apply qm | refine ql ?_ (IsS64.ge HI0.out)) | exact HB.out)); rintro e w5 ⟨rfl, hi, hb, hk⟩; refine ⟨_, rfl, ?_⟩; replace HK := asd (KeepBut.trans (by repeat (first | (with_reducible first | exact HK.out | apply qg | apply qh | apply qj | apply qi) | exact HK.out)) hk (.inl rfl)); replace HB := asd (hb); replace HI0 := asd (hi); (try clear hb); (try clear hb2); (try clear hk); (try clear hi)) | ((with_reducible refine gd 7 rfl ?_); refine Kd.R_lit (Kd.int .i64) _ 2 ?hg (N := 7) ?hd (xs := ([(-1), 2] : List Int)) (inner := [.int .i64 (-1), .int .i64 2]) (ok := fun _ => True) (okp := fun _ => True) ?hr ?hp (fun _ hk => hk) trivial (Below.refl _ _) (Nat.le_refl _) (by simp) ?_; (case hd => rfl); (case hg => rfl); (case hr => first | (go_simp; done) | (go_simp; rfl)); (case hp => exact (Reps.one (show Kd.M (Kd.int .i64) _ _ _ (-1) [.int .i64 (-1)] from rfl) (Reps.one (show Kd.M (Kd.int .i64) _ _ _ 2 [.int .i64 2] from rfl) (Reps.none _ _)))); intro v111 w6 An hb hg_ hnew_; clear hg_ hnew_; (first | rw [← Aj.out] at An | (simp only [Int.reduceToNat] at An; rw [← Aj.out] at An)); have Ae := asd (Kd.R_lower An (keep_size (w := w) (g := g) (row := none) (by repeat (first | (with_reducible first | exact HK.out | apply qg | apply qh | apply qj | apply qi) | exact HK.out)))); replace HK := asd (KeepBut.trans (by repeat (first | (with_reducible first | exact HK.out | apply qg | apply qh | apply qj | apply qi) | exact HK.out)) (KeepBut.of_below hb g none) (.inl rfl)); replace HB := asd (below_step (by repeat (first | (with_reducible first | exact HB.out | apply qo | apply qn | apply qm | refine ql ?_ (IsS64.ge HI0.out)) | exact HB.out)) hb); replace HI0 := asd (IsS64.below (by repeat (first | (with_reducible first | exact HI0.out | apply qc | apply qb | apply qf | apply qd | apply qe) | exact HI0.out)) hb); clear hb An; obtain ⟨Ao8, co8, eo8⟩ := Kd.R_slice Ae.out; subst eo8) | ((with_reducible refine gate_callee (f := 69) rfl ?_); refine gl 8 Try.func69 #[.pointer (some ⟨g, 0, none⟩), .slice Ao8 Am.length co8] ?_; (with_reducible refine (spec_l01Pick.calls _ _ _ _ _ _ _ _ _ _ w0 _ ?side1 ?side2 ?side3 ?side4 ?side5 A4.out).mono ?_); (case side1 => repeat (first | (with_reducible first | exact HI0.out | apply qc | apply qb | apply qf | apply qd | apply qe) | exact HI0.out)); (case side2 => repeat (first | (with_reducible first | exact HB.out | apply qo | apply qn | apply qm | refine ql ?_ (IsS64.ge HI0.out)) | exact HB.out)); (case side3 => exact ks (Kd.R_reads' Ae.out).2.2); (case side4 => exact (Kd.R_reads' Ae.out).2.1); (case side5 => exact far_slice (IsS64.own_ne HI0.out Ae.out (by decide))); rintro e w9 ⟨rfl, hi, hb, hk⟩; refine ⟨_, rfl, ?_⟩; replace Ae := asd (Kd.R_mono (Kd.R_keep (IsS64.apart (show IsS64 w0 _ g Ac Ak Al from by repeat (first | (with_reducible first | exact HI0.out | apply qc | apply qb | apply qf | apply qd | apply qe) | exact HI0.out)) (kr Ae) (by decide)) hk (fun _ h => h.2)) (fun _ h => h.1)); replace HK := asd (KeepBut.trans (by repeat (first | (with_reducible first | exact HK.out | apply qg | apply qh | apply qj | apply qi) | exact HK.out)) hk (.inl rfl)); replace HB := asd (hb); replace HI0 := asd (hi); (try clear hb); (try clear hb2); (try clear hk); (try clear hi)) | ((with_reducible refine gate_callee (f := 29) rfl ?_); refine gl 10 Try.func29 #[.pointer (some ⟨g, 0, none⟩), .int .i64 2] ?_; (with_reducible refine (spec_l01Next.calls _ _ _ _ _ _ _ _ w0 _ ?side1 ?side2 Aw.out).mono ?_); (case side1 => repeat (first | (with_reducible first | exact HI0.out | apply qc | apply qb | apply qf | apply qd | apply qe) | exact HI0.out)); (case side2 => repeat (first | (with_reducible first | exact HB.out | apply qo | apply qn | apply qm | refine ql ?_ (IsS64.ge HI0.out)) | exact HB.out)); rintro e Ax ⟨rfl, hi, hb, hk⟩; refine ⟨_, rfl, ?_⟩; replace HK := asd (KeepBut.trans (by repeat (first | (with_reducible first | exact HK.out | apply qg | apply qh | apply qj | apply qi) | exact HK.out)) hk (.inl rfl)); replace HB := asd (hb); replace HI0 := asd (hi); (try clear hb); (try clear hb2); (try clear hk); (try clear hi)));go_ret
  exact ⟨by first | rfl | (simp [errW_none, errW_some] <;> rfl) | (simp [*, errW_none, errW_some] <;> rfl), by repeat (first | (with_reducible first | exact HI0.out | apply qc | apply qb | apply qf | apply qd | apply qe) | exact HI0.out), by repeat (first | (with_reducible first | exact HB.out | apply qo | apply qn | apply qm | refine ql ?_ (IsS64.ge HI0.out)) | exact HB.out), by repeat (first | (with_reducible first | exact HK.out | apply qg | apply qh | apply qj | apply qi) | exact HK.out)⟩
def spec_l03Draw.f (Al : List Int) (Az : Int) (AA : Int) : Option (Int × Int × Int × Int × Int) := (spec_l01Next.f Al Az AA 6).bind fun Aq => ((spec_l01Next.f Al Aq.2.1 Aq.2.2 6).bind fun As => ((spec_l01Next.f Al As.2.1 As.2.2 (wrap64 (1 + Aq.1))).bind fun Ax => ((spec_l01Next.f Al Ax.2.1 Ax.2.2 60).bind fun Am => (if Am.1 = 0 then ((spec_l01Pick.f Al Am.2.1 Am.2.2 (([0, 64, 65, 8] : List Int))).bind fun At => (some (At.1, Ax.1, wrap64 (1 + As.1), At.2.1, At.2.2))) else (if Am.1 = 1 then ((spec_l01Pick.f Al Am.2.1 Am.2.2 (([(-1), wrap64 (1 + Aq.1), wrap64 ((wrap64 (1 + Aq.1)) - 1)] : List Int))).bind fun Au => (some (wrap64 (1 + Aq.1), Au.1, wrap64 (1 + As.1), Au.2.1, Au.2.2))) else (if Am.1 = 2 then ((spec_l01Pick.f Al Am.2.1 Am.2.2 (([8, 9] : List Int))).bind fun Av => (some (8, 3, Av.1, Av.2.1, Av.2.2))) else (some (wrap64 (1 + Aq.1), Ax.1, wrap64 (1 + As.1), Am.2.1, Am.2.2))))))))
theorem spec_l03Draw.calls (g : Nat) (Al : List Int) (Az : Int) (AA : Int) (r1 : Int) (r2 : Int) (r3 : Int) (r4 : Int) (r5 : Int) (w0 w : World) (hI : IsS64 w0 w g Al Az AA) (hB : Below w0.heap.size w0 w) (h : spec_l03Draw.f Al Az AA = some (r1, r2, r3, r4, r5)) :
  Calls Try.prog 47 #[.pointer (some ⟨g, 0, none⟩)] w fun e w' => e = .returned (.agg #[.int .i64 r1, .int .i64 r2, .int .i64 r3]) ∧ IsS64 w0 w' g Al r4 r5 ∧ Below w0.heap.size w0 w' ∧ KeepBut w w' g none := by
 have hu25 := Try.underlying25
 have HI0 := Aside0.mk hI
 have HK := asd (KeepBut.refl w g none)
 have HL := Aside0.mk hB.size
 clear hI
 have HW0 := Aside0.mk hB.size
 have HB := Aside0.mk hB
 clear hB
 have H : ((spec_l01Next.f Al Az AA 6).bind fun Aq => ((spec_l01Next.f Al Aq.2.1 Aq.2.2 6).bind fun As => ((spec_l01Next.f Al As.2.1 As.2.2 (wrap64 (1 + Aq.1))).bind fun Ax => ((spec_l01Next.f Al Ax.2.1 Ax.2.2 60).bind fun Am => (if Am.1 = 0 then ((spec_l01Pick.f Al Am.2.1 Am.2.2 (([0, 64, 65, 8] : List Int))).bind fun At => (some (At.1, Ax.1, wrap64 (1 + As.1), At.2.1, At.2.2))) else (if Am.1 = 1 then ((spec_l01Pick.f Al Am.2.1 Am.2.2 (([(-1), wrap64 (1 + Aq.1), wrap64 ((wrap64 (1 + Aq.1)) - 1)] : List Int))).bind fun Au => (some (wrap64 (1 + Aq.1), Au.1, wrap64 (1 + As.1), Au.2.1, Au.2.2))) else (if Am.1 = 2 then ((spec_l01Pick.f Al Am.2.1 Am.2.2 (([8, 9] : List Int))).bind fun Av => (some (8, 3, Av.1, Av.2.1, Av.2.2))) else (some (wrap64 (1 + Aq.1), Ax.1, wrap64 (1 + As.1), Am.2.1, Am.2.2))))))))) = some (r1, r2, r3, r4, r5) := h
 clear h
 obtain ⟨⟨Ap, C4, C5⟩, A2, H⟩ := ob H
 try dsimp only at H
 obtain ⟨⟨Ay, AI, AJ⟩, A3, H⟩ := ob H
 try dsimp only at H
 obtain ⟨⟨AE, C6, C7⟩, A4, H⟩ := ob H
 try dsimp only at H
 obtain ⟨⟨Aw, AK, AL⟩, A5, H⟩ := ob H
 try dsimp only at H
 by_cases c6 : Aw = 0
 rw [if_pos c6] at H
 have CF : (Aw == 0) = true := beq_iff_eq.mpr c6
 have CG : (Aw != 0) = false := bne_eq_false_iff_eq.mpr c6
 clear c6
 obtain ⟨AU, AF⟩ : ∃ y_ : List Int, y_ = (([0, 64, 65, 8] : List Int)) := ⟨_, rfl⟩
 replace H : ((spec_l01Pick.f Al AK AL AU).bind fun At => (some (At.1, AE, wrap64 (1 + Ay), At.2.1, At.2.2))) = some (r1, r2, r3, r4, r5) := by first | (rw [AF]; with_reducible exact H) | (have H2_ := (Option.bind_some _ _).symm.trans H; rw [AF]; with_reducible exact H2_) | (have H2_ := (Option.bind_some _ _).symm.trans H; with_reducible exact H2_) | with_reducible exact H | (rw [AF]; exact H) | exact H
 have AP := Aside0.mk AF
 clear AF
 obtain ⟨⟨CH, C8, C9⟩, A7, H⟩ := ob H
 try dsimp only at H
 rotate_left
 rw [if_neg c6] at H
 have CF : (Aw == 0) = false := beq_eq_false_iff_ne.mpr c6
 have CG : (Aw != 0) = true := bne_iff_ne.mpr c6
 by_cases AS : Aw = 1
 rw [if_pos AS] at H
 have AV : (Aw == 1) = true := beq_iff_eq.mpr AS
 have AW : (Aw != 1) = false := bne_eq_false_iff_eq.mpr AS
 clear AS
 obtain ⟨AX, AG⟩ : ∃ y_ : List Int, y_ = (([(-1), wrap64 (1 + Ap), wrap64 ((wrap64 (1 + Ap)) - 1)] : List Int)) := ⟨_, rfl⟩
 replace H : ((spec_l01Pick.f Al AK AL AX).bind fun Au => (some (wrap64 (1 + Ap), Au.1, wrap64 (1 + Ay), Au.2.1, Au.2.2))) = some (r1, r2, r3, r4, r5) := by first | (rw [AG]; with_reducible exact H) | (have H2_ := (Option.bind_some _ _).symm.trans H; rw [AG]; with_reducible exact H2_) | (have H2_ := (Option.bind_some _ _).symm.trans H; with_reducible exact H2_) | with_reducible exact H | (rw [AG]; exact H) | exact H
 have AQ := Aside0.mk AG
 clear AG
 obtain ⟨⟨CI, Da, Db⟩, Dc, H⟩ := ob H
 try dsimp only at H
 rotate_left
 rw [if_neg AS] at H
 have AV : (Aw == 1) = false := beq_eq_false_iff_ne.mpr AS
 have AW : (Aw != 1) = true := bne_iff_ne.mpr AS
 by_cases AT : Aw = 2
 rw [if_pos AT] at H
 have AY : (Aw == 2) = true := beq_iff_eq.mpr AT
 have AZ : (Aw != 2) = false := bne_eq_false_iff_eq.mpr AT
 clear AT
 obtain ⟨A0, AH⟩ : ∃ y_ : List Int, y_ = (([8, 9] : List Int)) := ⟨_, rfl⟩
 replace H : ((spec_l01Pick.f Al AK AL A0).bind fun Av => (some (8, 3, Av.1, Av.2.1, Av.2.2))) = some (r1, r2, r3, r4, r5) := by first | (rw [AH]; with_reducible exact H) | (have H2_ := (Option.bind_some _ _).symm.trans H; rw [AH]; with_reducible exact H2_) | (have H2_ := (Option.bind_some _ _).symm.trans H; with_reducible exact H2_) | with_reducible exact H | (rw [AH]; exact H) | exact H
 have AR := Aside0.mk AH
 clear AH
 obtain ⟨⟨CJ, Dd, De⟩, Df, H⟩ := ob H
 try dsimp only at H
 rotate_left
 rw [if_neg AT] at H
 have AY : (Aw == 2) = false := beq_eq_false_iff_ne.mpr AT
 have AZ : (Aw != 2) = true := bne_iff_ne.mpr AT
 rotate_left
 all_goals
  simp only [Option.some.injEq, Prod.mk.injEq] at H;obtain ⟨rfl, rfl, rfl, rfl, rfl⟩ := H;go_enter Try.func47, Try.ntmps47
 rotate_left
 ·go_wp2_with (first | ((with_reducible refine gd 2 rfl ?_); refine bx #[.int .i64 0, .int .i64 0, .int .i64 0] 25 ?_; intro Ae hg Dg Ab hb; replace HB := asd (below_step (by repeat (first | (with_reducible first | exact HB.out | apply qo | apply qn | apply qm | refine ql ?_ (IsS64.ge HI0.out)) | exact HB.out)) hb); have Ag := asd ((by rw [hg]; exact (keep_size (w := w) (g := g) (row := none) (by repeat (first | (with_reducible first | exact HK.out | apply qg | apply qh | apply qj | apply qi) | exact HK.out))) : w.heap.size ≤ Ae)); have Ai := asd ((Nat.le_trans HW0.out (by rw [hg]; exact (keep_size (w := w) (g := g) (row := none) (by repeat (first | (with_reducible first | exact HK.out | apply qg | apply qh | apply qj | apply qi) | exact HK.out))) : w.heap.size ≤ Ae) : w0.heap.size ≤ Ae)); replace HK := asd (KeepBut.trans (by repeat (first | (with_reducible first | exact HK.out | apply qg | apply qh | apply qj | apply qi) | exact HK.out)) (KeepBut.of_below hb g none) (.inl rfl)); have Aa := asd ((by rw [hg]; exact Nat.ne_of_lt (IsS64.lt (show IsS64 w0 _ g Al Az AA from by repeat (first | (with_reducible first | exact HI0.out | apply qc | apply qb | apply qf | apply qd | apply qe) | exact HI0.out))) : g ≠ Ae)); have Af := asd ((by rw [hg]; exact Nat.ne_of_gt (IsS64.lt (show IsS64 w0 _ g Al Az AA from by repeat (first | (with_reducible first | exact HI0.out | apply qc | apply qb | apply qf | apply qd | apply qe) | exact HI0.out))) : Ae ≠ g)); replace HI0 := asd (IsS64.below (by repeat (first | (with_reducible first | exact HI0.out | apply qc | apply qb | apply qf | apply qd | apply qe) | exact HI0.out)) hb); clear hb hg) | ((with_reducible refine gate_callee (f := 29) rfl ?_); refine gl 5 Try.func29 #[.pointer (some ⟨g, 0, none⟩), .int .i64 6] ?_; (with_reducible refine (spec_l01Next.calls _ _ _ _ _ _ _ _ w0 _ ?side1 ?side2 A2.out).mono ?_); (case side1 => repeat (first | (with_reducible first | exact HI0.out | apply qc | apply qb | apply qf | apply qd | apply qe | refine qa ?_ Aa.out _) | exact HI0.out)); (case side2 => repeat (first | (with_reducible first | exact HB.out | apply qo | apply qn | apply qm | refine ql ?_ (IsS64.ge HI0.out) | refine ql ?_ Ai.out) | exact HB.out)); rintro e Dh ⟨rfl, hi, hb, hk⟩; refine ⟨_, rfl, ?_⟩; replace Ab := asd (KeepBut.blk hk (g' := Ae) (o := .cells #[.int .i64 0, .int .i64 0, .int .i64 0] 25 (0, 0)) (bkp Ab) Af.out (by simp)); replace HK := asd (KeepBut.trans (by repeat (first | (with_reducible first | exact HK.out | apply qg | apply qh | apply qj | apply qi | refine qk ?_ Ag.out _) | exact HK.out)) hk (.inl rfl)); replace HB := asd (hb); replace HI0 := asd (hi); (try clear hb); (try clear hb2); (try clear hk); (try clear hi)) | ((with_reducible refine gate_callee (f := 29) rfl ?_); refine gl 8 Try.func29 #[.pointer (some ⟨g, 0, none⟩), .int .i64 6] ?_; (with_reducible refine (spec_l01Next.calls _ _ _ _ _ _ _ _ w0 _ ?side1 ?side2 A3.out).mono ?_); (case side1 => repeat (first | (with_reducible first | exact HI0.out | apply qc | apply qb | apply qf | apply qd | apply qe | refine qa ?_ Aa.out _) | exact HI0.out)); (case side2 => repeat (first | (with_reducible first | exact HB.out | apply qo | apply qn | apply qm | refine ql ?_ (IsS64.ge HI0.out) | refine ql ?_ Ai.out) | exact HB.out)); rintro e Di ⟨rfl, hi, hb, hk⟩; refine ⟨_, rfl, ?_⟩; replace Ab := asd (KeepBut.blk hk (g' := Ae) (o := .cells #[.int .i64 0, .int .i64 0, .int .i64 0] 25 (0, 0)) (bkp Ab) Af.out (by simp)); replace HK := asd (KeepBut.trans (by repeat (first | (with_reducible first | exact HK.out | apply qg | apply qh | apply qj | apply qi | refine qk ?_ Ag.out _) | exact HK.out)) hk (.inl rfl)); replace HB := asd (hb); replace HI0 := asd (hi); (try clear hb); (try clear hb2); (try clear hk); (try clear hi)) | ((with_reducible refine gd 3 rfl ?_); refine bx #[.int .i64 0, .int .i64 0, .int .i64 0] 25 ?_; intro Aj hg Dj Ad hb; replace HB := asd (below_step (by repeat (first | (with_reducible first | exact HB.out | apply qo | apply qn | apply qm | refine ql ?_ (IsS64.ge HI0.out) | refine ql ?_ Ai.out) | exact HB.out)) hb); have An := asd ((by rw [hg]; exact (keep_size (w := w) (g := g) (row := none) (by repeat (first | (with_reducible first | exact HK.out | apply qg | apply qh | apply qj | apply qi | refine qk ?_ Ag.out _) | exact HK.out))) : w.heap.size ≤ Aj)); have Ao := asd ((Nat.le_trans HW0.out (by rw [hg]; exact (keep_size (w := w) (g := g) (row := none) (by repeat (first | (with_reducible first | exact HK.out | apply qg | apply qh | apply qj | apply qi | refine qk ?_ Ag.out _) | exact HK.out))) : w.heap.size ≤ Aj) : w0.heap.size ≤ Aj)); replace HK := asd (KeepBut.trans (by repeat (first | (with_reducible first | exact HK.out | apply qg | apply qh | apply qj | apply qi | refine qk ?_ Ag.out _) | exact HK.out)) (KeepBut.of_below hb g none) (.inl rfl)); have Ah := nlt hg Ab; have Ar := nsy (nlt hg Ab); replace Ab := bB Ab hb; have Ac := asd ((by rw [hg]; exact Nat.ne_of_lt (IsS64.lt (show IsS64 w0 _ g Al AI AJ from by repeat (first | (with_reducible first | exact HI0.out | apply qc | apply qb | apply qf | apply qd | apply qe | refine qa ?_ Aa.out _) | exact HI0.out))) : g ≠ Aj)); have Ak := asd ((by rw [hg]; exact Nat.ne_of_gt (IsS64.lt (show IsS64 w0 _ g Al AI AJ from by repeat (first | (with_reducible first | exact HI0.out | apply qc | apply qb | apply qf | apply qd | apply qe | refine qa ?_ Aa.out _) | exact HI0.out))) : Aj ≠ g)); replace HI0 := asd (IsS64.below (by repeat (first | (with_reducible first | exact HI0.out | apply qc | apply qb | apply qf | apply qd | apply qe | refine qa ?_ Aa.out _) | exact HI0.out)) hb); clear hb hg; have CK := Ar.out; have CL := Ah.out; have CM := Ak.out; have CN := Ac.out; obtain ⟨A1, A6, A8, A9, Ba, Bb⟩ := bz3 Ad) | ((with_reducible refine gate_callee (f := 29) rfl ?_); refine gl 14 Try.func29 #[.pointer (some ⟨g, 0, none⟩), .int .i64 (wrap64 (1 + Ap))] ?_; (with_reducible refine (spec_l01Next.calls _ _ _ _ _ _ _ _ w0 _ ?side1 ?side2 A4.out).mono ?_); (case side1 => repeat (first | (with_reducible first | exact HI0.out | apply qc | apply qb | apply qf | apply qd | apply qe | refine qa ?_ Aa.out _ | refine qa ?_ Ac.out _) | exact HI0.out)); (case side2 => repeat (first | (with_reducible first | exact HB.out | apply qo | apply qn | apply qm | refine ql ?_ (IsS64.ge HI0.out) | refine ql ?_ Ai.out | refine ql ?_ Ao.out) | exact HB.out)); rintro e Dk ⟨rfl, hi, hb, hk⟩; refine ⟨_, rfl, ?_⟩; replace Ab := asd (KeepBut.blk hk (g' := Ae) (o := .cells #[.int .i64 0, .int .i64 0, .int .i64 0] 25 (0, 0)) (bq1 Ab Ah) Af.out (by simp)); replace Ad := asd (KeepBut.blk hk (g' := Aj) (o := .cells #[.int .i64 (wrap64 (1 + Ap)), .int .i64 0, .int .i64 (wrap64 (1 + Ay))] 25 (0, 0)) (bq0 Ad) Ak.out (by simp)); replace HK := asd (KeepBut.trans (by repeat (first | (with_reducible first | exact HK.out | apply qg | apply qh | apply qj | apply qi | refine qk ?_ Ag.out _ | refine qk ?_ An.out _) | exact HK.out)) hk (.inl rfl)); replace HB := asd (hb); replace HI0 := asd (hi); (try clear hb); (try clear hb2); (try clear hk); (try clear hi); obtain ⟨Bc, Bd, Be, Bf, Bg, Bh⟩ := bz3 Ad) | ((with_reducible refine gate_callee (f := 29) rfl ?_); refine gl 17 Try.func29 #[.pointer (some ⟨g, 0, none⟩), .int .i64 60] ?_; (with_reducible refine (spec_l01Next.calls _ _ _ _ _ _ _ _ w0 _ ?side1 ?side2 A5.out).mono ?_); (case side1 => repeat (first | (with_reducible first | exact HI0.out | apply qc | apply qb | apply qf | apply qd | apply qe | refine qa ?_ Aa.out _ | refine qa ?_ Ac.out _) | exact HI0.out)); (case side2 => repeat (first | (with_reducible first | exact HB.out | apply qo | apply qn | apply qm | refine ql ?_ (IsS64.ge HI0.out) | refine ql ?_ Ai.out | refine ql ?_ Ao.out) | exact HB.out)); rintro e Dl ⟨rfl, hi, hb, hk⟩; refine ⟨_, rfl, ?_⟩; replace Ab := asd (KeepBut.blk hk (g' := Ae) (o := .cells #[.int .i64 0, .int .i64 0, .int .i64 0] 25 (0, 0)) (bq1 Ab Ah) Af.out (by simp)); replace Ad := asd (KeepBut.blk hk (g' := Aj) (o := .cells #[.int .i64 (wrap64 (1 + Ap)), .int .i64 AE, .int .i64 (wrap64 (1 + Ay))] 25 (0, 0)) (bq0 Ad) Ak.out (by simp)); replace HK := asd (KeepBut.trans (by repeat (first | (with_reducible first | exact HK.out | apply qg | apply qh | apply qj | apply qi | refine qk ?_ Ag.out _ | refine qk ?_ An.out _) | exact HK.out)) hk (.inl rfl)); replace HB := asd (hb); replace HI0 := asd (hi); (try clear hb); (try clear hb2); (try clear hk); (try clear hi); obtain ⟨Bi, Bj, Bk, Bl, Bm, Bn⟩ := bz3 Ad) | ((with_reducible refine gd 32 rfl ?_); refine Kd.R_lit (Kd.int .i64) _ 2 ?hg (N := 32) ?hd (xs := ([(-1), wrap64 (1 + Ap), wrap64 ((wrap64 (1 + Ap)) - 1)] : List Int)) (inner := [.int .i64 (-1), .int .i64 (wrap64 (1 + Ap)), .int .i64 (wrap64 ((wrap64 (1 + Ap)) - 1))]) (ok := fun _ => True) (okp := fun _ => True) ?hr ?hp (fun _ hk => hk) trivial (Below.refl _ _) (Nat.le_refl _) (by simp) ?_; (case hd => rfl); (case hg => rfl); (case hr => first | (go_simp; done) | (go_simp; rfl)); (case hp => exact (Reps.one (show Kd.M (Kd.int .i64) _ _ _ (-1) [.int .i64 (-1)] from rfl) (Reps.one (show Kd.M (Kd.int .i64) _ _ _ (wrap64 (1 + Ap)) [.int .i64 (wrap64 (1 + Ap))] from rfl) (Reps.one (show Kd.M (Kd.int .i64) _ _ _ (wrap64 ((wrap64 (1 + Ap)) - 1)) [.int .i64 (wrap64 ((wrap64 (1 + Ap)) - 1))] from rfl) (Reps.none _ _))))); intro v140 Dm AM hb hg_ hnew_; clear hg_ hnew_; (first | rw [← AQ.out] at AM | (simp only [Int.reduceToNat] at AM; rw [← AQ.out] at AM)); have AB := asd (Kd.R_lower AM (keep_size (w := w) (g := g) (row := none) (by repeat (first | (with_reducible first | exact HK.out | apply qg | apply qh | apply qj | apply qi | refine qk ?_ Ag.out _ | refine qk ?_ An.out _) | exact HK.out)))); replace Ab := bB Ab hb; replace Ad := bB Ad hb; replace HK := asd (KeepBut.trans (by repeat (first | (with_reducible first | exact HK.out | apply qg | apply qh | apply qj | apply qi | refine qk ?_ Ag.out _ | refine qk ?_ An.out _) | exact HK.out)) (KeepBut.of_below hb g none) (.inl rfl)); replace HB := asd (below_step (by repeat (first | (with_reducible first | exact HB.out | apply qo | apply qn | apply qm | refine ql ?_ (IsS64.ge HI0.out) | refine ql ?_ Ai.out | refine ql ?_ Ao.out) | exact HB.out)) hb); replace HI0 := asd (IsS64.below (by repeat (first | (with_reducible first | exact HI0.out | apply qc | apply qb | apply qf | apply qd | apply qe | refine qa ?_ Aa.out _ | refine qa ?_ Ac.out _) | exact HI0.out)) hb); clear hb AM; obtain ⟨Ao40, co40, eo40⟩ := Kd.R_slice AB.out; subst eo40) | ((with_reducible refine gate_callee (f := 69) rfl ?_); refine gl 33 Try.func69 #[.pointer (some ⟨g, 0, none⟩), .slice Ao40 AX.length co40] ?_; (with_reducible refine (spec_l01Pick.calls _ _ _ _ _ _ _ _ _ _ w0 _ ?side1 ?side2 ?side3 ?side4 ?side5 Dc.out).mono ?_); (case side1 => repeat (first | (with_reducible first | exact HI0.out | apply qc | apply qb | apply qf | apply qd | apply qe | refine qa ?_ Aa.out _ | refine qa ?_ Ac.out _) | exact HI0.out)); (case side2 => repeat (first | (with_reducible first | exact HB.out | apply qo | apply qn | apply qm | refine ql ?_ (IsS64.ge HI0.out) | refine ql ?_ Ai.out | refine ql ?_ Ao.out) | exact HB.out)); (case side3 => exact ks (Kd.R_reads' AB.out).2.2); (case side4 => exact (Kd.R_reads' AB.out).2.1); (case side5 => exact far_slice (IsS64.own_ne HI0.out AB.out (by decide))); rintro e Dn ⟨rfl, hi, hb, hk⟩; refine ⟨_, rfl, ?_⟩; replace Ab := asd (KeepBut.blk hk (g' := Ae) (o := .cells #[.int .i64 0, .int .i64 0, .int .i64 0] 25 (0, 0)) (bkp Ab) Af.out (by simp)); replace Ad := asd (KeepBut.blk hk (g' := Aj) (o := .cells #[.int .i64 (wrap64 (1 + Ap)), .int .i64 AE, .int .i64 (wrap64 (1 + Ay))] 25 (0, 0)) (bkp Ad) Ak.out (by simp)); replace AB := asd (Kd.R_mono (Kd.R_keep (IsS64.apart (show IsS64 w0 _ g Al AK AL from by repeat (first | (with_reducible first | exact HI0.out | apply qc | apply qb | apply qf | apply qd | apply qe | refine qa ?_ Aa.out _ | refine qa ?_ Ac.out _) | exact HI0.out)) (kr AB) (by decide)) hk (fun _ h => h.2)) (fun _ h => h.1)); replace HK := asd (KeepBut.trans (by repeat (first | (with_reducible first | exact HK.out | apply qg | apply qh | apply qj | apply qi | refine qk ?_ Ag.out _ | refine qk ?_ An.out _) | exact HK.out)) hk (.inl rfl)); replace HB := asd (hb); replace HI0 := asd (hi); (try clear hb); (try clear hb2); (try clear hk); (try clear hi); obtain ⟨Bo, Bp, Bq, Br, Bs, Bt⟩ := bz3 Ad; have CO := Af.out; have CP := Aa.out; obtain ⟨Bu, Bv, Bw, Bx, By, Bz⟩ := bz3 Ab));refine bodyPost_ret (results_cell_row rfl _ _ Ae 25 #[.int .i64 (wrap64 (1 + Ap)), .int .i64 CI, .int .i64 (wrap64 (1 + Ay))] (0, 0) _ rfl (bq1 Ab Ah) Try.underlying25 rfl (by kernel_rfl)) rfl ?_;exact ⟨by first | rfl | (simp [errW_none, errW_some] <;> rfl) | (simp [*, errW_none, errW_some] <;> rfl), by repeat (first | (with_reducible first | exact HI0.out | apply qc | apply qb | apply qf | apply qd | apply qe | refine qa ?_ Aa.out _ | refine qa ?_ Ac.out _) | exact HI0.out), by repeat (first | (with_reducible first | exact HB.out | apply qo | apply qn | apply qm | refine ql ?_ (IsS64.ge HI0.out) | refine ql ?_ Ai.out | refine ql ?_ Ao.out) | exact HB.out), by repeat (first | (with_reducible first | exact HK.out | apply qg | apply qh | apply qj | apply qi | refine qk ?_ Ag.out _ | refine qk ?_ An.out _) | exact HK.out)⟩
 rotate_left
 ·go_wp2_with (first | ((with_reducible refine gd 2 rfl ?_); refine bx #[.int .i64 0, .int .i64 0, .int .i64 0] 25 ?_; intro Ae hg Do Ab hb; replace HB := asd (below_step (by repeat (first | (with_reducible first | exact HB.out | apply qo | apply qn | apply qm | refine ql ?_ (IsS64.ge HI0.out)) | exact HB.out)) hb); have Ag := asd ((by rw [hg]; exact (keep_size (w := w) (g := g) (row := none) (by repeat (first | (with_reducible first | exact HK.out | apply qg | apply qh | apply qj | apply qi) | exact HK.out))) : w.heap.size ≤ Ae)); have Ai := asd ((Nat.le_trans HW0.out (by rw [hg]; exact (keep_size (w := w) (g := g) (row := none) (by repeat (first | (with_reducible first | exact HK.out | apply qg | apply qh | apply qj | apply qi) | exact HK.out))) : w.heap.size ≤ Ae) : w0.heap.size ≤ Ae)); replace HK := asd (KeepBut.trans (by repeat (first | (with_reducible first | exact HK.out | apply qg | apply qh | apply qj | apply qi) | exact HK.out)) (KeepBut.of_below hb g none) (.inl rfl)); have Aa := asd ((by rw [hg]; exact Nat.ne_of_lt (IsS64.lt (show IsS64 w0 _ g Al Az AA from by repeat (first | (with_reducible first | exact HI0.out | apply qc | apply qb | apply qf | apply qd | apply qe) | exact HI0.out))) : g ≠ Ae)); have Af := asd ((by rw [hg]; exact Nat.ne_of_gt (IsS64.lt (show IsS64 w0 _ g Al Az AA from by repeat (first | (with_reducible first | exact HI0.out | apply qc | apply qb | apply qf | apply qd | apply qe) | exact HI0.out))) : Ae ≠ g)); replace HI0 := asd (IsS64.below (by repeat (first | (with_reducible first | exact HI0.out | apply qc | apply qb | apply qf | apply qd | apply qe) | exact HI0.out)) hb); clear hb hg) | ((with_reducible refine gate_callee (f := 29) rfl ?_); refine gl 5 Try.func29 #[.pointer (some ⟨g, 0, none⟩), .int .i64 6] ?_; (with_reducible refine (spec_l01Next.calls _ _ _ _ _ _ _ _ w0 _ ?side1 ?side2 A2.out).mono ?_); (case side1 => repeat (first | (with_reducible first | exact HI0.out | apply qc | apply qb | apply qf | apply qd | apply qe | refine qa ?_ Aa.out _) | exact HI0.out)); (case side2 => repeat (first | (with_reducible first | exact HB.out | apply qo | apply qn | apply qm | refine ql ?_ (IsS64.ge HI0.out) | refine ql ?_ Ai.out) | exact HB.out)); rintro e Dp ⟨rfl, hi, hb, hk⟩; refine ⟨_, rfl, ?_⟩; replace Ab := asd (KeepBut.blk hk (g' := Ae) (o := .cells #[.int .i64 0, .int .i64 0, .int .i64 0] 25 (0, 0)) (bkp Ab) Af.out (by simp)); replace HK := asd (KeepBut.trans (by repeat (first | (with_reducible first | exact HK.out | apply qg | apply qh | apply qj | apply qi | refine qk ?_ Ag.out _) | exact HK.out)) hk (.inl rfl)); replace HB := asd (hb); replace HI0 := asd (hi); (try clear hb); (try clear hb2); (try clear hk); (try clear hi)) | ((with_reducible refine gate_callee (f := 29) rfl ?_); refine gl 8 Try.func29 #[.pointer (some ⟨g, 0, none⟩), .int .i64 6] ?_; (with_reducible refine (spec_l01Next.calls _ _ _ _ _ _ _ _ w0 _ ?side1 ?side2 A3.out).mono ?_); (case side1 => repeat (first | (with_reducible first | exact HI0.out | apply qc | apply qb | apply qf | apply qd | apply qe | refine qa ?_ Aa.out _) | exact HI0.out)); (case side2 => repeat (first | (with_reducible first | exact HB.out | apply qo | apply qn | apply qm | refine ql ?_ (IsS64.ge HI0.out) | refine ql ?_ Ai.out) | exact HB.out)); rintro e Dq ⟨rfl, hi, hb, hk⟩; refine ⟨_, rfl, ?_⟩; replace Ab := asd (KeepBut.blk hk (g' := Ae) (o := .cells #[.int .i64 0, .int .i64 0, .int .i64 0] 25 (0, 0)) (bkp Ab) Af.out (by simp)); replace HK := asd (KeepBut.trans (by repeat (first | (with_reducible first | exact HK.out | apply qg | apply qh | apply qj | apply qi | refine qk ?_ Ag.out _) | exact HK.out)) hk (.inl rfl)); replace HB := asd (hb); replace HI0 := asd (hi); (try clear hb); (try clear hb2); (try clear hk); (try clear hi)) | ((with_reducible refine gd 3 rfl ?_); refine bx #[.int .i64 0, .int .i64 0, .int .i64 0] 25 ?_; intro Aj hg Dr Ad hb; replace HB := asd (below_step (by repeat (first | (with_reducible first | exact HB.out | apply qo | apply qn | apply qm | refine ql ?_ (IsS64.ge HI0.out) | refine ql ?_ Ai.out) | exact HB.out)) hb); have An := asd ((by rw [hg]; exact (keep_size (w := w) (g := g) (row := none) (by repeat (first | (with_reducible first | exact HK.out | apply qg | apply qh | apply qj | apply qi | refine qk ?_ Ag.out _) | exact HK.out))) : w.heap.size ≤ Aj)); have Ao := asd ((Nat.le_trans HW0.out (by rw [hg]; exact (keep_size (w := w) (g := g) (row := none) (by repeat (first | (with_reducible first | exact HK.out | apply qg | apply qh | apply qj | apply qi | refine qk ?_ Ag.out _) | exact HK.out))) : w.heap.size ≤ Aj) : w0.heap.size ≤ Aj)); replace HK := asd (KeepBut.trans (by repeat (first | (with_reducible first | exact HK.out | apply qg | apply qh | apply qj | apply qi | refine qk ?_ Ag.out _) | exact HK.out)) (KeepBut.of_below hb g none) (.inl rfl)); have Ah := nlt hg Ab; have Ar := nsy (nlt hg Ab); replace Ab := bB Ab hb; have Ac := asd ((by rw [hg]; exact Nat.ne_of_lt (IsS64.lt (show IsS64 w0 _ g Al AI AJ from by repeat (first | (with_reducible first | exact HI0.out | apply qc | apply qb | apply qf | apply qd | apply qe | refine qa ?_ Aa.out _) | exact HI0.out))) : g ≠ Aj)); have Ak := asd ((by rw [hg]; exact Nat.ne_of_gt (IsS64.lt (show IsS64 w0 _ g Al AI AJ from by repeat (first | (with_reducible first | exact HI0.out | apply qc | apply qb | apply qf | apply qd | apply qe | refine qa ?_ Aa.out _) | exact HI0.out))) : Aj ≠ g)); replace HI0 := asd (IsS64.below (by repeat (first | (with_reducible first | exact HI0.out | apply qc | apply qb | apply qf | apply qd | apply qe | refine qa ?_ Aa.out _) | exact HI0.out)) hb); clear hb hg; have CQ := Ar.out; have CR := Ah.out; have CS := Ak.out; have CT := Ac.out; obtain ⟨BA, BB, BC, BD, BE, BF⟩ := bz3 Ad) | ((with_reducible refine gate_callee (f := 29) rfl ?_); refine gl 14 Try.func29 #[.pointer (some ⟨g, 0, none⟩), .int .i64 (wrap64 (1 + Ap))] ?_; (with_reducible refine (spec_l01Next.calls _ _ _ _ _ _ _ _ w0 _ ?side1 ?side2 A4.out).mono ?_); (case side1 => repeat (first | (with_reducible first | exact HI0.out | apply qc | apply qb | apply qf | apply qd | apply qe | refine qa ?_ Aa.out _ | refine qa ?_ Ac.out _) | exact HI0.out)); (case side2 => repeat (first | (with_reducible first | exact HB.out | apply qo | apply qn | apply qm | refine ql ?_ (IsS64.ge HI0.out) | refine ql ?_ Ai.out | refine ql ?_ Ao.out) | exact HB.out)); rintro e Ds ⟨rfl, hi, hb, hk⟩; refine ⟨_, rfl, ?_⟩; replace Ab := asd (KeepBut.blk hk (g' := Ae) (o := .cells #[.int .i64 0, .int .i64 0, .int .i64 0] 25 (0, 0)) (bq1 Ab Ah) Af.out (by simp)); replace Ad := asd (KeepBut.blk hk (g' := Aj) (o := .cells #[.int .i64 (wrap64 (1 + Ap)), .int .i64 0, .int .i64 (wrap64 (1 + Ay))] 25 (0, 0)) (bq0 Ad) Ak.out (by simp)); replace HK := asd (KeepBut.trans (by repeat (first | (with_reducible first | exact HK.out | apply qg | apply qh | apply qj | apply qi | refine qk ?_ Ag.out _ | refine qk ?_ An.out _) | exact HK.out)) hk (.inl rfl)); replace HB := asd (hb); replace HI0 := asd (hi); (try clear hb); (try clear hb2); (try clear hk); (try clear hi); obtain ⟨BG, BH, BI, BJ, BK, BL⟩ := bz3 Ad) | ((with_reducible refine gate_callee (f := 29) rfl ?_); refine gl 17 Try.func29 #[.pointer (some ⟨g, 0, none⟩), .int .i64 60] ?_; (with_reducible refine (spec_l01Next.calls _ _ _ _ _ _ _ _ w0 _ ?side1 ?side2 A5.out).mono ?_); (case side1 => repeat (first | (with_reducible first | exact HI0.out | apply qc | apply qb | apply qf | apply qd | apply qe | refine qa ?_ Aa.out _ | refine qa ?_ Ac.out _) | exact HI0.out)); (case side2 => repeat (first | (with_reducible first | exact HB.out | apply qo | apply qn | apply qm | refine ql ?_ (IsS64.ge HI0.out) | refine ql ?_ Ai.out | refine ql ?_ Ao.out) | exact HB.out)); rintro e Dt ⟨rfl, hi, hb, hk⟩; refine ⟨_, rfl, ?_⟩; replace Ab := asd (KeepBut.blk hk (g' := Ae) (o := .cells #[.int .i64 0, .int .i64 0, .int .i64 0] 25 (0, 0)) (bq1 Ab Ah) Af.out (by simp)); replace Ad := asd (KeepBut.blk hk (g' := Aj) (o := .cells #[.int .i64 (wrap64 (1 + Ap)), .int .i64 AE, .int .i64 (wrap64 (1 + Ay))] 25 (0, 0)) (bq0 Ad) Ak.out (by simp)); replace HK := asd (KeepBut.trans (by repeat (first | (with_reducible first | exact HK.out | apply qg | apply qh | apply qj | apply qi | refine qk ?_ Ag.out _ | refine qk ?_ An.out _) | exact HK.out)) hk (.inl rfl)); replace HB := asd (hb); replace HI0 := asd (hi); (try clear hb); (try clear hb2); (try clear hk); (try clear hi); obtain ⟨BM, BN, BO, BP, BQ, BR⟩ := bz3 Ad; have CU := Af.out; have CV := Aa.out; obtain ⟨BS, BT, BU, BV, BW, BX⟩ := bz3 Ab));refine bodyPost_ret (results_cell_row rfl _ _ Ae 25 #[.int .i64 (wrap64 (1 + Ap)), .int .i64 AE, .int .i64 (wrap64 (1 + Ay))] (0, 0) _ rfl (bq0 Ab) Try.underlying25 rfl (by kernel_rfl)) rfl ?_;exact ⟨by first | rfl | (simp [errW_none, errW_some] <;> rfl) | (simp [*, errW_none, errW_some] <;> rfl), by repeat (first | (with_reducible first | exact HI0.out | apply qc | apply qb | apply qf | apply qd | apply qe | refine qa ?_ Aa.out _ | refine qa ?_ Ac.out _) | exact HI0.out), by repeat (first | (with_reducible first | exact HB.out | apply qo | apply qn | apply qm | refine ql ?_ (IsS64.ge HI0.out) | refine ql ?_ Ai.out | refine ql ?_ Ao.out) | exact HB.out), by repeat (first | (with_reducible first | exact HK.out | apply qg | apply qh | apply qj | apply qi | refine qk ?_ Ag.out _ | refine qk ?_ An.out _) | exact HK.out)⟩
 all_goals
  go_wp2_with (first | ((with_reducible refine gd 2 rfl ?_); refine bx #[.int .i64 0, .int .i64 0, .int .i64 0] 25 ?_; intro Ae hg w8 Ab hb; replace HB := asd (below_step (by repeat (first | (with_reducible first | exact HB.out | apply qo | apply qn | apply qm | refine ql ?_ (IsS64.ge HI0.out)) | exact HB.out)) hb); have Ag := asd ((by rw [hg]; exact (keep_size (w := w) (g := g) (row := none) (by repeat (first | (with_reducible first | exact HK.out | apply qg | apply qh | apply qj | apply qi) | exact HK.out))) : w.heap.size ≤ Ae)); have Ai := asd ((Nat.le_trans HW0.out (by rw [hg]; exact (keep_size (w := w) (g := g) (row := none) (by repeat (first | (with_reducible first | exact HK.out | apply qg | apply qh | apply qj | apply qi) | exact HK.out))) : w.heap.size ≤ Ae) : w0.heap.size ≤ Ae)); replace HK := asd (KeepBut.trans (by repeat (first | (with_reducible first | exact HK.out | apply qg | apply qh | apply qj | apply qi) | exact HK.out)) (KeepBut.of_below hb g none) (.inl rfl)); have Aa := asd ((by rw [hg]; exact Nat.ne_of_lt (IsS64.lt (show IsS64 w0 _ g Al Az AA from by repeat (first | (with_reducible first | exact HI0.out | apply qc | apply qb | apply qf | apply qd | apply qe) | exact HI0.out))) : g ≠ Ae)); have Af := asd ((by rw [hg]; exact Nat.ne_of_gt (IsS64.lt (show IsS64 w0 _ g Al Az AA from by repeat (first | (with_reducible first | exact HI0.out | apply qc | apply qb | apply qf | apply qd | apply qe) | exact HI0.out))) : Ae ≠ g)); replace HI0 := asd (IsS64.below (by repeat (first | (with_reducible first | exact HI0.out | apply qc | apply qb | apply qf | apply qd | apply qe) | exact HI0.out)) hb); clear hb hg) | ((with_reducible refine gate_callee (f := 29) rfl ?_); refine gl 5 Try.func29 #[.pointer (some ⟨g, 0, none⟩), .int .i64 6] ?_; (with_reducible refine (spec_l01Next.calls _ _ _ _ _ _ _ _ w0 _ ?side1 ?side2 A2.out).mono ?_); (case side1 => repeat (first | (with_reducible first | exact HI0.out | apply qc | apply qb | apply qf | apply qd | apply qe | refine qa ?_ Aa.out _) | exact HI0.out)); (case side2 => repeat (first | (with_reducible first | exact HB.out | apply qo | apply qn | apply qm | refine ql ?_ (IsS64.ge HI0.out) | refine ql ?_ Ai.out) | exact HB.out)); rintro e w9 ⟨rfl, hi, hb, hk⟩; refine ⟨_, rfl, ?_⟩; replace Ab := asd (KeepBut.blk hk (g' := Ae) (o := .cells #[.int .i64 0, .int .i64 0, .int .i64 0] 25 (0, 0)) (bkp Ab) Af.out (by simp)); replace HK := asd (KeepBut.trans (by repeat (first | (with_reducible first | exact HK.out | apply qg | apply qh | apply qj | apply qi | refine qk ?_ Ag.out _) | exact HK.out)) hk (.inl rfl)); replace HB := asd (hb); replace HI0 := asd (hi); (try clear hb); (try clear hb2); (try clear hk); (try clear hi)) | ((with_reducible refine gate_callee (f := 29) rfl ?_); refine gl 8 Try.func29 #[.pointer (some ⟨g, 0, none⟩), .int .i64 6] ?_; (with_reducible refine (spec_l01Next.calls _ _ _ _ _ _ _ _ w0 _ ?side1 ?side2 A3.out).mono ?_); (case side1 => repeat (first | (with_reducible first | exact HI0.out | apply qc | apply qb | apply qf | apply qd | apply qe | refine qa ?_ Aa.out _) | exact HI0.out)); (case side2 => repeat (first | (with_reducible first | exact HB.out | apply qo | apply qn | apply qm | refine ql ?_ (IsS64.ge HI0.out) | refine ql ?_ Ai.out) | exact HB.out)); rintro e Du ⟨rfl, hi, hb, hk⟩; refine ⟨_, rfl, ?_⟩; replace Ab := asd (KeepBut.blk hk (g' := Ae) (o := .cells #[.int .i64 0, .int .i64 0, .int .i64 0] 25 (0, 0)) (bkp Ab) Af.out (by simp)); replace HK := asd (KeepBut.trans (by repeat (first | (with_reducible first | exact HK.out | apply qg | apply qh | apply qj | apply qi | refine qk ?_ Ag.out _) | exact HK.out)) hk (.inl rfl)); replace HB := asd (hb); replace HI0 := asd (hi); (try clear hb); (try clear hb2); (try clear hk); (try clear hi)) | ((with_reducible refine gd 3 rfl ?_); refine bx #[.int .i64 0, .int .i64 0, .int .i64 0] 25 ?_; intro Aj hg Dv Ad hb; replace HB := asd (below_step (by repeat (first | (with_reducible first | exact HB.out | apply qo | apply qn | apply qm | refine ql ?_ (IsS64.ge HI0.out) | refine ql ?_ Ai.out) | exact HB.out)) hb); have An := asd ((by rw [hg]; exact (keep_size (w := w) (g := g) (row := none) (by repeat (first | (with_reducible first | exact HK.out | apply qg | apply qh | apply qj | apply qi | refine qk ?_ Ag.out _) | exact HK.out))) : w.heap.size ≤ Aj)); have Ao := asd ((Nat.le_trans HW0.out (by rw [hg]; exact (keep_size (w := w) (g := g) (row := none) (by repeat (first | (with_reducible first | exact HK.out | apply qg | apply qh | apply qj | apply qi | refine qk ?_ Ag.out _) | exact HK.out))) : w.heap.size ≤ Aj) : w0.heap.size ≤ Aj)); replace HK := asd (KeepBut.trans (by repeat (first | (with_reducible first | exact HK.out | apply qg | apply qh | apply qj | apply qi | refine qk ?_ Ag.out _) | exact HK.out)) (KeepBut.of_below hb g none) (.inl rfl)); have Ah := nlt hg Ab; have Ar := nsy (nlt hg Ab); replace Ab := bB Ab hb; have Ac := asd ((by rw [hg]; exact Nat.ne_of_lt (IsS64.lt (show IsS64 w0 _ g Al AI AJ from by repeat (first | (with_reducible first | exact HI0.out | apply qc | apply qb | apply qf | apply qd | apply qe | refine qa ?_ Aa.out _) | exact HI0.out))) : g ≠ Aj)); have Ak := asd ((by rw [hg]; exact Nat.ne_of_gt (IsS64.lt (show IsS64 w0 _ g Al AI AJ from by repeat (first | (with_reducible first | exact HI0.out | apply qc | apply qb | apply qf | apply qd | apply qe | refine qa ?_ Aa.out _) | exact HI0.out))) : Aj ≠ g)); replace HI0 := asd (IsS64.below (by repeat (first | (with_reducible first | exact HI0.out | apply qc | apply qb | apply qf | apply qd | apply qe | refine qa ?_ Aa.out _) | exact HI0.out)) hb); clear hb hg; have CW := Ar.out; have CX := Ah.out; have CY := Ak.out; have CZ := Ac.out; obtain ⟨BY, BZ, B0, B3, B8, Ca⟩ := bz3 Ad) | ((with_reducible refine gate_callee (f := 29) rfl ?_); refine gl 14 Try.func29 #[.pointer (some ⟨g, 0, none⟩), .int .i64 (wrap64 (1 + Ap))] ?_; (with_reducible refine (spec_l01Next.calls _ _ _ _ _ _ _ _ w0 _ ?side1 ?side2 A4.out).mono ?_); (case side1 => repeat (first | (with_reducible first | exact HI0.out | apply qc | apply qb | apply qf | apply qd | apply qe | refine qa ?_ Aa.out _ | refine qa ?_ Ac.out _) | exact HI0.out)); (case side2 => repeat (first | (with_reducible first | exact HB.out | apply qo | apply qn | apply qm | refine ql ?_ (IsS64.ge HI0.out) | refine ql ?_ Ai.out | refine ql ?_ Ao.out) | exact HB.out)); rintro e Dw ⟨rfl, hi, hb, hk⟩; refine ⟨_, rfl, ?_⟩; replace Ab := asd (KeepBut.blk hk (g' := Ae) (o := .cells #[.int .i64 0, .int .i64 0, .int .i64 0] 25 (0, 0)) (bq1 Ab Ah) Af.out (by simp)); replace Ad := asd (KeepBut.blk hk (g' := Aj) (o := .cells #[.int .i64 (wrap64 (1 + Ap)), .int .i64 0, .int .i64 (wrap64 (1 + Ay))] 25 (0, 0)) (bq0 Ad) Ak.out (by simp)); replace HK := asd (KeepBut.trans (by repeat (first | (with_reducible first | exact HK.out | apply qg | apply qh | apply qj | apply qi | refine qk ?_ Ag.out _ | refine qk ?_ An.out _) | exact HK.out)) hk (.inl rfl)); replace HB := asd (hb); replace HI0 := asd (hi); (try clear hb); (try clear hb2); (try clear hk); (try clear hi); obtain ⟨Cb, Cc, Cd, Ce, Cf, Cg⟩ := bz3 Ad) | ((with_reducible refine gate_callee (f := 29) rfl ?_); refine gl 17 Try.func29 #[.pointer (some ⟨g, 0, none⟩), .int .i64 60] ?_; (with_reducible refine (spec_l01Next.calls _ _ _ _ _ _ _ _ w0 _ ?side1 ?side2 A5.out).mono ?_); (case side1 => repeat (first | (with_reducible first | exact HI0.out | apply qc | apply qb | apply qf | apply qd | apply qe | refine qa ?_ Aa.out _ | refine qa ?_ Ac.out _) | exact HI0.out)); (case side2 => repeat (first | (with_reducible first | exact HB.out | apply qo | apply qn | apply qm | refine ql ?_ (IsS64.ge HI0.out) | refine ql ?_ Ai.out | refine ql ?_ Ao.out) | exact HB.out)); rintro e Dx ⟨rfl, hi, hb, hk⟩; refine ⟨_, rfl, ?_⟩; replace Ab := asd (KeepBut.blk hk (g' := Ae) (o := .cells #[.int .i64 0, .int .i64 0, .int .i64 0] 25 (0, 0)) (bq1 Ab Ah) Af.out (by simp)); replace Ad := asd (KeepBut.blk hk (g' := Aj) (o := .cells #[.int .i64 (wrap64 (1 + Ap)), .int .i64 AE, .int .i64 (wrap64 (1 + Ay))] 25 (0, 0)) (bq0 Ad) Ak.out (by simp)); replace HK := asd (KeepBut.trans (by repeat (first | (with_reducible first | exact HK.out | apply qg | apply qh | apply qj | apply qi | refine qk ?_ Ag.out _ | refine qk ?_ An.out _) | exact HK.out)) hk (.inl rfl)); replace HB := asd (hb); replace HI0 := asd (hi); (try clear hb); (try clear hb2); (try clear hk); (try clear hi)) | ((with_reducible refine gd 21 rfl ?_); refine Kd.R_lit (Kd.int .i64) _ 2 ?hg (N := 21) ?hd (xs := ([0, 64, 65, 8] : List Int)) (inner := [.int .i64 0, .int .i64 64, .int .i64 65, .int .i64 8]) (ok := fun _ => True) (okp := fun _ => True) ?hr ?hp (fun _ hk => hk) trivial (Below.refl _ _) (Nat.le_refl _) (by simp) ?_; (case hd => rfl); (case hg => rfl); (case hr => first | (go_simp; done) | (go_simp; rfl)); (case hp => exact (Reps.one (show Kd.M (Kd.int .i64) _ _ _ 0 [.int .i64 0] from rfl) (Reps.one (show Kd.M (Kd.int .i64) _ _ _ 64 [.int .i64 64] from rfl) (Reps.one (show Kd.M (Kd.int .i64) _ _ _ 65 [.int .i64 65] from rfl) (Reps.one (show Kd.M (Kd.int .i64) _ _ _ 8 [.int .i64 8] from rfl) (Reps.none _ _)))))); intro v134 Dy AN hb hg_ hnew_; clear hg_ hnew_; (first | rw [← AP.out] at AN | (simp only [Int.reduceToNat] at AN; rw [← AP.out] at AN)); have AC := asd (Kd.R_lower AN (keep_size (w := w) (g := g) (row := none) (by repeat (first | (with_reducible first | exact HK.out | apply qg | apply qh | apply qj | apply qi | refine qk ?_ Ag.out _ | refine qk ?_ An.out _) | exact HK.out)))); replace Ab := bB Ab hb; replace Ad := bB Ad hb; replace HK := asd (KeepBut.trans (by repeat (first | (with_reducible first | exact HK.out | apply qg | apply qh | apply qj | apply qi | refine qk ?_ Ag.out _ | refine qk ?_ An.out _) | exact HK.out)) (KeepBut.of_below hb g none) (.inl rfl)); replace HB := asd (below_step (by repeat (first | (with_reducible first | exact HB.out | apply qo | apply qn | apply qm | refine ql ?_ (IsS64.ge HI0.out) | refine ql ?_ Ai.out | refine ql ?_ Ao.out) | exact HB.out)) hb); replace HI0 := asd (IsS64.below (by repeat (first | (with_reducible first | exact HI0.out | apply qc | apply qb | apply qf | apply qd | apply qe | refine qa ?_ Aa.out _ | refine qa ?_ Ac.out _) | exact HI0.out)) hb); clear hb AN; obtain ⟨Ao20, co20, eo20⟩ := Kd.R_slice AC.out; subst eo20) | ((with_reducible refine gate_callee (f := 69) rfl ?_); refine gl 22 Try.func69 #[.pointer (some ⟨g, 0, none⟩), .slice Ao20 AU.length co20] ?_; (with_reducible refine (spec_l01Pick.calls _ _ _ _ _ _ _ _ _ _ w0 _ ?side1 ?side2 ?side3 ?side4 ?side5 A7.out).mono ?_); (case side1 => repeat (first | (with_reducible first | exact HI0.out | apply qc | apply qb | apply qf | apply qd | apply qe | refine qa ?_ Aa.out _ | refine qa ?_ Ac.out _) | exact HI0.out)); (case side2 => repeat (first | (with_reducible first | exact HB.out | apply qo | apply qn | apply qm | refine ql ?_ (IsS64.ge HI0.out) | refine ql ?_ Ai.out | refine ql ?_ Ao.out) | exact HB.out)); (case side3 => exact ks (Kd.R_reads' AC.out).2.2); (case side4 => exact (Kd.R_reads' AC.out).2.1); (case side5 => exact far_slice (IsS64.own_ne HI0.out AC.out (by decide))); rintro e Dz ⟨rfl, hi, hb, hk⟩; refine ⟨_, rfl, ?_⟩; replace Ab := asd (KeepBut.blk hk (g' := Ae) (o := .cells #[.int .i64 0, .int .i64 0, .int .i64 0] 25 (0, 0)) (bkp Ab) Af.out (by simp)); replace Ad := asd (KeepBut.blk hk (g' := Aj) (o := .cells #[.int .i64 (wrap64 (1 + Ap)), .int .i64 AE, .int .i64 (wrap64 (1 + Ay))] 25 (0, 0)) (bkp Ad) Ak.out (by simp)); replace AC := asd (Kd.R_mono (Kd.R_keep (IsS64.apart (show IsS64 w0 _ g Al AK AL from by repeat (first | (with_reducible first | exact HI0.out | apply qc | apply qb | apply qf | apply qd | apply qe | refine qa ?_ Aa.out _ | refine qa ?_ Ac.out _) | exact HI0.out)) (kr AC) (by decide)) hk (fun _ h => h.2)) (fun _ h => h.1)); replace HK := asd (KeepBut.trans (by repeat (first | (with_reducible first | exact HK.out | apply qg | apply qh | apply qj | apply qi | refine qk ?_ Ag.out _ | refine qk ?_ An.out _) | exact HK.out)) hk (.inl rfl)); replace HB := asd (hb); replace HI0 := asd (hi); (try clear hb); (try clear hb2); (try clear hk); (try clear hi); obtain ⟨Ch, Ci, Cj, Ck, Cl, Cm⟩ := bz3 Ad; have C0 := Af.out; have C1 := Aa.out; obtain ⟨Cn, Co, Cp, Cq, Cr, Cs⟩ := bz3 Ab) | ((with_reducible refine gd 38 rfl ?_); refine Kd.R_lit (Kd.int .i64) _ 2 ?hg (N := 38) ?hd (xs := ([8, 9] : List Int)) (inner := [.int .i64 8, .int .i64 9]) (ok := fun _ => True) (okp := fun _ => True) ?hr ?hp (fun _ hk => hk) trivial (Below.refl _ _) (Nat.le_refl _) (by simp) ?_; (case hd => rfl); (case hg => rfl); (case hr => first | (go_simp; done) | (go_simp; rfl)); (case hp => exact (Reps.one (show Kd.M (Kd.int .i64) _ _ _ 8 [.int .i64 8] from rfl) (Reps.one (show Kd.M (Kd.int .i64) _ _ _ 9 [.int .i64 9] from rfl) (Reps.none _ _)))); intro v146 DA AO hb hg_ hnew_; clear hg_ hnew_; (first | rw [← AR.out] at AO | (simp only [Int.reduceToNat] at AO; rw [← AR.out] at AO)); have AD := asd (Kd.R_lower AO (keep_size (w := w) (g := g) (row := none) (by repeat (first | (with_reducible first | exact HK.out | apply qg | apply qh | apply qj | apply qi | refine qk ?_ Ag.out _ | refine qk ?_ An.out _) | exact HK.out)))); replace Ab := bB Ab hb; replace Ad := bB Ad hb; replace HK := asd (KeepBut.trans (by repeat (first | (with_reducible first | exact HK.out | apply qg | apply qh | apply qj | apply qi | refine qk ?_ Ag.out _ | refine qk ?_ An.out _) | exact HK.out)) (KeepBut.of_below hb g none) (.inl rfl)); replace HB := asd (below_step (by repeat (first | (with_reducible first | exact HB.out | apply qo | apply qn | apply qm | refine ql ?_ (IsS64.ge HI0.out) | refine ql ?_ Ai.out | refine ql ?_ Ao.out) | exact HB.out)) hb); replace HI0 := asd (IsS64.below (by repeat (first | (with_reducible first | exact HI0.out | apply qc | apply qb | apply qf | apply qd | apply qe | refine qa ?_ Aa.out _ | refine qa ?_ Ac.out _) | exact HI0.out)) hb); clear hb AO; obtain ⟨Ao59, co59, eo59⟩ := Kd.R_slice AD.out; subst eo59) | ((with_reducible refine gate_callee (f := 69) rfl ?_); refine gl 39 Try.func69 #[.pointer (some ⟨g, 0, none⟩), .slice Ao59 A0.length co59] ?_; (with_reducible refine (spec_l01Pick.calls _ _ _ _ _ _ _ _ _ _ w0 _ ?side1 ?side2 ?side3 ?side4 ?side5 Df.out).mono ?_); (case side1 => repeat (first | (with_reducible first | exact HI0.out | apply qc | apply qb | apply qf | apply qd | apply qe | refine qa ?_ Aa.out _ | refine qa ?_ Ac.out _) | exact HI0.out)); (case side2 => repeat (first | (with_reducible first | exact HB.out | apply qo | apply qn | apply qm | refine ql ?_ (IsS64.ge HI0.out) | refine ql ?_ Ai.out | refine ql ?_ Ao.out) | exact HB.out)); (case side3 => exact ks (Kd.R_reads' AD.out).2.2); (case side4 => exact (Kd.R_reads' AD.out).2.1); (case side5 => exact far_slice (IsS64.own_ne HI0.out AD.out (by decide))); rintro e DB ⟨rfl, hi, hb, hk⟩; refine ⟨_, rfl, ?_⟩; replace Ab := asd (KeepBut.blk hk (g' := Ae) (o := .cells #[.int .i64 0, .int .i64 0, .int .i64 0] 25 (0, 0)) (bkp Ab) Af.out (by simp)); replace Ad := asd (KeepBut.blk hk (g' := Aj) (o := .cells #[.int .i64 (wrap64 (1 + Ap)), .int .i64 AE, .int .i64 (wrap64 (1 + Ay))] 25 (0, 0)) (bkp Ad) Ak.out (by simp)); replace AD := asd (Kd.R_mono (Kd.R_keep (IsS64.apart (show IsS64 w0 _ g Al AK AL from by repeat (first | (with_reducible first | exact HI0.out | apply qc | apply qb | apply qf | apply qd | apply qe | refine qa ?_ Aa.out _ | refine qa ?_ Ac.out _) | exact HI0.out)) (kr AD) (by decide)) hk (fun _ h => h.2)) (fun _ h => h.1)); replace HK := asd (KeepBut.trans (by repeat (first | (with_reducible first | exact HK.out | apply qg | apply qh | apply qj | apply qi | refine qk ?_ Ag.out _ | refine qk ?_ An.out _) | exact HK.out)) hk (.inl rfl)); replace HB := asd (hb); replace HI0 := asd (hi); (try clear hb); (try clear hb2); (try clear hk); (try clear hi); obtain ⟨Ct, Cu, Cv, Cw, Cx, Cy⟩ := bz3 Ad; have C2 := Af.out; have C3 := Aa.out; obtain ⟨Cz, CA, CB, CC, CD, CE⟩ := bz3 Ab))
 refine bodyPost_ret (results_cell_row rfl _ _ Ae 25 #[.int .i64 CH, .int .i64 AE, .int .i64 (wrap64 (1 + Ay))] (0, 0) _ rfl (bq1 Ab Ah) Try.underlying25 rfl (by kernel_rfl)) rfl ?_
 rotate_left
 refine bodyPost_ret (results_cell_row rfl _ _ Ae 25 #[.int .i64 8, .int .i64 3, .int .i64 CJ] (0, 0) _ rfl (bq1 Ab Ah) Try.underlying25 rfl (by kernel_rfl)) rfl ?_
 rotate_left
 all_goals
  exact ⟨by first | rfl | (simp [errW_none, errW_some] <;> rfl) | (simp [*, errW_none, errW_some] <;> rfl), by repeat (first | (with_reducible first | exact HI0.out | apply qc | apply qb | apply qf | apply qd | apply qe | refine qa ?_ Aa.out _ | refine qa ?_ Ac.out _) | exact HI0.out), by repeat (first | (with_reducible first | exact HB.out | apply qo | apply qn | apply qm | refine ql ?_ (IsS64.ge HI0.out) | refine ql ?_ Ai.out | refine ql ?_ Ao.out) | exact HB.out), by repeat (first | (with_reducible first | exact HK.out | apply qg | apply qh | apply qj | apply qi | refine qk ?_ Ag.out _ | refine qk ?_ An.out _) | exact HK.out)⟩
def spec_l06DrawLattice.f (Ai : List Int) (Am : Int) (An : Int) : Option (Int × Int × Int × Int × Int × Int) := (spec_l04DrawFrame.f Ai Am An).bind fun Af => ((spec_l01Next.f Ai Af.2.1 Af.2.2 5).bind fun Ae => (if Ae.1 = 0 then ((spec_l03Draw.f Ai Ae.2.1 Ae.2.2).bind fun Aj => (some (Af.1, Aj.1, Aj.2.1, Aj.2.2.1, Aj.2.2.2.1, Aj.2.2.2.2))) else (if Ae.1 = 1 then ((spec_l01Next.f Ai Ae.2.1 Ae.2.2 4).bind fun Ao => ((spec_l01Next.f Ai Ao.2.1 Ao.2.2 4).bind fun Ap => (some (Af.1, wrap64 (1 + Ao.1), 0, wrap64 (1 + Ap.1), Ap.2.1, Ap.2.2)))) else (if Ae.1 = 2 then (if Af.1 = 0 then (some (Af.1, 2, 1, 1, Ae.2.1, Ae.2.2)) else (some (Af.1, 3, 1, 1, Ae.2.1, Ae.2.2))) else ((spec_l01Next.f Ai Ae.2.1 Ae.2.2 4).bind fun Al => (some (Af.1, wrap64 (1 + Al.1), 0, wrap64 (1 + Al.1), Al.2.1, Al.2.2)))))))
theorem spec_l06DrawLattice.calls (g : Nat) (Ai : List Int) (Am : Int) (An : Int) (r1 : Int) (r2 : Int) (r3 : Int) (r4 : Int) (r5 : Int) (r6 : Int) (w0 w : World) (hI : IsS64 w0 w g Ai Am An) (hB : Below w0.heap.size w0 w) (h : spec_l06DrawLattice.f Ai Am An = some (r1, r2, r3, r4, r5, r6)) :
  Calls Try.prog 27 #[.pointer (some ⟨g, 0, none⟩)] w fun e w' => e = .returned (.tuple #[.int .i64 r1, .agg #[.int .i64 r2, .int .i64 r3, .int .i64 r4]]) ∧ IsS64 w0 w' g Ai r5 r6 ∧ Below w0.heap.size w0 w' ∧ KeepBut w w' g none := by
 have hu25 := Try.underlying25
 have HI0 := Aside0.mk hI
 have HK := asd (KeepBut.refl w g none)
 have HL := Aside0.mk hB.size
 clear hI
 have HW0 := Aside0.mk hB.size
 have HB := Aside0.mk hB
 clear hB
 have H : ((spec_l04DrawFrame.f Ai Am An).bind fun Af => ((spec_l01Next.f Ai Af.2.1 Af.2.2 5).bind fun Ae => (if Ae.1 = 0 then ((spec_l03Draw.f Ai Ae.2.1 Ae.2.2).bind fun Aj => (some (Af.1, Aj.1, Aj.2.1, Aj.2.2.1, Aj.2.2.2.1, Aj.2.2.2.2))) else (if Ae.1 = 1 then ((spec_l01Next.f Ai Ae.2.1 Ae.2.2 4).bind fun Ao => ((spec_l01Next.f Ai Ao.2.1 Ao.2.2 4).bind fun Ap => (some (Af.1, wrap64 (1 + Ao.1), 0, wrap64 (1 + Ap.1), Ap.2.1, Ap.2.2)))) else (if Ae.1 = 2 then (if Af.1 = 0 then (some (Af.1, 2, 1, 1, Ae.2.1, Ae.2.2)) else (some (Af.1, 3, 1, 1, Ae.2.1, Ae.2.2))) else ((spec_l01Next.f Ai Ae.2.1 Ae.2.2 4).bind fun Al => (some (Af.1, wrap64 (1 + Al.1), 0, wrap64 (1 + Al.1), Al.2.1, Al.2.2)))))))) = some (r1, r2, r3, r4, r5, r6) := h
 clear h
 obtain ⟨⟨Aq, Bp, Bq⟩, A2, H⟩ := ob H
 try dsimp only at H
 obtain ⟨⟨Ak, Br, Bs⟩, A3, H⟩ := ob H
 try dsimp only at H
 by_cases c4 : Ak = 0
 rw [if_pos c4] at H
 have A8 : (Ak == 0) = true := beq_iff_eq.mpr c4
 have A9 : (Ak != 0) = false := bne_eq_false_iff_eq.mpr c4
 clear c4
 obtain ⟨⟨Ba, Bb, Bc, Bt, Bu⟩, A5, H⟩ := ob H
 try dsimp only at H
 rotate_left
 rw [if_neg c4] at H
 have A8 : (Ak == 0) = false := beq_eq_false_iff_ne.mpr c4
 have A9 : (Ak != 0) = true := bne_iff_ne.mpr c4
 by_cases Ar : Ak = 1
 rw [if_pos Ar] at H
 have Au : (Ak == 1) = true := beq_iff_eq.mpr Ar
 have Av : (Ak != 1) = false := bne_eq_false_iff_eq.mpr Ar
 clear Ar
 obtain ⟨⟨Bd, Bv, Bw⟩, Bx, H⟩ := ob H
 try dsimp only at H
 obtain ⟨⟨Be, By, Bz⟩, BA, H⟩ := ob H
 try dsimp only at H
 rotate_left
 rw [if_neg Ar] at H
 have Au : (Ak == 1) = false := beq_eq_false_iff_ne.mpr Ar
 have Av : (Ak != 1) = true := bne_iff_ne.mpr Ar
 by_cases As : Ak = 2
 rw [if_pos As] at H
 have Aw : (Ak == 2) = true := beq_iff_eq.mpr As
 have Ax : (Ak != 2) = false := bne_eq_false_iff_eq.mpr As
 clear As
 by_cases At : Aq = 0
 rw [if_pos At] at H
 have Ay : (Aq == 0) = true := beq_iff_eq.mpr At
 have Az : (Aq != 0) = false := bne_eq_false_iff_eq.mpr At
 clear At
 rotate_left
 rw [if_neg At] at H
 have Ay : (Aq == 0) = false := beq_eq_false_iff_ne.mpr At
 have Az : (Aq != 0) = true := bne_iff_ne.mpr At
 rotate_left
 rw [if_neg As] at H
 have Aw : (Ak == 2) = false := beq_eq_false_iff_ne.mpr As
 have Ax : (Ak != 2) = true := bne_iff_ne.mpr As
 obtain ⟨⟨AA, BB, BC⟩, BD, H⟩ := ob H
 try dsimp only at H
 rotate_left
 all_goals
  simp only [Option.some.injEq, Prod.mk.injEq] at H;obtain ⟨rfl, rfl, rfl, rfl, rfl, rfl⟩ := H;go_enter Try.func27, Try.ntmps27
 rotate_left 2
 ·go_wp2_with (first | ((with_reducible refine gd 3 rfl ?_); refine bx #[.int .i64 0, .int .i64 0, .int .i64 0] 25 ?_; intro Ab hg BE Ac hb; replace HB := asd (below_step (by repeat (first | (with_reducible first | exact HB.out | apply qo | apply qn | apply qm | refine ql ?_ (IsS64.ge HI0.out)) | exact HB.out)) hb); have Ag := asd ((by rw [hg]; exact (keep_size (w := w) (g := g) (row := none) (by repeat (first | (with_reducible first | exact HK.out | apply qg | apply qh | apply qj | apply qi) | exact HK.out))) : w.heap.size ≤ Ab)); have Ah := asd ((Nat.le_trans HW0.out (by rw [hg]; exact (keep_size (w := w) (g := g) (row := none) (by repeat (first | (with_reducible first | exact HK.out | apply qg | apply qh | apply qj | apply qi) | exact HK.out))) : w.heap.size ≤ Ab) : w0.heap.size ≤ Ab)); replace HK := asd (KeepBut.trans (by repeat (first | (with_reducible first | exact HK.out | apply qg | apply qh | apply qj | apply qi) | exact HK.out)) (KeepBut.of_below hb g none) (.inl rfl)); have Aa := asd ((by rw [hg]; exact Nat.ne_of_lt (IsS64.lt (show IsS64 w0 _ g Ai Am An from by repeat (first | (with_reducible first | exact HI0.out | apply qc | apply qb | apply qf | apply qd | apply qe) | exact HI0.out))) : g ≠ Ab)); have Ad := asd ((by rw [hg]; exact Nat.ne_of_gt (IsS64.lt (show IsS64 w0 _ g Ai Am An from by repeat (first | (with_reducible first | exact HI0.out | apply qc | apply qb | apply qf | apply qd | apply qe) | exact HI0.out))) : Ab ≠ g)); replace HI0 := asd (IsS64.below (by repeat (first | (with_reducible first | exact HI0.out | apply qc | apply qb | apply qf | apply qd | apply qe) | exact HI0.out)) hb); clear hb hg) | ((with_reducible refine gate_callee (f := 46) rfl ?_); refine gl 7 Try.func46 #[.pointer (some ⟨g, 0, none⟩)] ?_; (with_reducible refine (spec_l04DrawFrame.calls _ _ _ _ _ _ _ w0 _ ?side1 ?side2 A2.out).mono ?_); (case side1 => repeat (first | (with_reducible first | exact HI0.out | apply qc | apply qb | apply qf | apply qd | apply qe | refine qa ?_ Aa.out _) | exact HI0.out)); (case side2 => repeat (first | (with_reducible first | exact HB.out | apply qo | apply qn | apply qm | refine ql ?_ (IsS64.ge HI0.out) | refine ql ?_ Ah.out) | exact HB.out)); rintro e BF ⟨rfl, hi, hb, hk⟩; refine ⟨_, rfl, ?_⟩; replace Ac := asd (KeepBut.blk hk (g' := Ab) (o := .cells #[.int .i64 0, .int .i64 0, .int .i64 0] 25 (0, 0)) (bkp Ac) Ad.out (by simp)); replace HK := asd (KeepBut.trans (by repeat (first | (with_reducible first | exact HK.out | apply qg | apply qh | apply qj | apply qi | refine qk ?_ Ag.out _) | exact HK.out)) hk (.inl rfl)); replace HB := asd (hb); replace HI0 := asd (hi); (try clear hb); (try clear hb2); (try clear hk); (try clear hi)) | ((with_reducible refine gate_callee (f := 29) rfl ?_); refine gl 9 Try.func29 #[.pointer (some ⟨g, 0, none⟩), .int .i64 5] ?_; (with_reducible refine (spec_l01Next.calls _ _ _ _ _ _ _ _ w0 _ ?side1 ?side2 A3.out).mono ?_); (case side1 => repeat (first | (with_reducible first | exact HI0.out | apply qc | apply qb | apply qf | apply qd | apply qe | refine qa ?_ Aa.out _) | exact HI0.out)); (case side2 => repeat (first | (with_reducible first | exact HB.out | apply qo | apply qn | apply qm | refine ql ?_ (IsS64.ge HI0.out) | refine ql ?_ Ah.out) | exact HB.out)); rintro e BG ⟨rfl, hi, hb, hk⟩; refine ⟨_, rfl, ?_⟩; replace Ac := asd (KeepBut.blk hk (g' := Ab) (o := .cells #[.int .i64 0, .int .i64 0, .int .i64 0] 25 (0, 0)) (bkp Ac) Ad.out (by simp)); replace HK := asd (KeepBut.trans (by repeat (first | (with_reducible first | exact HK.out | apply qg | apply qh | apply qj | apply qi | refine qk ?_ Ag.out _) | exact HK.out)) hk (.inl rfl)); replace HB := asd (hb); replace HI0 := asd (hi); (try clear hb); (try clear hb2); (try clear hk); (try clear hi); have Bf := Ad.out; have Bg := Aa.out; obtain ⟨AB, AC, AD, AE, AF, AG⟩ := bz3 Ac));refine bodyPost_ret (results_tc rfl _ _ Ab 25 #[.int .i64 2, .int .i64 1, .int .i64 1] (0, 0) _ rfl (bq0 Ac) Try.underlying25 rfl (by kernel_rfl)) rfl ?_;exact ⟨by first | rfl | (simp [errW_none, errW_some] <;> rfl) | (simp [*, errW_none, errW_some] <;> rfl), by repeat (first | (with_reducible first | exact HI0.out | apply qc | apply qb | apply qf | apply qd | apply qe | refine qa ?_ Aa.out _) | exact HI0.out), by repeat (first | (with_reducible first | exact HB.out | apply qo | apply qn | apply qm | refine ql ?_ (IsS64.ge HI0.out) | refine ql ?_ Ah.out) | exact HB.out), by repeat (first | (with_reducible first | exact HK.out | apply qg | apply qh | apply qj | apply qi | refine qk ?_ Ag.out _) | exact HK.out)⟩
 ·go_wp2_with (first | ((with_reducible refine gd 3 rfl ?_); refine bx #[.int .i64 0, .int .i64 0, .int .i64 0] 25 ?_; intro Ab hg BH Ac hb; replace HB := asd (below_step (by repeat (first | (with_reducible first | exact HB.out | apply qo | apply qn | apply qm | refine ql ?_ (IsS64.ge HI0.out)) | exact HB.out)) hb); have Ag := asd ((by rw [hg]; exact (keep_size (w := w) (g := g) (row := none) (by repeat (first | (with_reducible first | exact HK.out | apply qg | apply qh | apply qj | apply qi) | exact HK.out))) : w.heap.size ≤ Ab)); have Ah := asd ((Nat.le_trans HW0.out (by rw [hg]; exact (keep_size (w := w) (g := g) (row := none) (by repeat (first | (with_reducible first | exact HK.out | apply qg | apply qh | apply qj | apply qi) | exact HK.out))) : w.heap.size ≤ Ab) : w0.heap.size ≤ Ab)); replace HK := asd (KeepBut.trans (by repeat (first | (with_reducible first | exact HK.out | apply qg | apply qh | apply qj | apply qi) | exact HK.out)) (KeepBut.of_below hb g none) (.inl rfl)); have Aa := asd ((by rw [hg]; exact Nat.ne_of_lt (IsS64.lt (show IsS64 w0 _ g Ai Am An from by repeat (first | (with_reducible first | exact HI0.out | apply qc | apply qb | apply qf | apply qd | apply qe) | exact HI0.out))) : g ≠ Ab)); have Ad := asd ((by rw [hg]; exact Nat.ne_of_gt (IsS64.lt (show IsS64 w0 _ g Ai Am An from by repeat (first | (with_reducible first | exact HI0.out | apply qc | apply qb | apply qf | apply qd | apply qe) | exact HI0.out))) : Ab ≠ g)); replace HI0 := asd (IsS64.below (by repeat (first | (with_reducible first | exact HI0.out | apply qc | apply qb | apply qf | apply qd | apply qe) | exact HI0.out)) hb); clear hb hg) | ((with_reducible refine gate_callee (f := 46) rfl ?_); refine gl 7 Try.func46 #[.pointer (some ⟨g, 0, none⟩)] ?_; (with_reducible refine (spec_l04DrawFrame.calls _ _ _ _ _ _ _ w0 _ ?side1 ?side2 A2.out).mono ?_); (case side1 => repeat (first | (with_reducible first | exact HI0.out | apply qc | apply qb | apply qf | apply qd | apply qe | refine qa ?_ Aa.out _) | exact HI0.out)); (case side2 => repeat (first | (with_reducible first | exact HB.out | apply qo | apply qn | apply qm | refine ql ?_ (IsS64.ge HI0.out) | refine ql ?_ Ah.out) | exact HB.out)); rintro e BI ⟨rfl, hi, hb, hk⟩; refine ⟨_, rfl, ?_⟩; replace Ac := asd (KeepBut.blk hk (g' := Ab) (o := .cells #[.int .i64 0, .int .i64 0, .int .i64 0] 25 (0, 0)) (bkp Ac) Ad.out (by simp)); replace HK := asd (KeepBut.trans (by repeat (first | (with_reducible first | exact HK.out | apply qg | apply qh | apply qj | apply qi | refine qk ?_ Ag.out _) | exact HK.out)) hk (.inl rfl)); replace HB := asd (hb); replace HI0 := asd (hi); (try clear hb); (try clear hb2); (try clear hk); (try clear hi)) | ((with_reducible refine gate_callee (f := 29) rfl ?_); refine gl 9 Try.func29 #[.pointer (some ⟨g, 0, none⟩), .int .i64 5] ?_; (with_reducible refine (spec_l01Next.calls _ _ _ _ _ _ _ _ w0 _ ?side1 ?side2 A3.out).mono ?_); (case side1 => repeat (first | (with_reducible first | exact HI0.out | apply qc | apply qb | apply qf | apply qd | apply qe | refine qa ?_ Aa.out _) | exact HI0.out)); (case side2 => repeat (first | (with_reducible first | exact HB.out | apply qo | apply qn | apply qm | refine ql ?_ (IsS64.ge HI0.out) | refine ql ?_ Ah.out) | exact HB.out)); rintro e BJ ⟨rfl, hi, hb, hk⟩; refine ⟨_, rfl, ?_⟩; replace Ac := asd (KeepBut.blk hk (g' := Ab) (o := .cells #[.int .i64 0, .int .i64 0, .int .i64 0] 25 (0, 0)) (bkp Ac) Ad.out (by simp)); replace HK := asd (KeepBut.trans (by repeat (first | (with_reducible first | exact HK.out | apply qg | apply qh | apply qj | apply qi | refine qk ?_ Ag.out _) | exact HK.out)) hk (.inl rfl)); replace HB := asd (hb); replace HI0 := asd (hi); (try clear hb); (try clear hb2); (try clear hk); (try clear hi); have Bh := Ad.out; have Bi := Aa.out; obtain ⟨AH, AI, AJ, AK, AL, AM⟩ := bz3 Ac));refine bodyPost_ret (results_tc rfl _ _ Ab 25 #[.int .i64 3, .int .i64 1, .int .i64 1] (0, 0) _ rfl (bq0 Ac) Try.underlying25 rfl (by kernel_rfl)) rfl ?_;exact ⟨by first | rfl | (simp [errW_none, errW_some] <;> rfl) | (simp [*, errW_none, errW_some] <;> rfl), by repeat (first | (with_reducible first | exact HI0.out | apply qc | apply qb | apply qf | apply qd | apply qe | refine qa ?_ Aa.out _) | exact HI0.out), by repeat (first | (with_reducible first | exact HB.out | apply qo | apply qn | apply qm | refine ql ?_ (IsS64.ge HI0.out) | refine ql ?_ Ah.out) | exact HB.out), by repeat (first | (with_reducible first | exact HK.out | apply qg | apply qh | apply qj | apply qi | refine qk ?_ Ag.out _) | exact HK.out)⟩
 rotate_left
 all_goals
  go_wp2_with (first | ((with_reducible refine gd 3 rfl ?_); refine bx #[.int .i64 0, .int .i64 0, .int .i64 0] 25 ?_; intro Ab hg w6 Ac hb; replace HB := asd (below_step (by repeat (first | (with_reducible first | exact HB.out | apply qo | apply qn | apply qm | refine ql ?_ (IsS64.ge HI0.out)) | exact HB.out)) hb); have Ag := asd ((by rw [hg]; exact (keep_size (w := w) (g := g) (row := none) (by repeat (first | (with_reducible first | exact HK.out | apply qg | apply qh | apply qj | apply qi) | exact HK.out))) : w.heap.size ≤ Ab)); have Ah := asd ((Nat.le_trans HW0.out (by rw [hg]; exact (keep_size (w := w) (g := g) (row := none) (by repeat (first | (with_reducible first | exact HK.out | apply qg | apply qh | apply qj | apply qi) | exact HK.out))) : w.heap.size ≤ Ab) : w0.heap.size ≤ Ab)); replace HK := asd (KeepBut.trans (by repeat (first | (with_reducible first | exact HK.out | apply qg | apply qh | apply qj | apply qi) | exact HK.out)) (KeepBut.of_below hb g none) (.inl rfl)); have Aa := asd ((by rw [hg]; exact Nat.ne_of_lt (IsS64.lt (show IsS64 w0 _ g Ai Am An from by repeat (first | (with_reducible first | exact HI0.out | apply qc | apply qb | apply qf | apply qd | apply qe) | exact HI0.out))) : g ≠ Ab)); have Ad := asd ((by rw [hg]; exact Nat.ne_of_gt (IsS64.lt (show IsS64 w0 _ g Ai Am An from by repeat (first | (with_reducible first | exact HI0.out | apply qc | apply qb | apply qf | apply qd | apply qe) | exact HI0.out))) : Ab ≠ g)); replace HI0 := asd (IsS64.below (by repeat (first | (with_reducible first | exact HI0.out | apply qc | apply qb | apply qf | apply qd | apply qe) | exact HI0.out)) hb); clear hb hg) | ((with_reducible refine gate_callee (f := 46) rfl ?_); refine gl 7 Try.func46 #[.pointer (some ⟨g, 0, none⟩)] ?_; (with_reducible refine (spec_l04DrawFrame.calls _ _ _ _ _ _ _ w0 _ ?side1 ?side2 A2.out).mono ?_); (case side1 => repeat (first | (with_reducible first | exact HI0.out | apply qc | apply qb | apply qf | apply qd | apply qe | refine qa ?_ Aa.out _) | exact HI0.out)); (case side2 => repeat (first | (with_reducible first | exact HB.out | apply qo | apply qn | apply qm | refine ql ?_ (IsS64.ge HI0.out) | refine ql ?_ Ah.out) | exact HB.out)); rintro e w7 ⟨rfl, hi, hb, hk⟩; refine ⟨_, rfl, ?_⟩; replace Ac := asd (KeepBut.blk hk (g' := Ab) (o := .cells #[.int .i64 0, .int .i64 0, .int .i64 0] 25 (0, 0)) (bkp Ac) Ad.out (by simp)); replace HK := asd (KeepBut.trans (by repeat (first | (with_reducible first | exact HK.out | apply qg | apply qh | apply qj | apply qi | refine qk ?_ Ag.out _) | exact HK.out)) hk (.inl rfl)); replace HB := asd (hb); replace HI0 := asd (hi); (try clear hb); (try clear hb2); (try clear hk); (try clear hi)) | ((with_reducible refine gate_callee (f := 29) rfl ?_); refine gl 9 Try.func29 #[.pointer (some ⟨g, 0, none⟩), .int .i64 5] ?_; (with_reducible refine (spec_l01Next.calls _ _ _ _ _ _ _ _ w0 _ ?side1 ?side2 A3.out).mono ?_); (case side1 => repeat (first | (with_reducible first | exact HI0.out | apply qc | apply qb | apply qf | apply qd | apply qe | refine qa ?_ Aa.out _) | exact HI0.out)); (case side2 => repeat (first | (with_reducible first | exact HB.out | apply qo | apply qn | apply qm | refine ql ?_ (IsS64.ge HI0.out) | refine ql ?_ Ah.out) | exact HB.out)); rintro e w8 ⟨rfl, hi, hb, hk⟩; refine ⟨_, rfl, ?_⟩; replace Ac := asd (KeepBut.blk hk (g' := Ab) (o := .cells #[.int .i64 0, .int .i64 0, .int .i64 0] 25 (0, 0)) (bkp Ac) Ad.out (by simp)); replace HK := asd (KeepBut.trans (by repeat (first | (with_reducible first | exact HK.out | apply qg | apply qh | apply qj | apply qi | refine qk ?_ Ag.out _) | exact HK.out)) hk (.inl rfl)); replace HB := asd (hb); replace HI0 := asd (hi); (try clear hb); (try clear hb2); (try clear hk); (try clear hi)) | ((with_reducible refine gate_callee (f := 47) rfl ?_); refine gl 14 Try.func47 #[.pointer (some ⟨g, 0, none⟩)] ?_; (with_reducible refine (spec_l03Draw.calls _ _ _ _ _ _ _ _ _ w0 _ ?side1 ?side2 A5.out).mono ?_); (case side1 => repeat (first | (with_reducible first | exact HI0.out | apply qc | apply qb | apply qf | apply qd | apply qe | refine qa ?_ Aa.out _) | exact HI0.out)); (case side2 => repeat (first | (with_reducible first | exact HB.out | apply qo | apply qn | apply qm | refine ql ?_ (IsS64.ge HI0.out) | refine ql ?_ Ah.out) | exact HB.out)); rintro e w9 ⟨rfl, hi, hb, hk⟩; refine ⟨_, rfl, ?_⟩; replace Ac := asd (KeepBut.blk hk (g' := Ab) (o := .cells #[.int .i64 0, .int .i64 0, .int .i64 0] 25 (0, 0)) (bkp Ac) Ad.out (by simp)); replace HK := asd (KeepBut.trans (by repeat (first | (with_reducible first | exact HK.out | apply qg | apply qh | apply qj | apply qi | refine qk ?_ Ag.out _) | exact HK.out)) hk (.inl rfl)); replace HB := asd (hb); replace HI0 := asd (hi); (try clear hb); (try clear hb2); (try clear hk); (try clear hi); have Bj := Ad.out; have Bk := Aa.out; obtain ⟨AN, AO, AP, AQ, AR, AS⟩ := bz3 Ac) | ((with_reducible refine gate_callee (f := 29) rfl ?_); refine gl 19 Try.func29 #[.pointer (some ⟨g, 0, none⟩), .int .i64 4] ?_; (with_reducible refine (spec_l01Next.calls _ _ _ _ _ _ _ _ w0 _ ?side1 ?side2 Bx.out).mono ?_); (case side1 => repeat (first | (with_reducible first | exact HI0.out | apply qc | apply qb | apply qf | apply qd | apply qe | refine qa ?_ Aa.out _) | exact HI0.out)); (case side2 => repeat (first | (with_reducible first | exact HB.out | apply qo | apply qn | apply qm | refine ql ?_ (IsS64.ge HI0.out) | refine ql ?_ Ah.out) | exact HB.out)); rintro e BK ⟨rfl, hi, hb, hk⟩; refine ⟨_, rfl, ?_⟩; replace Ac := asd (KeepBut.blk hk (g' := Ab) (o := .cells #[.int .i64 0, .int .i64 0, .int .i64 0] 25 (0, 0)) (bkp Ac) Ad.out (by simp)); replace HK := asd (KeepBut.trans (by repeat (first | (with_reducible first | exact HK.out | apply qg | apply qh | apply qj | apply qi | refine qk ?_ Ag.out _) | exact HK.out)) hk (.inl rfl)); replace HB := asd (hb); replace HI0 := asd (hi); (try clear hb); (try clear hb2); (try clear hk); (try clear hi)) | ((with_reducible refine gate_callee (f := 29) rfl ?_); refine gl 22 Try.func29 #[.pointer (some ⟨g, 0, none⟩), .int .i64 4] ?_; (with_reducible refine (spec_l01Next.calls _ _ _ _ _ _ _ _ w0 _ ?side1 ?side2 BA.out).mono ?_); (case side1 => repeat (first | (with_reducible first | exact HI0.out | apply qc | apply qb | apply qf | apply qd | apply qe | refine qa ?_ Aa.out _) | exact HI0.out)); (case side2 => repeat (first | (with_reducible first | exact HB.out | apply qo | apply qn | apply qm | refine ql ?_ (IsS64.ge HI0.out) | refine ql ?_ Ah.out) | exact HB.out)); rintro e BL ⟨rfl, hi, hb, hk⟩; refine ⟨_, rfl, ?_⟩; replace Ac := asd (KeepBut.blk hk (g' := Ab) (o := .cells #[.int .i64 0, .int .i64 0, .int .i64 0] 25 (0, 0)) (bkp Ac) Ad.out (by simp)); replace HK := asd (KeepBut.trans (by repeat (first | (with_reducible first | exact HK.out | apply qg | apply qh | apply qj | apply qi | refine qk ?_ Ag.out _) | exact HK.out)) hk (.inl rfl)); replace HB := asd (hb); replace HI0 := asd (hi); (try clear hb); (try clear hb2); (try clear hk); (try clear hi); have Bl := Ad.out; have Bm := Aa.out; obtain ⟨AT, AU, AV, AW, AX, AY⟩ := bz3 Ac) | ((with_reducible refine gate_callee (f := 29) rfl ?_); refine gl 34 Try.func29 #[.pointer (some ⟨g, 0, none⟩), .int .i64 4] ?_; (with_reducible refine (spec_l01Next.calls _ _ _ _ _ _ _ _ w0 _ ?side1 ?side2 BD.out).mono ?_); (case side1 => repeat (first | (with_reducible first | exact HI0.out | apply qc | apply qb | apply qf | apply qd | apply qe | refine qa ?_ Aa.out _) | exact HI0.out)); (case side2 => repeat (first | (with_reducible first | exact HB.out | apply qo | apply qn | apply qm | refine ql ?_ (IsS64.ge HI0.out) | refine ql ?_ Ah.out) | exact HB.out)); rintro e BM ⟨rfl, hi, hb, hk⟩; refine ⟨_, rfl, ?_⟩; replace Ac := asd (KeepBut.blk hk (g' := Ab) (o := .cells #[.int .i64 0, .int .i64 0, .int .i64 0] 25 (0, 0)) (bkp Ac) Ad.out (by simp)); replace HK := asd (KeepBut.trans (by repeat (first | (with_reducible first | exact HK.out | apply qg | apply qh | apply qj | apply qi | refine qk ?_ Ag.out _) | exact HK.out)) hk (.inl rfl)); replace HB := asd (hb); replace HI0 := asd (hi); (try clear hb); (try clear hb2); (try clear hk); (try clear hi); have Bn := Ad.out; have Bo := Aa.out; obtain ⟨AZ, A0, A1, A4, A6, A7⟩ := bz3 Ac))
 refine bodyPost_ret (results_tc rfl _ _ Ab 25 #[.int .i64 Ba, .int .i64 Bb, .int .i64 Bc] (0, 0) _ rfl (bq0 Ac) Try.underlying25 rfl (by kernel_rfl)) rfl ?_
 rotate_left
 refine bodyPost_ret (results_tc rfl _ _ Ab 25 #[.int .i64 (wrap64 (1 + Bd)), .int .i64 0, .int .i64 (wrap64 (1 + Be))] (0, 0) _ rfl (bq0 Ac) Try.underlying25 rfl (by kernel_rfl)) rfl ?_
 rotate_left
 refine bodyPost_ret (results_tc rfl _ _ Ab 25 #[.int .i64 (wrap64 (1 + AA)), .int .i64 0, .int .i64 (wrap64 (1 + AA))] (0, 0) _ rfl (bq0 Ac) Try.underlying25 rfl (by kernel_rfl)) rfl ?_
 rotate_left
 all_goals
  exact ⟨by first | rfl | (simp [errW_none, errW_some] <;> rfl) | (simp [*, errW_none, errW_some] <;> rfl), by repeat (first | (with_reducible first | exact HI0.out | apply qc | apply qb | apply qf | apply qd | apply qe | refine qa ?_ Aa.out _) | exact HI0.out), by repeat (first | (with_reducible first | exact HB.out | apply qo | apply qn | apply qm | refine ql ?_ (IsS64.ge HI0.out) | refine ql ?_ Ah.out) | exact HB.out), by repeat (first | (with_reducible first | exact HK.out | apply qg | apply qh | apply qj | apply qi | refine qk ?_ Ag.out _) | exact HK.out)⟩
def spec_IsFrame.f (a0 : Int) : Option (Bool) := if a0 = 0 then (some true) else (some (a0 == 1))
theorem spec_IsFrame.calls (a0 : Int) (r : Bool) (w : World) (h : spec_IsFrame.f a0 = some r) :
  Calls Try.prog 48 #[.int .i64 a0] w fun e w' => e = .returned (.bool r) ∧ Drawn0 w w' := by
 have H : (if a0 = 0 then (some true) else (some (a0 == 1))) = some r := h
 clear h
 by_cases c2 : a0 = 0
 ·rw [if_pos c2] at H;have Aa : (a0 == 0) = true := beq_iff_eq.mpr c2;have Ab : (a0 != 0) = false := bne_eq_false_iff_eq.mpr c2;clear c2;obtain rfl := Option.some.inj H;go_enter Try.func48, Try.ntmps48
  go_wp2
  go_ret
  exact ⟨by first | rfl | (simp; done) | (simp [*]; done), by repeat (first | exact Drawn0.refl _ | apply Drawn0.step)⟩
 ·rw [if_neg c2] at H;have Aa : (a0 == 0) = false := beq_eq_false_iff_ne.mpr c2;have Ab : (a0 != 0) = true := bne_iff_ne.mpr c2;obtain rfl := Option.some.inj H;go_enter Try.func48, Try.ntmps48
  go_wp2
  go_ret
  exact ⟨by first | rfl | (simp; done) | (simp [*]; done), by repeat (first | exact Drawn0.refl _ | apply Drawn0.step)⟩
def spec_l01In.f (a0 : Int) (a1 : Int) (a2 : Int) : Option (Bool) := if a0 ≥ a1 then (some (decide (a0 ≤ a2))) else (some false)
theorem spec_l01In.calls (a0 : Int) (a1 : Int) (a2 : Int) (r : Bool) (w : World) (h : spec_l01In.f a0 a1 a2 = some r) :
  Calls Try.prog 70 #[.int .i64 a0, .int .i64 a1, .int .i64 a2] w fun e w' => e = .returned (.bool r) ∧ Drawn0 w w' := by
 have H : (if a0 ≥ a1 then (some (decide (a0 ≤ a2))) else (some false)) = some r := h
 clear h
 by_cases c4 : a0 ≥ a1
 ·rw [if_pos c4] at H;have Aa : decide (a1 ≤ a0) = true := qp c4;clear c4;obtain rfl := Option.some.inj H;go_enter Try.func70, Try.ntmps70
  go_wp2
  go_ret
  exact ⟨by first | rfl | (simp; done) | (simp [*]; done), by repeat (first | exact Drawn0.refl _ | apply Drawn0.step)⟩
 ·rw [if_neg c4] at H;have Aa : decide (a1 ≤ a0) = false := qq c4;clear c4;obtain rfl := Option.some.inj H;go_enter Try.func70, Try.ntmps70
  go_wp2
  go_ret
  exact ⟨by first | rfl | (simp; done) | (simp [*]; done), by repeat (first | exact Drawn0.refl _ | apply Drawn0.step)⟩
def spec_IsLattice.f (Aa : Int) (Ac : Int) (Ab : Int) : Option (Bool) := (spec_l01In.f Aa 1 64).bind fun Ad => (if Ad = true then ((spec_l01In.f Ab 1 64).bind fun Ae => (if Ae = true then ((spec_l01In.f Ac 0 (wrap64 (Aa - 1))).bind fun Af => (if Af = true then (some (decide ((wrap64 (Aa * Ab)) ≤ 64))) else (some false))) else (some false))) else (some false))
theorem spec_IsLattice.calls (Aa : Int) (Ac : Int) (Ab : Int) (r : Bool) (w : World) (h : spec_IsLattice.f Aa Ac Ab = some r) :
  Calls Try.prog 49 #[.agg #[.int .i64 Aa, .int .i64 Ac, .int .i64 Ab]] w fun e w' => e = .returned (.bool r) ∧ Below w.heap.size w w' := by
 have hu25 := Try.underlying25
 have HB := asd (Below.refl w.heap.size w)
 have H : ((spec_l01In.f Aa 1 64).bind fun Ad => (if Ad = true then ((spec_l01In.f Ab 1 64).bind fun Ae => (if Ae = true then ((spec_l01In.f Ac 0 (wrap64 (Aa - 1))).bind fun Af => (if Af = true then (some (decide ((wrap64 (Aa * Ab)) ≤ 64))) else (some false))) else (some false))) else (some false))) = some r := h
 clear h
 obtain ⟨Ad, A2, H⟩ := ob H
 try dsimp only at H
 by_cases c3 : Ad = true
 subst c3
 replace H := ifT H
 obtain ⟨Ae, A4, H⟩ := ob H
 try dsimp only at H
 by_cases c5 : Ae = true
 subst c5
 replace H := ifT H
 obtain ⟨Af, A6, H⟩ := ob H
 try dsimp only at H
 by_cases c7 : Af = true
 subst c7
 replace H := ifT H
 obtain rfl := Option.some.inj H
 rotate_left
 replace c7 := Bool.eq_false_iff.mpr c7
 subst c7
 replace H := ifF H
 obtain rfl := Option.some.inj H
 rotate_left
 replace c5 := Bool.eq_false_iff.mpr c5
 subst c5
 replace H := ifF H
 obtain rfl := Option.some.inj H
 rotate_left
 replace c3 := Bool.eq_false_iff.mpr c3
 subst c3
 replace H := ifF H
 obtain rfl := Option.some.inj H
 rotate_left
 all_goals
  go_enter Try.func49, Try.ntmps49
  go_wp2_with (first | ((with_reducible refine gd 1 rfl ?_); refine bx #[.int .i64 Aa, .int .i64 Ac, .int .i64 Ab] 25 ?_; intro Ao hg w8 Ag hb; have Ah := ngw0 hg HB; replace HB := bS0 HB hb; clear hb hg; obtain ⟨Ai, Aj, Ak, Al, Am, An⟩ := bz3 Ag) | ((with_reducible refine gate_callee (f := 70) rfl ?_); refine gl 5 Try.func70 #[.int .i64 Aa, .int .i64 1, .int .i64 64] ?_; (with_reducible refine (spec_l01In.calls _ _ _ _ _ A2.out).mono ?_); rintro e w' ⟨rfl, ⟨nd, rfl⟩⟩; refine ⟨_, rfl, ?_⟩) | (go_at_call 70; (with_reducible refine (spec_l01In.calls _ _ _ _ _ A4.out).mono ?_); rintro e w' ⟨rfl, ⟨nd, rfl⟩⟩) | (go_at_call 70; (with_reducible refine (spec_l01In.calls _ _ _ _ _ A6.out).mono ?_); rintro e w' ⟨rfl, ⟨nd, rfl⟩⟩));go_ret
  exact er (bbw1 HB Ah)
def spec_l04Code.f (a0 : Int) (Ab : Int) (Ac : Int) (Ad : Int) : Option (Int) := (spec_IsFrame.f a0).bind fun Ag => (if Ag = true then ((spec_IsLattice.f Ab Ac Ad).bind fun Ah => (if Ah = true then (some 0) else (some 1))) else (some 1))
theorem spec_l04Code.calls (a0 : Int) (Ab : Int) (Ac : Int) (Ad : Int) (r : Int) (w : World) (h : spec_l04Code.f a0 Ab Ac Ad = some r) :
  Calls Try.prog 28 #[.int .i64 a0, .agg #[.int .i64 Ab, .int .i64 Ac, .int .i64 Ad]] w fun e w' => e = .returned (.int .i64 r) ∧ Below w.heap.size w w' := by
 have hu25 := Try.underlying25
 have HB := asd (Below.refl w.heap.size w)
 have H : ((spec_IsFrame.f a0).bind fun Ag => (if Ag = true then ((spec_IsLattice.f Ab Ac Ad).bind fun Ah => (if Ah = true then (some 0) else (some 1))) else (some 1))) = some r := h
 clear h
 obtain ⟨Ag, A3, H⟩ := ob H
 try dsimp only at H
 by_cases c4 : Ag = true
 subst c4
 replace H := ifT H
 obtain ⟨Ah, A5, H⟩ := ob H
 try dsimp only at H
 by_cases c6 : Ah = true
 subst c6
 replace H := ifT H
 obtain rfl := Option.some.inj H
 rotate_left
 replace c6 := Bool.eq_false_iff.mpr c6
 subst c6
 replace H := ifF H
 obtain rfl := Option.some.inj H
 rotate_left
 replace c4 := Bool.eq_false_iff.mpr c4
 subst c4
 replace H := ifF H
 obtain rfl := Option.some.inj H
 rotate_left
 all_goals
  go_enter Try.func28, Try.ntmps28
 rotate_left 2
 ·go_wp2_with (first | ((with_reducible refine gd 3 rfl ?_); refine bx #[.int .i64 Ab, .int .i64 Ac, .int .i64 Ad] 25 ?_; intro Ae hg Ao Aa hb; have Af := ngw0 hg HB; replace HB := bS0 HB hb; clear hb hg) | ((with_reducible refine gate_callee (f := 48) rfl ?_); refine gl 6 Try.func48 #[.int .i64 a0] ?_; (with_reducible refine (spec_IsFrame.calls _ _ _ A3.out).mono ?_); rintro e w' ⟨rfl, ⟨nd, rfl⟩⟩; refine ⟨_, rfl, ?_⟩));go_ret
  exact er (bbw1 HB Af)
 all_goals
  go_wp2_with (first | ((with_reducible refine gd 3 rfl ?_); refine bx #[.int .i64 Ab, .int .i64 Ac, .int .i64 Ad] 25 ?_; intro Ae hg w7 Aa hb; have Af := ngw0 hg HB; replace HB := bS0 HB hb; clear hb hg) | ((with_reducible refine gate_callee (f := 48) rfl ?_); refine gl 6 Try.func48 #[.int .i64 a0] ?_; (with_reducible refine (spec_IsFrame.calls _ _ _ A3.out).mono ?_); rintro e w' ⟨rfl, ⟨nd, rfl⟩⟩; refine ⟨_, rfl, ?_⟩; have Ai : w7.cell? ⟨Ae, 0, none⟩ = some (.int .i64 Ab) := bcl Aa 0; have Aj : w7.cell? ⟨Ae, 1, none⟩ = some (.int .i64 Ac) := bcl Aa 1; have Ak : w7.cell? ⟨Ae, 2, none⟩ = some (.int .i64 Ad) := bcl Aa 2; have Al := blk_frozen Aa.out 0; have Am := blk_frozen Aa.out 1; have An := blk_frozen Aa.out 2) | (go_at_call 49; (with_reducible refine (spec_IsLattice.calls _ _ _ _ _ A5.out).mono ?_); rintro e w9 ⟨rfl, hb⟩; replace Aa := bB Aa hb; replace HB := bS1 HB Af hb; (try clear hb)));go_ret
  exact er (bbw1 HB Af)
def spec_l01Mod.f (a0 : Int) (a1 : Int) : Option (Int) := if a1 = 0 then (none) else (if (Int.tmod a0 a1) < 0 then (some (wrap64 ((Int.tmod a0 a1) + a1))) else (some (Int.tmod a0 a1)))
theorem spec_l01Mod.calls (a0 : Int) (a1 : Int) (r : Int) (w : World) (h : spec_l01Mod.f a0 a1 = some r) :
  Calls Try.prog 71 #[.int .i64 a0, .int .i64 a1] w fun e w' => e = .returned (.int .i64 r) ∧ Drawn0 w w' := by
 have H : (if a1 = 0 then (none) else (if (Int.tmod a0 a1) < 0 then (some (wrap64 ((Int.tmod a0 a1) + a1))) else (some (Int.tmod a0 a1)))) = some r := h
 clear h
 by_cases c3 : a1 = 0
 ·rw [if_pos c3] at H;exact absurd H (by simp)
 rw [if_neg c3] at H
 have Ab : (a1 == 0) = false := beq_eq_false_iff_ne.mpr c3
 have Ac : (a1 != 0) = true := bne_iff_ne.mpr c3
 by_cases c4 : (Int.tmod a0 a1) < 0
 rw [if_pos c4] at H
 have Aa := qp c4
 clear c4
 obtain rfl := Option.some.inj H
 rotate_left
 rw [if_neg c4] at H
 have Aa := qq c4
 clear c4
 obtain rfl := Option.some.inj H
 rotate_left
 all_goals
  go_enter Try.func71, Try.ntmps71
  go_wp2
  go_ret
  exact ⟨by first | rfl | (simp; done) | (simp [*]; done), by repeat (first | exact Drawn0.refl _ | apply Drawn0.step)⟩
end Go.Proofs.Ytedmadofpdkekaa.PA
