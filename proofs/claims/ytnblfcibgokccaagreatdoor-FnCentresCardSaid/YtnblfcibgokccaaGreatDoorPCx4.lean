/- Walks written by program: each Go function that the law reaches comes to the plain function beside it. -/
import Derived.Test.YtnblfcibgokccaaGreatDoorPCx0
namespace Go.Proofs.YtnblfcibgokccaaGreatDoor.PC
open Go.RowKit Go.Proofs.YtnblfcibgokccaaGreatDoorW.PrintWords Go.Proofs.YtnblfcibgokccaaGreatDoorW.PrintLast Go.Proofs.YtnblfcibgokccaaGreatDoorW.PrintMore
attribute [local go_sem] max2_int min2_int max_two min_two max_three min_three max_four min_four   -- for this text's walks alone
set_option linter.unusedVariables false
set_option linter.unusedSimpArgs false

/-! ### laws_big: function 6 -/
def laws_big.f (l0 : List Int) : Option (Bool) := some (decide ((l0.length : Int) > 4096))
set_option maxHeartbeats 8000000 in
set_option maxRecDepth 100000 in
theorem laws_big.calls (A0 : Option Addr) (c0 : Nat) (l0 : List Int) (r : Bool) (w : World) (hr0 : Kd.C (Kd.int .u8) w A0 l0.length l0) (hc0 : l0.length ≤ c0) (h : laws_big.f l0 = some r) :
  Calls Tryz.prog 6 #[.slice A0 l0.length c0] w fun e w' => e = .returned (.bool r) ∧ Drawn0 w w' := by
 have HR0 := Aside0.mk hr0
 have HC0 := Aside0.mk hc0
 clear hr0 hc0
 have H : (some (decide ((l0.length : Int) > 4096))) = some r := h
 clear h
 obtain rfl := Option.some.inj H
 go_enter Tryz.func6, Tryz.ntmps6
 go_wp2
 go_ret
 exact ⟨by first | rfl | (simp; done) | (simp [*]; done), by repeat (first | exact Drawn0.refl _ | apply Drawn0.step)⟩

/-- A state of type 106 at block g of W; what its slices lead to came in by w0. -/
def IsS106 (w0 W : World) (g : Nat) (f0 : List Int) (f1 : Int) (f2 : Int) : Prop := ∃ A0 c0, W.heap[g]? = some (.cells #[.slice A0 f0.length c0, .int .i64 f1, .int .i64 f2] 106 (0, 0)) ∧ w0.heap.size ≤ g ∧ Kd.C (Kd.int .u8) w0 A0 f0.length f0
theorem IsS106.grown {w0 W : World} {g : Nat} {f0 : List Int} {f1 : Int} {f2 : Int} {W1 : World} {row : Option Nat} (h : IsS106 w0 W g f0 f1 f2) (hw : W.grownBy W1 row) (hne : some g ≠ row) : IsS106 w0 W1 g f0 f1 f2 := by
 obtain ⟨A0, c0, hb, hg, hr0⟩ := h
 exact ⟨A0, c0, blk_grown hb hw hne, hg, hr0⟩
theorem IsS106.own_neN {w0 W : World} {g : Nat} {f0 : List Int} {f1 : Int} {f2 : Int} {α : Type} {d : Kd α} {e : Nat} {base : Nat} {ok : Nat → Prop} {v : Value} {xs : List α} (h : IsS106 w0 W g f0 f1 f2) (ho : Kd.N d e W base ok v xs) (ht : e ≠ 106) : some g ≠ v.ownBlock := by
 obtain ⟨A0, c0, hb, hg, hr0⟩ := h
 exact Kd.N_ne ho hb ht
theorem IsS106.fresh {w0 W : World} {g : Nat} {f0 : List Int} {f1 : Int} {f2 : Int} (h : IsS106 w0 W g f0 f1 f2) : ∀ k, W.heap.size ≤ k → k ≠ g := by
 obtain ⟨A0, c0, hb, hg, hr0⟩ := h
 exact Kd.freshB hb
theorem IsS106.kept {w0 W : World} {g : Nat} {f0 : List Int} {f1 : Int} {f2 : Int} {W1 : World} {S : Nat → Prop} (h : IsS106 w0 W g f0 f1 f2) (hk : Kept W W1 S) (hne : ¬ S g) : IsS106 w0 W1 g f0 f1 f2 := by
 obtain ⟨A0, c0, hb, hg, hr0⟩ := h
 exact ⟨A0, c0, blk_kept hb hk hne, hg, hr0⟩
theorem IsS106.below {w0 W : World} {g : Nat} {f0 : List Int} {f1 : Int} {f2 : Int} {W1 : World} (h : IsS106 w0 W g f0 f1 f2) (hw : Below W.heap.size W W1) : IsS106 w0 W1 g f0 f1 f2 := h.grown (grown_of_below hw none) (by simp)
theorem IsS106.alloc {w0 W : World} {g : Nat} {f0 : List Int} {f1 : Int} {f2 : Int} (h : IsS106 w0 W g f0 f1 f2) (o : Obj) : IsS106 w0 (W.alloc o) g f0 f1 f2 := h.below (below_alloc (Below.refl _ _) o)
theorem IsS106.drewN {w0 W : World} {g : Nat} {f0 : List Int} {f1 : Int} {f2 : Int} (h : IsS106 w0 W g f0 f1 f2) (m : Nat) : IsS106 w0 (W.drewN m) g f0 f1 f2 := h
theorem IsS106.drew {w0 W : World} {g : Nat} {f0 : List Int} {f1 : Int} {f2 : Int} (h : IsS106 w0 W g f0 f1 f2) : IsS106 w0 W.drew g f0 f1 f2 := h
theorem IsS106.at_ {w0 W : World} {g : Nat} {f0 : List Int} {f1 : Int} {f2 : Int} {w' : World} {m : Nat} (hq : W.drewN m = w') (h : IsS106 w0 W g f0 f1 f2) : IsS106 w0 w' g f0 f1 f2 := by subst hq; exact IsS106.drewN h m
theorem IsS106.apart {w0 W : World} {g : Nat} {f0 : List Int} {f1 : Int} {f2 : Int} {α : Type} {d : Kd α} {e : Nat} {base : Nat} {ok : Nat → Prop} {v : Value} {xs : List α} (h : IsS106 w0 W g f0 f1 f2) (ho : d.R e W base ok v xs) (ht : ∀ q, q ∈ e :: d.E → q ≠ 106) : d.R e W base (fun k => ok k ∧ k ≠ g) v xs := by
 obtain ⟨A0, c0, hb, hg, hr0⟩ := h
 exact Kd.R_types ho hb ht
theorem IsS106.own_ne {w0 W : World} {g : Nat} {f0 : List Int} {f1 : Int} {f2 : Int} {α : Type} {d : Kd α} {e : Nat} {base : Nat} {ok : Nat → Prop} {v : Value} {xs : List α} (h : IsS106 w0 W g f0 f1 f2) (ho : d.R e W base ok v xs) (ht : e ≠ 106) : some g ≠ v.ownBlock := by
 obtain ⟨A0, c0, hb, hg, hr0⟩ := h
 exact Kd.R_ne ho hb ht
theorem IsS106.apartQ {w0 W : World} {g : Nat} {f0 : List Int} {f1 : Int} {f2 : Int} {α : Type} {d : Kd α} {e : Nat} {base : Nat} {ok : Nat → Prop} {v : Value} {xs : List α} (h : IsS106 w0 W g f0 f1 f2) (ho : d.Q e W base ok v xs) (ht : ∀ q, q ∈ e :: d.E → q ≠ 106) : d.Q e W base (fun k => ok k ∧ k ≠ g) v xs := by
 obtain ⟨A0, c0, hb, hg, hr0⟩ := h
 exact Kd.Q_types ho hb ht
theorem IsS106.own_neQ {w0 W : World} {g : Nat} {f0 : List Int} {f1 : Int} {f2 : Int} {α : Type} {d : Kd α} {e : Nat} {base : Nat} {ok : Nat → Prop} {v : Value} {xs : List α} (h : IsS106 w0 W g f0 f1 f2) (ho : d.Q e W base ok v xs) (ht : e ≠ 106) : some g ≠ v.ownBlock := by
 obtain ⟨A0, c0, hb, hg, hr0⟩ := h
 exact Kd.Q_ne ho hb ht
theorem IsS106.apartS {w0 W : World} {g : Nat} {f0 : List Int} {f1 : Int} {f2 : Int} {α : Type} {d : Kd α} {e : Nat} {base : Nat} {ok : Nat → Prop} {v : Value} {xs : List α} (h : IsS106 w0 W g f0 f1 f2) (ho : d.S e W base ok v xs) (ht : ∀ q, q ∈ e :: d.E → q ≠ 106) : d.S e W base (fun k => ok k ∧ k ≠ g) v xs := by
 obtain ⟨A0, c0, hb, hg, hr0⟩ := h
 exact Kd.S_types ho hb ht
theorem IsS106.own_neS {w0 W : World} {g : Nat} {f0 : List Int} {f1 : Int} {f2 : Int} {α : Type} {d : Kd α} {e : Nat} {base : Nat} {ok : Nat → Prop} {v : Value} {xs : List α} (h : IsS106 w0 W g f0 f1 f2) (ho : d.S e W base ok v xs) (ht : e ≠ 106) : some g ≠ v.ownBlock := by
 obtain ⟨A0, c0, hb, hg, hr0⟩ := h
 exact Kd.S_ne ho hb ht
theorem IsS106.lt {w0 W : World} {g : Nat} {f0 : List Int} {f1 : Int} {f2 : Int} (h : IsS106 w0 W g f0 f1 f2) : g < W.heap.size := by
 obtain ⟨A0, c0, hb, hg, hr0⟩ := h
 exact blk_lt hb
theorem IsS106.ge {w0 W : World} {g : Nat} {f0 : List Int} {f1 : Int} {f2 : Int} (h : IsS106 w0 W g f0 f1 f2) : w0.heap.size ≤ g := by
 obtain ⟨A0, c0, hb, hg, hr0⟩ := h
 exact hg
theorem IsS106.ne_blk {w0 W : World} {g : Nat} {f0 : List Int} {f1 : Int} {f2 : Int} {a : Nat} {cs : Array Value} {t : TypeId} {fr : Nat × Nat} (h : IsS106 w0 W g f0 f1 f2) (hb2 : W.heap[a]? = some (.cells cs t fr)) (ht : t ≠ 106) : g ≠ a := by
 obtain ⟨A0, c0, hb, hg, hr0⟩ := h
 rintro rfl
 rw [hb] at hb2
 injection hb2 with hb2
 injection hb2 with _ ht2
 exact ht ht2.symm
theorem IsS106.far {w0 W : World} {g : Nat} {f0 : List Int} {f1 : Int} {f2 : Int} {p : Addr} (h : IsS106 w0 W g f0 f1 f2) (hne : g ≠ p.block) (u : Value) : IsS106 w0 (W.setCell p u) g f0 f1 f2 := by
 obtain ⟨A0, c0, hb, hg, hr0⟩ := h
 exact ⟨A0, c0, blk_far hb hne u, hg, hr0⟩
theorem cellS106_0 {W : World} {g : Nat} {A0 : Option Addr} {c0 : Nat} {f0 : List Int} {f1 : Int} {f2 : Int} (h : W.heap[g]? = some (.cells #[.slice A0 f0.length c0, .int .i64 f1, .int .i64 f2] 106 (0, 0))) : W.cell? ⟨g, 0, none⟩ = some (.slice A0 f0.length c0) := (blk_cell h 0).trans rfl
theorem cellS106_1 {W : World} {g : Nat} {A0 : Option Addr} {c0 : Nat} {f0 : List Int} {f1 : Int} {f2 : Int} (h : W.heap[g]? = some (.cells #[.slice A0 f0.length c0, .int .i64 f1, .int .i64 f2] 106 (0, 0))) : W.cell? ⟨g, 1, none⟩ = some (.int .i64 f1) := (blk_cell h 1).trans rfl
theorem IsS106.set_1 {w0 W : World} {g : Nat} {f0 : List Int} {f1 : Int} {f2 : Int} (h : IsS106 w0 W g f0 f1 f2) (x : Int) : IsS106 w0 (W.setCell ⟨g, 1, none⟩ (.int .i64 x)) g f0 x f2 := by
 obtain ⟨A0, c0, hb, hg, hr0⟩ := h
 exact ⟨A0, c0, by simpa using blk_set hb 1 (.int .i64 x), hg, hr0⟩
theorem cellS106_2 {W : World} {g : Nat} {A0 : Option Addr} {c0 : Nat} {f0 : List Int} {f1 : Int} {f2 : Int} (h : W.heap[g]? = some (.cells #[.slice A0 f0.length c0, .int .i64 f1, .int .i64 f2] 106 (0, 0))) : W.cell? ⟨g, 2, none⟩ = some (.int .i64 f2) := (blk_cell h 2).trans rfl
theorem IsS106.set_2 {w0 W : World} {g : Nat} {f0 : List Int} {f1 : Int} {f2 : Int} (h : IsS106 w0 W g f0 f1 f2) (x : Int) : IsS106 w0 (W.setCell ⟨g, 2, none⟩ (.int .i64 x)) g f0 f1 x := by
 obtain ⟨A0, c0, hb, hg, hr0⟩ := h
 exact ⟨A0, c0, by simpa using blk_set hb 2 (.int .i64 x), hg, hr0⟩
theorem IsS106.new (w0 W : World) (A0 : Option Addr) (c0 : Nat) (f0 : List Int) (f1 : Int) (f2 : Int) (hB : Below w0.heap.size w0 W) (hr0 : Kd.C (Kd.int .u8) w0 A0 f0.length f0) : IsS106 w0 (W.alloc (.cells #[.slice A0 f0.length c0, .int .i64 f1, .int .i64 f2] 106)) W.heap.size f0 f1 f2 := ⟨A0, c0, by simpa using heap_alloc_new W _, hB.size, hr0⟩

/-! ### spec_l01Next: function 45 -/
def spec_l01Next.f (s0_0 : List Int) (s0_1 : Int) (s0_2 : Int) (a1 : Int) : Option (Int × Int × Int) := if a1 ≤ 1 then (some (0, s0_1, s0_2)) else (if s0_1 < (s0_0.length : Int) then (if 0 ≤ s0_1 then (if a1 ≤ 256 then (if (Int.tmod (wrap64 (s0_1 + 1)) 2) = 0 then (if 0 ≤ (wrap64 ((wrap64 (s0_1 + 1)) - 1)) then (if (wrap64 ((wrap64 (s0_1 + 1)) - 1)) < (s0_0.length : Int) then (if a1 = 0 then (none) else (some (Int.tmod (wrap64 (rd s0_0 (wrap64 ((wrap64 (s0_1 + 1)) - 1)))) a1, wrap64 (s0_1 + 1), Int.tmod (wrap64 ((wrap64 (s0_2 * 48271)) + 67)) 2147483647))) else (none)) else (none)) else (if a1 = 0 then (none) else (some (Int.tmod (wrap64 ((wrap64 (Int.tdiv (Int.tmod (wrap64 ((wrap64 (s0_2 * 48271)) + 67)) 2147483647) 37)) + (wrap64 (rd s0_0 s0_1)))) a1, wrap64 (s0_1 + 1), Int.tmod (wrap64 ((wrap64 (s0_2 * 48271)) + 67)) 2147483647)))) else (if a1 = 0 then (none) else (some (Int.tmod (wrap64 ((wrap64 (Int.tdiv (Int.tmod (wrap64 ((wrap64 (s0_2 * 48271)) + 67)) 2147483647) 37)) + (wrap64 (rd s0_0 s0_1)))) a1, wrap64 (s0_1 + 1), Int.tmod (wrap64 ((wrap64 (s0_2 * 48271)) + 67)) 2147483647)))) else (none)) else (if a1 = 0 then (none) else (some (Int.tmod (wrap64 (Int.tdiv (Int.tmod (wrap64 ((wrap64 (s0_2 * 48271)) + 67)) 2147483647) 37)) a1, s0_1, Int.tmod (wrap64 ((wrap64 (s0_2 * 48271)) + 67)) 2147483647))))
set_option maxHeartbeats 8000000 in
set_option maxRecDepth 100000 in
theorem spec_l01Next.calls (g : Nat) (s0_0 : List Int) (s0_1 : Int) (s0_2 : Int) (a1 : Int) (r1 : Int) (r2 : Int) (r3 : Int) (w0 w : World) (hI : IsS106 w0 w g s0_0 s0_1 s0_2) (hB : Below w0.heap.size w0 w) (h : spec_l01Next.f s0_0 s0_1 s0_2 a1 = some (r1, r2, r3)) :
  Calls Tryz.prog 45 #[.pointer (some ⟨g, 0, none⟩), .int .i64 a1] w fun e w' => e = .returned (.int .i64 r1) ∧ IsS106 w0 w' g s0_0 r2 r3 ∧ Below w0.heap.size w0 w' ∧ KeepBut w w' g none := by
 have HI0 := Aside0.mk hI
 have HK := asd (KeepBut.refl w g none)
 have HL := Aside0.mk hB.size
 clear hI
 have HW0 := Aside0.mk hB.size
 have HB := Aside0.mk hB
 clear hB
 have H : (if a1 ≤ 1 then (some (0, s0_1, s0_2)) else (if s0_1 < (s0_0.length : Int) then (if 0 ≤ s0_1 then (if a1 ≤ 256 then (if (Int.tmod (wrap64 (s0_1 + 1)) 2) = 0 then (if 0 ≤ (wrap64 ((wrap64 (s0_1 + 1)) - 1)) then (if (wrap64 ((wrap64 (s0_1 + 1)) - 1)) < (s0_0.length : Int) then (if a1 = 0 then (none) else (some (Int.tmod (wrap64 (rd s0_0 (wrap64 ((wrap64 (s0_1 + 1)) - 1)))) a1, wrap64 (s0_1 + 1), Int.tmod (wrap64 ((wrap64 (s0_2 * 48271)) + 67)) 2147483647))) else (none)) else (none)) else (if a1 = 0 then (none) else (some (Int.tmod (wrap64 ((wrap64 (Int.tdiv (Int.tmod (wrap64 ((wrap64 (s0_2 * 48271)) + 67)) 2147483647) 37)) + (wrap64 (rd s0_0 s0_1)))) a1, wrap64 (s0_1 + 1), Int.tmod (wrap64 ((wrap64 (s0_2 * 48271)) + 67)) 2147483647)))) else (if a1 = 0 then (none) else (some (Int.tmod (wrap64 ((wrap64 (Int.tdiv (Int.tmod (wrap64 ((wrap64 (s0_2 * 48271)) + 67)) 2147483647) 37)) + (wrap64 (rd s0_0 s0_1)))) a1, wrap64 (s0_1 + 1), Int.tmod (wrap64 ((wrap64 (s0_2 * 48271)) + 67)) 2147483647)))) else (none)) else (if a1 = 0 then (none) else (some (Int.tmod (wrap64 (Int.tdiv (Int.tmod (wrap64 ((wrap64 (s0_2 * 48271)) + 67)) 2147483647) 37)) a1, s0_1, Int.tmod (wrap64 ((wrap64 (s0_2 * 48271)) + 67)) 2147483647))))) = some (r1, r2, r3) := h
 clear h
 by_cases c3 : a1 ≤ 1
 rw [if_pos c3] at H
 have c3b0 := decide_eq_true c3
 clear c3
 rotate_left
 rw [if_neg c3] at H
 have c3b0 := decide_eq_false c3
 clear c3
 by_cases c4 : s0_1 < (s0_0.length : Int)
 rw [if_pos c4] at H
 have c4b0 := decide_eq_true c4
 clear c4
 by_cases c5 : 0 ≤ s0_1
 rw [if_pos c5] at H
 have c5b0 := decide_eq_true c5
 clear c5
 by_cases c6 : a1 ≤ 256
 rw [if_pos c6] at H
 have c6b0 := decide_eq_true c6
 clear c6
 by_cases c7 : (Int.tmod (wrap64 (s0_1 + 1)) 2) = 0
 rw [if_pos c7] at H
 have c7b0 : ((Int.tmod (wrap64 (s0_1 + 1)) 2) == 0) = true := beq_iff_eq.mpr c7
 have c7b1 : ((Int.tmod (wrap64 (s0_1 + 1)) 2) != 0) = false := bne_eq_false_iff_eq.mpr c7
 clear c7
 obtain ⟨ji8, hji8⟩ : ∃ j_ : Int, (wrap64 ((wrap64 (s0_1 + 1)) - 1)) = j_ := ⟨_, rfl⟩
 replace H : (if 0 ≤ (ji8) then (if (ji8) < (s0_0.length : Int) then (if a1 = 0 then (none) else (some (Int.tmod (wrap64 (rd s0_0 (ji8))) a1, wrap64 (s0_1 + 1), Int.tmod (wrap64 ((wrap64 (s0_2 * 48271)) + 67)) 2147483647))) else (none)) else (none)) = some (r1, r2, r3) := by first | (rw [hji8] at H; first | done | exact H) | (simp only [hji8] at H ⊢; exact H)
 have hji8w : (IntKind.i64.wrap ((wrap64 (s0_1 + 1)) - 1)) = ji8 := (i64_w _).trans hji8
 have hji8x : (IntKind.i64.wrap ((IntKind.i64.wrap (s0_1 + 1)) - 1)) = ji8 := by simp only [i64_w]; exact hji8
 by_cases c9 : 0 ≤ (ji8)
 rw [if_pos c9] at H
 have c9b0 := decide_eq_true c9
 clear c9
 by_cases c10 : (ji8) < (s0_0.length : Int)
 rw [if_pos c10] at H
 have c10b0 := decide_eq_true c10
 clear c10
 by_cases c11 : a1 = 0
 ·rw [if_pos c11] at H
  exact absurd H (by simp)
 rw [if_neg c11] at H
 have c11b0 : (a1 == 0) = false := beq_eq_false_iff_ne.mpr c11
 have c11b1 : (a1 != 0) = true := bne_iff_ne.mpr c11
 rotate_left
 ·rw [if_neg c10] at H
  exact absurd H (by simp)
 ·rw [if_neg c9] at H
  exact absurd H (by simp)
 rw [if_neg c7] at H
 have c7b0 : ((Int.tmod (wrap64 (s0_1 + 1)) 2) == 0) = false := beq_eq_false_iff_ne.mpr c7
 have c7b1 : ((Int.tmod (wrap64 (s0_1 + 1)) 2) != 0) = true := bne_iff_ne.mpr c7
 by_cases c13 : a1 = 0
 ·rw [if_pos c13] at H
  exact absurd H (by simp)
 rw [if_neg c13] at H
 have c13b0 : (a1 == 0) = false := beq_eq_false_iff_ne.mpr c13
 have c13b1 : (a1 != 0) = true := bne_iff_ne.mpr c13
 rotate_left
 rw [if_neg c6] at H
 have c6b0 := decide_eq_false c6
 clear c6
 by_cases c15 : a1 = 0
 ·rw [if_pos c15] at H
  exact absurd H (by simp)
 rw [if_neg c15] at H
 have c15b0 : (a1 == 0) = false := beq_eq_false_iff_ne.mpr c15
 have c15b1 : (a1 != 0) = true := bne_iff_ne.mpr c15
 rotate_left
 ·rw [if_neg c5] at H
  exact absurd H (by simp)
 rw [if_neg c4] at H
 have c4b0 := decide_eq_false c4
 clear c4
 by_cases c17 : a1 = 0
 ·rw [if_pos c17] at H
  exact absurd H (by simp)
 rw [if_neg c17] at H
 have c17b0 : (a1 == 0) = false := beq_eq_false_iff_ne.mpr c17
 have c17b1 : (a1 != 0) = true := bne_iff_ne.mpr c17
 rotate_left
 all_goals
  simp only [Option.some.injEq, Prod.mk.injEq] at H
  obtain ⟨rfl, rfl, rfl⟩ := H
 ·go_enter Tryz.func45, Tryz.ntmps45
  go_wp2
  repeat (go_quiet (fail); try go_wp2)
  go_ret
  exact ⟨by first | rfl | (simp [errW_none, errW_some] <;> rfl) | (simp [*, errW_none, errW_some] <;> rfl), by repeat (first | (with_reducible first | exact HI0.out | apply IsS106.alloc | apply IsS106.drewN | apply IsS106.drew | apply IsS106.set_1 | apply IsS106.set_2) | exact HI0.out), by repeat (first | (with_reducible first | exact HB.out | apply below_alloc | apply pw_below_drewN | apply below_drew1 | refine below_set ?_ (IsS106.ge HI0.out)) | exact HB.out), by repeat (first | (with_reducible first | exact HK.out | apply KeepBut.set_ | apply keep_drewN | apply keep_drew | apply keep_alloc) | exact HK.out)⟩
 rotate_left 3
 ·obtain ⟨ASz18_0, cSz18_0, HGz18, hgz18, HSz18_0⟩ := HI0.out
  have hcz18_0 := cellS106_0 HGz18
  have hcz18_1 := cellS106_1 HGz18
  have hcz18_2 := cellS106_2 HGz18
  have hfz18_1 := blk_frozen HGz18 1
  have hfz18_2 := blk_frozen HGz18 2
  clear HGz18 hgz18
  go_enter Tryz.func45, Tryz.ntmps45
  go_wp2
  repeat (go_quiet (fail); try go_wp2)
  go_ret
  exact ⟨by first | rfl | (simp [errW_none, errW_some] <;> rfl) | (simp [*, errW_none, errW_some] <;> rfl), by repeat (first | (with_reducible first | exact HI0.out | apply IsS106.alloc | apply IsS106.drewN | apply IsS106.drew | apply IsS106.set_1 | apply IsS106.set_2) | exact HI0.out), by repeat (first | (with_reducible first | exact HB.out | apply below_alloc | apply pw_below_drewN | apply below_drew1 | refine below_set ?_ (IsS106.ge HI0.out)) | exact HB.out), by repeat (first | (with_reducible first | exact HK.out | apply KeepBut.set_ | apply keep_drewN | apply keep_drew | apply keep_alloc) | exact HK.out)⟩
 all_goals
  obtain ⟨ASz12_0, cSz12_0, HGz12, hgz12, HSz12_0⟩ := HI0.out
  have hcz12_0 := cellS106_0 HGz12
  have hcz12_1 := cellS106_1 HGz12
  have hcz12_2 := cellS106_2 HGz12
  have hfz12_1 := blk_frozen HGz12 1
  have hfz12_2 := blk_frozen HGz12 2
  clear HGz12 hgz12
  have p101 : 0 ≤ (s0_1 : Int) := od
  have q101 : s0_1 < (s0_0.length : Int) := od
  obtain ⟨ad101, e101, hx101_0⟩ := Kd.at_int HSz12_0 s0_1 p101 q101
  cases e101
  have hn101_0 : ad101.block ≠ g := Nat.ne_of_lt (Nat.lt_of_lt_of_le (by have := World.block_lt_of_cell? _ _ hx101_0; first | rwa [add_block] at this | exact this) (IsS106.ge HI0.out))
  replace hx101_0 := pw_cell_below HB.out hx101_0
  replace hx101_0 := (cell_far (p := ⟨g, 2, none⟩) (by first | (rw [add_block]; exact hn101_0) | (show (Addr.add _ _).block ≠ _; rw [add_block]; exact hn101_0) | exact hn101_0) (.int .i64 (Int.tmod (wrap64 ((wrap64 (s0_2 * 48271)) + 67)) 2147483647))).trans hx101_0
  (try have hy101_0 := fun (n_ : Nat) => (show (((w.drewN n_).setCell ⟨g, 2, none⟩ (.int .i64 (Int.tmod (wrap64 ((wrap64 (s0_2 * 48271)) + 67)) 2147483647)))).cell? _ = some _ from hx101_0))
  clear hn101_0
  replace p101 := eq_true p101
  replace q101 := eq_true q101
 have p102 : 0 ≤ ((ji8) : Int) := od
 have q102 : (ji8) < (s0_0.length : Int) := od
 obtain ⟨ad102, e102, hx102_0⟩ := Kd.at_int HSz12_0 (ji8) p102 q102
 obtain rfl : ad101 = ad102 := (by injection e102)
 have hn102_0 : ad101.block ≠ g := Nat.ne_of_lt (Nat.lt_of_lt_of_le (by have := World.block_lt_of_cell? _ _ hx102_0; first | rwa [add_block] at this | exact this) (IsS106.ge HI0.out))
 have hn102_1 : ad101.block ≠ g := Nat.ne_of_lt (Nat.lt_of_lt_of_le (by have := World.block_lt_of_cell? _ _ hx102_0; first | rwa [add_block] at this | exact this) (IsS106.ge HI0.out))
 replace hx102_0 := pw_cell_below HB.out hx102_0
 replace hx102_0 := (cell_far (p := ⟨g, 2, none⟩) (by first | (rw [add_block]; exact hn102_0) | (show (Addr.add _ _).block ≠ _; rw [add_block]; exact hn102_0) | exact hn102_0) (.int .i64 (Int.tmod (wrap64 ((wrap64 (s0_2 * 48271)) + 67)) 2147483647))).trans hx102_0
 replace hx102_0 := (cell_far (p := ⟨g, 1, none⟩) (by first | (rw [add_block]; exact hn102_1) | (show (Addr.add _ _).block ≠ _; rw [add_block]; exact hn102_1) | exact hn102_1) (.int .i64 (wrap64 (s0_1 + 1)))).trans hx102_0
 (try have hy102_0 := fun (n_ : Nat) => (show ((((w.drewN n_).setCell ⟨g, 2, none⟩ (.int .i64 (Int.tmod (wrap64 ((wrap64 (s0_2 * 48271)) + 67)) 2147483647))).setCell ⟨g, 1, none⟩ (.int .i64 (wrap64 (s0_1 + 1))))).cell? _ = some _ from hx102_0))
 (try have hz102_0 := fun (n_ : Nat) => (show ((((w.setCell ⟨g, 2, none⟩ (.int .i64 (Int.tmod (wrap64 ((wrap64 (s0_2 * 48271)) + 67)) 2147483647))).drewN n_).setCell ⟨g, 1, none⟩ (.int .i64 (wrap64 (s0_1 + 1))))).cell? _ = some _ from hx102_0))
 clear hn102_0
 clear hn102_1
 replace p102 := eq_true p102
 replace q102 := eq_true q102
 rotate_left 3
 all_goals
  go_enter Tryz.func45, Tryz.ntmps45
  go_wp2
  repeat (go_quiet (fail); try go_wp2)
  go_ret
 ·exact ⟨by first | rfl | (simp [errW_none, errW_some] <;> rfl) | (simp only [← hji8]; first | rfl | (simp [errW_none, errW_some] <;> rfl)) | (simp [*, errW_none, errW_some] <;> rfl), by repeat (first | (with_reducible first | exact HI0.out | apply IsS106.alloc | apply IsS106.drewN | apply IsS106.drew | apply IsS106.set_1 | apply IsS106.set_2) | exact HI0.out), by repeat (first | (with_reducible first | exact HB.out | apply below_alloc | apply pw_below_drewN | apply below_drew1 | refine below_set ?_ (IsS106.ge HI0.out)) | exact HB.out), by repeat (first | (with_reducible first | exact HK.out | apply KeepBut.set_ | apply keep_drewN | apply keep_drew | apply keep_alloc) | exact HK.out)⟩
 rotate_left 2
 all_goals
  exact ⟨by first | rfl | (simp [errW_none, errW_some] <;> rfl) | (simp [*, errW_none, errW_some] <;> rfl), by repeat (first | (with_reducible first | exact HI0.out | apply IsS106.alloc | apply IsS106.drewN | apply IsS106.drew | apply IsS106.set_1 | apply IsS106.set_2) | exact HI0.out), by repeat (first | (with_reducible first | exact HB.out | apply below_alloc | apply pw_below_drewN | apply below_drew1 | refine below_set ?_ (IsS106.ge HI0.out)) | exact HB.out), by repeat (first | (with_reducible first | exact HK.out | apply KeepBut.set_ | apply keep_drewN | apply keep_drew | apply keep_alloc) | exact HK.out)⟩
/-! ### spec_l02Multiply: function 51 -/
def spec_l02Multiply.f (a0_0 : Int) (a0_1 : Int) (a0_2 : Int) (a0_3 : Int) (a1_0 : Int) (a1_1 : Int) (a1_2 : Int) (a1_3 : Int) : Option (Int × Int × Int × Int) := some (wrap64 ((wrap64 (a0_0 * a1_0)) + (wrap64 (a0_1 * a1_2))), wrap64 ((wrap64 (a0_0 * a1_1)) + (wrap64 (a0_1 * a1_3))), wrap64 ((wrap64 (a0_2 * a1_0)) + (wrap64 (a0_3 * a1_2))), wrap64 ((wrap64 (a0_2 * a1_1)) + (wrap64 (a0_3 * a1_3))))
set_option maxHeartbeats 8000000 in
set_option maxRecDepth 100000 in
theorem spec_l02Multiply.calls (a0_0 : Int) (a0_1 : Int) (a0_2 : Int) (a0_3 : Int) (a1_0 : Int) (a1_1 : Int) (a1_2 : Int) (a1_3 : Int) (r1 : Int) (r2 : Int) (r3 : Int) (r4 : Int) (w : World) (h : spec_l02Multiply.f a0_0 a0_1 a0_2 a0_3 a1_0 a1_1 a1_2 a1_3 = some (r1, r2, r3, r4)) :
  Calls Tryz.prog 51 #[.agg #[.int .i64 a0_0, .int .i64 a0_1, .int .i64 a0_2, .int .i64 a0_3], .agg #[.int .i64 a1_0, .int .i64 a1_1, .int .i64 a1_2, .int .i64 a1_3]] w fun e w' => e = .returned (.agg #[.int .i64 r1, .int .i64 r2, .int .i64 r3, .int .i64 r4]) ∧ Below w.heap.size w w' := by
 have hu25 := Tryz.underlying25
 have HB := asd (Below.refl w.heap.size w)
 have H : (some (wrap64 ((wrap64 (a0_0 * a1_0)) + (wrap64 (a0_1 * a1_2))), wrap64 ((wrap64 (a0_0 * a1_1)) + (wrap64 (a0_1 * a1_3))), wrap64 ((wrap64 (a0_2 * a1_0)) + (wrap64 (a0_3 * a1_2))), wrap64 ((wrap64 (a0_2 * a1_1)) + (wrap64 (a0_3 * a1_3))))) = some (r1, r2, r3, r4) := h
 clear h
 simp only [Option.some.injEq, Prod.mk.injEq] at H
 obtain ⟨rfl, rfl, rfl, rfl⟩ := H
 go_enter Tryz.func51, Tryz.ntmps51
 go_wp2_with (first | ((with_reducible refine gd 2 rfl ?_); refine bx #[.int .i64 a0_0, .int .i64 a0_1, .int .i64 a0_2, .int .i64 a0_3] 25 ?_; intro gb103 hg w3 BK103 hb; have GE103 := ngw0 hg HB; replace HB := bS0 HB hb; clear hb hg) | ((with_reducible refine gd 3 rfl ?_); refine bx #[.int .i64 a1_0, .int .i64 a1_1, .int .i64 a1_2, .int .i64 a1_3] 25 ?_; intro gb104 hg w4 BK104 hb; have GE104 := ngw1 hg HB GE103; replace HB := bS1 HB GE103 hb; have NB103_104 := nlt hg BK103; have NB104_103 := nsy (nlt hg BK103); replace BK103 := bB BK103 hb; clear hb hg) | ((with_reducible refine gd 4 rfl ?_); refine bx #[.int .i64 0, .int .i64 0, .int .i64 0, .int .i64 0] 25 ?_; intro gb105 hg w5 BK105 hb; have GE105 := ngw2 hg HB GE103 GE104; replace HB := bS2 HB GE103 GE104 hb; have NB103_105 := nlt hg BK103; have NB105_103 := nsy (nlt hg BK103); replace BK103 := bB BK103 hb; have NB104_105 := nlt hg BK104; have NB105_104 := nsy (nlt hg BK104); replace BK104 := bB BK104 hb; clear hb hg; have hnb6 := NB103_104.out; have hnc6 := NB104_103.out; have hnb7 := NB103_105.out; have hnc7 := NB105_103.out; obtain ⟨hcz8_0, hcz8_1, hcz8_2, hcz8_3, hfz8_0, hfz8_1, hfz8_2, hfz8_3⟩ := bz4 BK103; have hnb9 := NB104_105.out; have hnc9 := NB105_104.out; obtain ⟨hcz10_0, hcz10_1, hcz10_2, hcz10_3, hfz10_0, hfz10_1, hfz10_2, hfz10_3⟩ := bz4 BK104; obtain ⟨hcz11_0, hcz11_1, hcz11_2, hcz11_3, hfz11_0, hfz11_1, hfz11_2, hfz11_3⟩ := bz4 BK105))
 refine bodyPost_ret (results_cell_row rfl _ _ gb105 25 #[.int .i64 (wrap64 ((wrap64 (a0_0 * a1_0)) + (wrap64 (a0_1 * a1_2)))), .int .i64 (wrap64 ((wrap64 (a0_0 * a1_1)) + (wrap64 (a0_1 * a1_3)))), .int .i64 (wrap64 ((wrap64 (a0_2 * a1_0)) + (wrap64 (a0_3 * a1_2)))), .int .i64 (wrap64 ((wrap64 (a0_2 * a1_1)) + (wrap64 (a0_3 * a1_3))))] (0, 0) _ rfl (bq0 BK105) Tryz.underlying25 rfl (by kernel_rfl)) rfl ?_
 exact er (bbw3 HB GE103 GE104 GE105)
/-! ### spec_l02Unit: function 81 -/
def spec_l02Unit.f  : Option (Int × Int × Int × Int) := some (1, 0, 0, 1)
set_option maxHeartbeats 8000000 in
set_option maxRecDepth 100000 in
theorem spec_l02Unit.calls  (r1 : Int) (r2 : Int) (r3 : Int) (r4 : Int) (w : World) (h : spec_l02Unit.f  = some (r1, r2, r3, r4)) :
  Calls Tryz.prog 81 #[] w fun e w' => e = .returned (.agg #[.int .i64 r1, .int .i64 r2, .int .i64 r3, .int .i64 r4]) ∧ Below w.heap.size w w' := by
 have hu25 := Tryz.underlying25
 have HB := asd (Below.refl w.heap.size w)
 have H : (some (1, 0, 0, 1)) = some (r1, r2, r3, r4) := h
 clear h
 simp only [Option.some.injEq, Prod.mk.injEq] at H
 obtain ⟨rfl, rfl, rfl, rfl⟩ := H
 go_enter Tryz.func81, Tryz.ntmps81
 go_wp2_with (first | ((with_reducible refine gd 0 rfl ?_); refine bx #[.int .i64 0, .int .i64 0, .int .i64 0, .int .i64 0] 25 ?_; intro gb106 hg w1 BK106 hb; have GE106 := ngw0 hg HB; replace HB := bS0 HB hb; clear hb hg; obtain ⟨hcz2_0, hcz2_1, hcz2_2, hcz2_3, hfz2_0, hfz2_1, hfz2_2, hfz2_3⟩ := bz4 BK106))
 refine bodyPost_ret (results_cell_row rfl _ _ gb106 25 #[.int .i64 1, .int .i64 0, .int .i64 0, .int .i64 1] (0, 0) _ rfl (bq0 BK106) Tryz.underlying25 rfl (by kernel_rfl)) rfl ?_
 exact er (bbw1 HB GE106)
/-! ### spec_l02Det: function 89 -/
def spec_l02Det.f (a0_0 : Int) (a0_1 : Int) (a0_2 : Int) (a0_3 : Int) : Option (Int) := some (wrap64 ((wrap64 (a0_0 * a0_3)) - (wrap64 (a0_1 * a0_2))))
set_option maxHeartbeats 8000000 in
set_option maxRecDepth 100000 in
theorem spec_l02Det.calls (a0_0 : Int) (a0_1 : Int) (a0_2 : Int) (a0_3 : Int) (r : Int) (w : World) (h : spec_l02Det.f a0_0 a0_1 a0_2 a0_3 = some r) :
  Calls Tryz.prog 89 #[.agg #[.int .i64 a0_0, .int .i64 a0_1, .int .i64 a0_2, .int .i64 a0_3]] w fun e w' => e = .returned (.int .i64 r) ∧ Below w.heap.size w w' := by
 have hu25 := Tryz.underlying25
 have HB := asd (Below.refl w.heap.size w)
 have H : (some (wrap64 ((wrap64 (a0_0 * a0_3)) - (wrap64 (a0_1 * a0_2))))) = some r := h
 clear h
 obtain rfl := Option.some.inj H
 go_enter Tryz.func89, Tryz.ntmps89
 go_wp2_with (first | ((with_reducible refine gd 1 rfl ?_); refine bx #[.int .i64 a0_0, .int .i64 a0_1, .int .i64 a0_2, .int .i64 a0_3] 25 ?_; intro gb107 hg w2 BK107 hb; have GE107 := ngw0 hg HB; replace HB := bS0 HB hb; clear hb hg; obtain ⟨hcz3_0, hcz3_1, hcz3_2, hcz3_3, hfz3_0, hfz3_1, hfz3_2, hfz3_3⟩ := bz4 BK107))
 go_ret
 exact er (bbw1 HB GE107)
/-! ### spec_l02Inverse: function 123 -/
def spec_l02Inverse.f (a0_0 : Int) (a0_1 : Int) (a0_2 : Int) (a0_3 : Int) : Option (Int × Int × Int × Int) := (spec_l02Det.f a0_0 a0_1 a0_2 a0_3).bind fun t110 => (some (wrap64 (t110 * a0_3), wrap64 ((wrap64 (-t110)) * a0_1), wrap64 ((wrap64 (-t110)) * a0_2), wrap64 (t110 * a0_0)))
set_option maxHeartbeats 8000000 in
set_option maxRecDepth 100000 in
theorem spec_l02Inverse.calls (a0_0 : Int) (a0_1 : Int) (a0_2 : Int) (a0_3 : Int) (r1 : Int) (r2 : Int) (r3 : Int) (r4 : Int) (w : World) (h : spec_l02Inverse.f a0_0 a0_1 a0_2 a0_3 = some (r1, r2, r3, r4)) :
  Calls Tryz.prog 123 #[.agg #[.int .i64 a0_0, .int .i64 a0_1, .int .i64 a0_2, .int .i64 a0_3]] w fun e w' => e = .returned (.agg #[.int .i64 r1, .int .i64 r2, .int .i64 r3, .int .i64 r4]) ∧ Below w.heap.size w w' := by
 have hu25 := Tryz.underlying25
 have HB := asd (Below.refl w.heap.size w)
 have H : ((spec_l02Det.f a0_0 a0_1 a0_2 a0_3).bind fun t110 => (some (wrap64 (t110 * a0_3), wrap64 ((wrap64 (-t110)) * a0_1), wrap64 ((wrap64 (-t110)) * a0_2), wrap64 (t110 * a0_0)))) = some (r1, r2, r3, r4) := h
 clear h
 obtain ⟨t110, A2, H⟩ := ob H
 try dsimp only at H
 simp only [Option.some.injEq, Prod.mk.injEq] at H
 obtain ⟨rfl, rfl, rfl, rfl⟩ := H
 go_enter Tryz.func123, Tryz.ntmps123
 go_wp2_with (first | ((with_reducible refine gd 1 rfl ?_); refine bx #[.int .i64 a0_0, .int .i64 a0_1, .int .i64 a0_2, .int .i64 a0_3] 25 ?_; intro gb108 hg w3 BK108 hb; have GE108 := ngw0 hg HB; replace HB := bS0 HB hb; clear hb hg) | ((with_reducible refine gd 2 rfl ?_); refine bx #[.int .i64 0, .int .i64 0, .int .i64 0, .int .i64 0] 25 ?_; intro gb109 hg w4 BK109 hb; have GE109 := ngw1 hg HB GE108; replace HB := bS1 HB GE108 hb; have NB108_109 := nlt hg BK108; have NB109_108 := nsy (nlt hg BK108); replace BK108 := bB BK108 hb; clear hb hg; have hnb5 := NB108_109.out; have hnc5 := NB109_108.out; obtain ⟨hcz6_0, hcz6_1, hcz6_2, hcz6_3, hfz6_0, hfz6_1, hfz6_2, hfz6_3⟩ := bz4 BK108) | ((with_reducible refine gate_callee (f := 89) rfl ?_); refine gl 5 Tryz.func89 #[.agg #[.int .i64 a0_0, .int .i64 a0_1, .int .i64 a0_2, .int .i64 a0_3]] ?_; (with_reducible refine (spec_l02Det.calls _ _ _ _ _ _ A2.out).mono ?_); rintro e w7 ⟨rfl, hb⟩; refine ⟨_, rfl, ?_⟩; replace BK108 := bB BK108 hb; replace BK109 := bB BK109 hb; replace HB := bS2 HB GE108 GE109 hb; (try clear hb); obtain ⟨hcz8_0, hcz8_1, hcz8_2, hcz8_3, hfz8_0, hfz8_1, hfz8_2, hfz8_3⟩ := bz4 BK108; obtain ⟨hcz9_0, hcz9_1, hcz9_2, hcz9_3, hfz9_0, hfz9_1, hfz9_2, hfz9_3⟩ := bz4 BK109))
 refine bodyPost_ret (results_cell_row rfl _ _ gb109 25 #[.int .i64 (wrap64 (t110 * a0_3)), .int .i64 (wrap64 ((wrap64 (-t110)) * a0_1)), .int .i64 (wrap64 ((wrap64 (-t110)) * a0_2)), .int .i64 (wrap64 (t110 * a0_0))] (0, 0) _ rfl (bq0 BK109) Tryz.underlying25 rfl (by kernel_rfl)) rfl ?_
 exact er (bbw2 HB GE108 GE109)
/-! ### spec_l02DrawFinite: function 82 -/
def spec_l02DrawFinite.l0 : Nat → Int → List Int → Int → Int → Int → Int → Int → Int → Option (Int × Int × Int × Int × Int × Int)
 | 0, _, _, _, _, _, _, _, _ => none
 | k + 1, x4, x1000, x1001, x1002, x120000, x120001, x120002, x120003 => if x4 > 0 then ((spec_l01Next.f x1000 x1001 x1002 5).bind fun bt123 => ((spec_l01Next.f x1000 bt123.2.1 bt123.2.2 2).bind fun bt127 => (if bt127.1 = 0 then ((spec_l01Next.f x1000 bt127.2.1 bt127.2.2 5).bind fun bt130 => ((spec_l02Multiply.f 1 0 (wrap64 (bt130.1 - 2)) 1 x120000 x120001 x120002 x120003).bind fun bt133 => ((spec_l02Inverse.f 1 0 (wrap64 (bt130.1 - 2)) 1).bind fun bt137 => ((spec_l02Multiply.f bt133.1 bt133.2.1 bt133.2.2.1 bt133.2.2.2 bt137.1 bt137.2.1 bt137.2.2.1 bt137.2.2.2).bind fun bt141 => (spec_l02DrawFinite.l0 k (wrap64 (x4 - 1)) x1000 bt130.2.1 bt130.2.2 bt141.1 bt141.2.1 bt141.2.2.1 bt141.2.2.2))))) else ((spec_l02Multiply.f 1 (wrap64 (bt123.1 - 2)) 0 1 x120000 x120001 x120002 x120003).bind fun bt145 => ((spec_l02Inverse.f 1 (wrap64 (bt123.1 - 2)) 0 1).bind fun bt149 => ((spec_l02Multiply.f bt145.1 bt145.2.1 bt145.2.2.1 bt145.2.2.2 bt149.1 bt149.2.1 bt149.2.2.1 bt149.2.2.2).bind fun bt153 => (spec_l02DrawFinite.l0 k (wrap64 (x4 - 1)) x1000 bt127.2.1 bt127.2.2 bt153.1 bt153.2.1 bt153.2.2.1 bt153.2.2.2))))))) else (some (x120000, x120001, x120002, x120003, x1001, x1002))
def spec_l02DrawFinite.f (k : Nat) (s0_0 : List Int) (s0_1 : Int) (s0_2 : Int) : Option (Int × Int × Int × Int × Int × Int) := (some (([(⟨1, 0, 0, 1⟩ : S25), (⟨(-1), 0, 0, (-1)⟩ : S25), (⟨0, (-1), 1, 0⟩ : S25), (⟨0, (-1), 1, 1⟩ : S25), (⟨(-1), (-1), 1, 0⟩ : S25), (⟨1, 0, 0, (-1)⟩ : S25), (⟨0, 1, 1, 0⟩ : S25), (⟨1, 1, 0, (-1)⟩ : S25)] : List (S25)) : List (S25))).bind fun y112 => ((spec_l01Next.f s0_0 s0_1 s0_2 8).bind fun bt115 => (if 0 ≤ bt115.1 then (if bt115.1 < (y112.length : Int) then ((spec_l01Next.f s0_0 bt115.2.1 bt115.2.2 3).bind fun bt120 => (spec_l02DrawFinite.l0 k bt120.1 s0_0 bt120.2.1 bt120.2.2 ((rd_T25 y112 bt115.1).f0) ((rd_T25 y112 bt115.1).f1) ((rd_T25 y112 bt115.1).f2) ((rd_T25 y112 bt115.1).f3))) else (none)) else (none)))
set_option maxHeartbeats 8000000 in
set_option maxRecDepth 100000 in
theorem spec_l02DrawFinite.calls (k : Nat) (g : Nat) (s0_0 : List Int) (s0_1 : Int) (s0_2 : Int) (r1 : Int) (r2 : Int) (r3 : Int) (r4 : Int) (r5 : Int) (r6 : Int) (w0 w : World) (hI : IsS106 w0 w g s0_0 s0_1 s0_2) (hB : Below w0.heap.size w0 w) (h : spec_l02DrawFinite.f k s0_0 s0_1 s0_2 = some (r1, r2, r3, r4, r5, r6)) :
  Calls Tryz.prog 82 #[.pointer (some ⟨g, 0, none⟩)] w fun e w' => e = .returned (.agg #[.int .i64 r1, .int .i64 r2, .int .i64 r3, .int .i64 r4]) ∧ IsS106 w0 w' g s0_0 r5 r6 ∧ Below w0.heap.size w0 w' ∧ KeepBut w w' g none := by
 have hu25 := Tryz.underlying25
 have HI0 := Aside0.mk hI
 have HK := asd (KeepBut.refl w g none)
 have HL := Aside0.mk hB.size
 clear hI
 have HW0 := Aside0.mk hB.size
 have HB := Aside0.mk hB
 clear hB
 have H : ((some (([(⟨1, 0, 0, 1⟩ : S25), (⟨(-1), 0, 0, (-1)⟩ : S25), (⟨0, (-1), 1, 0⟩ : S25), (⟨0, (-1), 1, 1⟩ : S25), (⟨(-1), (-1), 1, 0⟩ : S25), (⟨1, 0, 0, (-1)⟩ : S25), (⟨0, 1, 1, 0⟩ : S25), (⟨1, 1, 0, (-1)⟩ : S25)] : List (S25)) : List (S25))).bind fun y112 => ((spec_l01Next.f s0_0 s0_1 s0_2 8).bind fun bt115 => (if 0 ≤ bt115.1 then (if bt115.1 < (y112.length : Int) then ((spec_l01Next.f s0_0 bt115.2.1 bt115.2.2 3).bind fun bt120 => (spec_l02DrawFinite.l0 k bt120.1 s0_0 bt120.2.1 bt120.2.2 ((rd_T25 y112 bt115.1).f0) ((rd_T25 y112 bt115.1).f1) ((rd_T25 y112 bt115.1).f2) ((rd_T25 y112 bt115.1).f3))) else (none)) else (none)))) = some (r1, r2, r3, r4, r5, r6) := h
 clear h
 obtain ⟨y112, hy112⟩ : ∃ y_ : List (S25), y_ = (([(⟨1, 0, 0, 1⟩ : S25), (⟨(-1), 0, 0, (-1)⟩ : S25), (⟨0, (-1), 1, 0⟩ : S25), (⟨0, (-1), 1, 1⟩ : S25), (⟨(-1), (-1), 1, 0⟩ : S25), (⟨1, 0, 0, (-1)⟩ : S25), (⟨0, 1, 1, 0⟩ : S25), (⟨1, 1, 0, (-1)⟩ : S25)] : List (S25))) := ⟨_, rfl⟩
 replace H : ((spec_l01Next.f s0_0 s0_1 s0_2 8).bind fun bt115 => (if 0 ≤ bt115.1 then (if bt115.1 < (y112.length : Int) then ((spec_l01Next.f s0_0 bt115.2.1 bt115.2.2 3).bind fun bt120 => (spec_l02DrawFinite.l0 k bt120.1 s0_0 bt120.2.1 bt120.2.2 ((rd_T25 y112 bt115.1).f0) ((rd_T25 y112 bt115.1).f1) ((rd_T25 y112 bt115.1).f2) ((rd_T25 y112 bt115.1).f3))) else (none)) else (none))) = some (r1, r2, r3, r4, r5, r6) := by first | (rw [hy112]; with_reducible exact H) | (have H2_ := (Option.bind_some _ _).symm.trans H; rw [hy112]; with_reducible exact H2_) | (have H2_ := (Option.bind_some _ _).symm.trans H; with_reducible exact H2_) | with_reducible exact H | (rw [hy112]; exact H) | exact H
 have Ny112 := Aside0.mk hy112
 clear hy112
 obtain ⟨⟨t115, t116, t117⟩, A2, H⟩ := ob H
 try dsimp only at H
 by_cases c3 : 0 ≤ t115
 ·rw [if_pos c3] at H
  have c3b0 := decide_eq_true c3
  clear c3
  by_cases c4 : t115 < (y112.length : Int)
  ·rw [if_pos c4] at H
   have c4b0 := decide_eq_true c4
   clear c4
   obtain ⟨⟨t120, t121, t122⟩, A5, H⟩ := ob H
   try dsimp only at H
   have H' := Aside0.mk H
   clear H
   go_enter Tryz.func82, Tryz.ntmps82
   go_wp2_with (first | ((with_reducible refine gd 2 rfl ?_); refine bx #[.int .i64 0, .int .i64 0, .int .i64 0, .int .i64 0] 25 ?_; intro gb111 hg w6 BK111 hb; replace HB := asd (below_step (by repeat (first | (with_reducible first | exact HB.out | apply below_alloc | apply pw_below_drewN | apply below_drew1 | refine below_set ?_ (IsS106.ge HI0.out)) | exact HB.out)) hb); have GW111 := asd ((by rw [hg]; exact (keep_size (w := w) (g := g) (row := none) (by repeat (first | (with_reducible first | exact HK.out | apply KeepBut.set_ | apply keep_drewN | apply keep_drew | apply keep_alloc) | exact HK.out))) : w.heap.size ≤ gb111)); have GE111 := asd ((Nat.le_trans HW0.out (by rw [hg]; exact (keep_size (w := w) (g := g) (row := none) (by repeat (first | (with_reducible first | exact HK.out | apply KeepBut.set_ | apply keep_drewN | apply keep_drew | apply keep_alloc) | exact HK.out))) : w.heap.size ≤ gb111) : w0.heap.size ≤ gb111)); replace HK := asd (KeepBut.trans (by repeat (first | (with_reducible first | exact HK.out | apply KeepBut.set_ | apply keep_drewN | apply keep_drew | apply keep_alloc) | exact HK.out)) (KeepBut.of_below hb g none) (.inl rfl)); have NB0_111 := asd ((by rw [hg]; exact Nat.ne_of_lt (IsS106.lt (show IsS106 w0 _ g s0_0 s0_1 s0_2 from by repeat (first | (with_reducible first | exact HI0.out | apply IsS106.alloc | apply IsS106.drewN | apply IsS106.drew | apply IsS106.set_1 | apply IsS106.set_2) | exact HI0.out))) : g ≠ gb111)); have NB111_0 := asd ((by rw [hg]; exact Nat.ne_of_gt (IsS106.lt (show IsS106 w0 _ g s0_0 s0_1 s0_2 from by repeat (first | (with_reducible first | exact HI0.out | apply IsS106.alloc | apply IsS106.drewN | apply IsS106.drew | apply IsS106.set_1 | apply IsS106.set_2) | exact HI0.out))) : gb111 ≠ g)); replace HI0 := asd (IsS106.below (by repeat (first | (with_reducible first | exact HI0.out | apply IsS106.alloc | apply IsS106.drewN | apply IsS106.drew | apply IsS106.set_1 | apply IsS106.set_2) | exact HI0.out)) hb); clear hb hg) | ((with_reducible refine gd 14 rfl ?_); refine Kd.R_lit k25 _ 25 ?hg (N := 14) ?hd (xs := ([(⟨1, 0, 0, 1⟩ : S25), (⟨(-1), 0, 0, (-1)⟩ : S25), (⟨0, (-1), 1, 0⟩ : S25), (⟨0, (-1), 1, 1⟩ : S25), (⟨(-1), (-1), 1, 0⟩ : S25), (⟨1, 0, 0, (-1)⟩ : S25), (⟨0, 1, 1, 0⟩ : S25), (⟨1, 1, 0, (-1)⟩ : S25)] : List (S25))) (inner := [.int .i64 1, .int .i64 0, .int .i64 0, .int .i64 1, .int .i64 (-1), .int .i64 0, .int .i64 0, .int .i64 (-1), .int .i64 0, .int .i64 (-1), .int .i64 1, .int .i64 0, .int .i64 0, .int .i64 (-1), .int .i64 1, .int .i64 1, .int .i64 (-1), .int .i64 (-1), .int .i64 1, .int .i64 0, .int .i64 1, .int .i64 0, .int .i64 0, .int .i64 (-1), .int .i64 0, .int .i64 1, .int .i64 1, .int .i64 0, .int .i64 1, .int .i64 1, .int .i64 0, .int .i64 (-1)]) (ok := fun _ => True) (okp := fun _ => True) ?hr ?hp (fun _ hk => hk) trivial (Below.refl _ _) (Nat.le_refl _) (by simp) ?_; (case hd => rfl); (case hg => rfl); (case hr => first | (go_simp; done) | (go_simp; rfl)); (case hp => exact (Reps.c4 (show Kd.M k25 _ _ _ (⟨1, 0, 0, 1⟩ : S25) [.int .i64 1, .int .i64 0, .int .i64 0, .int .i64 1] from (k25_mkM _ _ _ (⟨1, 0, 0, 1⟩ : S25) )) (Reps.c4 (show Kd.M k25 _ _ _ (⟨(-1), 0, 0, (-1)⟩ : S25) [.int .i64 (-1), .int .i64 0, .int .i64 0, .int .i64 (-1)] from (k25_mkM _ _ _ (⟨(-1), 0, 0, (-1)⟩ : S25) )) (Reps.c4 (show Kd.M k25 _ _ _ (⟨0, (-1), 1, 0⟩ : S25) [.int .i64 0, .int .i64 (-1), .int .i64 1, .int .i64 0] from (k25_mkM _ _ _ (⟨0, (-1), 1, 0⟩ : S25) )) (Reps.c4 (show Kd.M k25 _ _ _ (⟨0, (-1), 1, 1⟩ : S25) [.int .i64 0, .int .i64 (-1), .int .i64 1, .int .i64 1] from (k25_mkM _ _ _ (⟨0, (-1), 1, 1⟩ : S25) )) (Reps.c4 (show Kd.M k25 _ _ _ (⟨(-1), (-1), 1, 0⟩ : S25) [.int .i64 (-1), .int .i64 (-1), .int .i64 1, .int .i64 0] from (k25_mkM _ _ _ (⟨(-1), (-1), 1, 0⟩ : S25) )) (Reps.c4 (show Kd.M k25 _ _ _ (⟨1, 0, 0, (-1)⟩ : S25) [.int .i64 1, .int .i64 0, .int .i64 0, .int .i64 (-1)] from (k25_mkM _ _ _ (⟨1, 0, 0, (-1)⟩ : S25) )) (Reps.c4 (show Kd.M k25 _ _ _ (⟨0, 1, 1, 0⟩ : S25) [.int .i64 0, .int .i64 1, .int .i64 1, .int .i64 0] from (k25_mkM _ _ _ (⟨0, 1, 1, 0⟩ : S25) )) (Reps.c4 (show Kd.M k25 _ _ _ (⟨1, 1, 0, (-1)⟩ : S25) [.int .i64 1, .int .i64 1, .int .i64 0, .int .i64 (-1)] from (k25_mkM _ _ _ (⟨1, 1, 0, (-1)⟩ : S25) )) (Reps.none _ _)))))))))); intro v113 w7 ho8 hb hg_ hnew_; clear hg_ hnew_; (first | rw [← Ny112.out] at ho8 | (simp only [Int.reduceToNat] at ho8; rw [← Ny112.out] at ho8)); have HO114 := asd (Kd.R_lower (Kd.R_newB ho8 (g := gb111) (o := .cells #[.int .i64 0, .int .i64 0, .int .i64 0, .int .i64 0] 25 (0, 0)) (bkp BK111)) (keep_size (w := w) (g := g) (row := none) (by repeat (first | (with_reducible first | exact HK.out | apply KeepBut.set_ | apply keep_drewN | apply keep_drew | apply keep_alloc | refine keep_far ?_ GW111.out _) | exact HK.out)))); replace BK111 := bB BK111 hb; replace HK := asd (KeepBut.trans (by repeat (first | (with_reducible first | exact HK.out | apply KeepBut.set_ | apply keep_drewN | apply keep_drew | apply keep_alloc | refine keep_far ?_ GW111.out _) | exact HK.out)) (KeepBut.of_below hb g none) (.inl rfl)); replace HB := asd (below_step (by repeat (first | (with_reducible first | exact HB.out | apply below_alloc | apply pw_below_drewN | apply below_drew1 | refine below_set ?_ (IsS106.ge HI0.out) | refine below_set ?_ GE111.out) | exact HB.out)) hb); replace HI0 := asd (IsS106.below (by repeat (first | (with_reducible first | exact HI0.out | apply IsS106.alloc | apply IsS106.drewN | apply IsS106.drew | apply IsS106.set_1 | apply IsS106.set_2 | refine IsS106.far ?_ NB0_111.out _) | exact HI0.out)) hb); clear hb ho8) | ((with_reducible refine gate_callee (f := 45) rfl ?_); refine gl 16 Tryz.func45 #[.pointer (some ⟨g, 0, none⟩), .int .i64 8] ?_; (with_reducible refine (spec_l01Next.calls _ _ _ _ _ _ _ _ w0 _ ?side1 ?side2 A2.out).mono ?_); (case side1 => repeat (first | (with_reducible first | exact HI0.out | apply IsS106.alloc | apply IsS106.drewN | apply IsS106.drew | apply IsS106.set_1 | apply IsS106.set_2 | refine IsS106.far ?_ NB0_111.out _) | exact HI0.out)); (case side2 => repeat (first | (with_reducible first | exact HB.out | apply below_alloc | apply pw_below_drewN | apply below_drew1 | refine below_set ?_ (IsS106.ge HI0.out) | refine below_set ?_ GE111.out) | exact HB.out)); rintro e w9 ⟨rfl, hi, hb, hk⟩; refine ⟨_, rfl, ?_⟩; replace BK111 := asd (KeepBut.blk hk (g' := gb111) (o := .cells #[.int .i64 0, .int .i64 0, .int .i64 0, .int .i64 0] 25 (0, 0)) (bkp BK111) NB111_0.out (by simp)); replace HO114 := asd (Kd.R_mono (Kd.R_keep (IsS106.apart (show IsS106 w0 _ g s0_0 s0_1 s0_2 from by repeat (first | (with_reducible first | exact HI0.out | apply IsS106.alloc | apply IsS106.drewN | apply IsS106.drew | apply IsS106.set_1 | apply IsS106.set_2 | refine IsS106.far ?_ NB0_111.out _) | exact HI0.out)) (kr HO114) (by decide)) hk (fun _ h => h.2)) (fun _ h => h.1)); replace HK := asd (KeepBut.trans (by repeat (first | (with_reducible first | exact HK.out | apply KeepBut.set_ | apply keep_drewN | apply keep_drew | apply keep_alloc | refine keep_far ?_ GW111.out _) | exact HK.out)) hk (.inl rfl)); replace HB := asd (hb); replace HI0 := asd (hi); (try clear hb); (try clear hb2); (try clear hk); (try clear hi); obtain ⟨Ao10, co10, eo10⟩ := Kd.R_slice HO114.out; subst eo10; have p118 : 0 ≤ (t115 : Int) := od; have q118 : t115 < (y112.length : Int) := od; obtain ⟨ad118, e118, hx118_0, hx118_1, hx118_2, hx118_3⟩ := at_T25 (Kd.R_reads' HO114.out).2.2 t115 p118 q118; cases e118; replace p118 := eq_true p118; replace q118 := eq_true q118) | ((with_reducible refine gd 3 rfl ?_); refine bx #[.int .i64 0, .int .i64 0, .int .i64 0, .int .i64 0] 25 ?_; intro gb119 hg w11 BK119 hb; replace HO114 := asd (Kd.R_below (Kd.R_elderB (kr HO114) gb119 (Nat.le_of_eq hg.symm)) hb); replace HB := asd (below_step (by repeat (first | (with_reducible first | exact HB.out | apply below_alloc | apply pw_below_drewN | apply below_drew1 | refine below_set ?_ (IsS106.ge HI0.out) | refine below_set ?_ GE111.out) | exact HB.out)) hb); have GW119 := asd ((by rw [hg]; exact (keep_size (w := w) (g := g) (row := none) (by repeat (first | (with_reducible first | exact HK.out | apply KeepBut.set_ | apply keep_drewN | apply keep_drew | apply keep_alloc | refine keep_far ?_ GW111.out _) | exact HK.out))) : w.heap.size ≤ gb119)); have GE119 := asd ((Nat.le_trans HW0.out (by rw [hg]; exact (keep_size (w := w) (g := g) (row := none) (by repeat (first | (with_reducible first | exact HK.out | apply KeepBut.set_ | apply keep_drewN | apply keep_drew | apply keep_alloc | refine keep_far ?_ GW111.out _) | exact HK.out))) : w.heap.size ≤ gb119) : w0.heap.size ≤ gb119)); replace HK := asd (KeepBut.trans (by repeat (first | (with_reducible first | exact HK.out | apply KeepBut.set_ | apply keep_drewN | apply keep_drew | apply keep_alloc | refine keep_far ?_ GW111.out _) | exact HK.out)) (KeepBut.of_below hb g none) (.inl rfl)); have NB111_119 := nlt hg BK111; have NB119_111 := nsy (nlt hg BK111); replace BK111 := bB BK111 hb; have NB0_119 := asd ((by rw [hg]; exact Nat.ne_of_lt (IsS106.lt (show IsS106 w0 _ g s0_0 t116 t117 from by repeat (first | (with_reducible first | exact HI0.out | apply IsS106.alloc | apply IsS106.drewN | apply IsS106.drew | apply IsS106.set_1 | apply IsS106.set_2 | refine IsS106.far ?_ NB0_111.out _) | exact HI0.out))) : g ≠ gb119)); have NB119_0 := asd ((by rw [hg]; exact Nat.ne_of_gt (IsS106.lt (show IsS106 w0 _ g s0_0 t116 t117 from by repeat (first | (with_reducible first | exact HI0.out | apply IsS106.alloc | apply IsS106.drewN | apply IsS106.drew | apply IsS106.set_1 | apply IsS106.set_2 | refine IsS106.far ?_ NB0_111.out _) | exact HI0.out))) : gb119 ≠ g)); replace HI0 := asd (IsS106.below (by repeat (first | (with_reducible first | exact HI0.out | apply IsS106.alloc | apply IsS106.drewN | apply IsS106.drew | apply IsS106.set_1 | apply IsS106.set_2 | refine IsS106.far ?_ NB0_111.out _) | exact HI0.out)) hb); clear hb hg; have hnb12 := NB119_111.out; have hnc12 := NB111_119.out; have hnb13 := NB119_0.out; have hnc13 := NB0_119.out; obtain ⟨hcz14_0, hcz14_1, hcz14_2, hcz14_3, hfz14_0, hfz14_1, hfz14_2, hfz14_3⟩ := bz4 BK119) | ((with_reducible refine gate_callee (f := 45) rfl ?_); refine gl 20 Tryz.func45 #[.pointer (some ⟨g, 0, none⟩), .int .i64 3] ?_; (with_reducible refine (spec_l01Next.calls _ _ _ _ _ _ _ _ w0 _ ?side1 ?side2 A5.out).mono ?_); (case side1 => repeat (first | (with_reducible first | exact HI0.out | apply IsS106.alloc | apply IsS106.drewN | apply IsS106.drew | apply IsS106.set_1 | apply IsS106.set_2 | refine IsS106.far ?_ NB0_111.out _ | refine IsS106.far ?_ NB0_119.out _) | exact HI0.out)); (case side2 => repeat (first | (with_reducible first | exact HB.out | apply below_alloc | apply pw_below_drewN | apply below_drew1 | refine below_set ?_ (IsS106.ge HI0.out) | refine below_set ?_ GE111.out | refine below_set ?_ GE119.out) | exact HB.out)); rintro e w15 ⟨rfl, hi, hb, hk⟩; refine ⟨_, rfl, ?_⟩; replace BK111 := asd (KeepBut.blk hk (g' := gb111) (o := .cells #[.int .i64 0, .int .i64 0, .int .i64 0, .int .i64 0] 25 (0, 0)) (bq1 BK111 NB111_119) NB111_0.out (by simp)); replace HO114 := asd (Kd.R_mono (Kd.R_keep (IsS106.apart (show IsS106 w0 _ g s0_0 t116 t117 from by repeat (first | (with_reducible first | exact HI0.out | apply IsS106.alloc | apply IsS106.drewN | apply IsS106.drew | apply IsS106.set_1 | apply IsS106.set_2 | refine IsS106.far ?_ NB0_111.out _ | refine IsS106.far ?_ NB0_119.out _) | exact HI0.out)) (by (with_reducible repeat (first | apply Kd.R_alloc | apply Kd.R_drewN | apply Kd.R_drew)); exact (Kd.R_mono (rw4 (Kd.R_mono HO114.out (fun k_ hk => (⟨hk, hk.2⟩ : _ ∧ k_ ≠ gb119)))) (fun _ h_ => h_.1))) (by decide)) hk (fun _ h => h.2)) (fun _ h => h.1)); replace BK119 := asd (KeepBut.blk hk (g' := gb119) (o := .cells #[.int .i64 ((rd_T25 y112 t115).f0), .int .i64 ((rd_T25 y112 t115).f1), .int .i64 ((rd_T25 y112 t115).f2), .int .i64 ((rd_T25 y112 t115).f3)] 25 (0, 0)) (bq0 BK119) NB119_0.out (by simp)); replace HK := asd (KeepBut.trans (by repeat (first | (with_reducible first | exact HK.out | apply KeepBut.set_ | apply keep_drewN | apply keep_drew | apply keep_alloc | refine keep_far ?_ GW111.out _ | refine keep_far ?_ GW119.out _) | exact HK.out)) hk (.inl rfl)); replace HB := asd (hb); replace HI0 := asd (hi); (try clear hb); (try clear hb2); (try clear hk); (try clear hi)))
   go_loopg [4] k (fun kq v4 w' => ∃ (x4_1 : Int) (x1001_1 : Int) (x1002_1 : Int) (x120000_1 : Int) (x120001_1 : Int) (x120002_1 : Int) (x120003_1 : Int), v4 = .int .i64 x4_1 ∧ Aside0 (spec_l02DrawFinite.l0 kq x4_1 s0_0 x1001_1 x1002_1 x120000_1 x120001_1 x120002_1 x120003_1 = some (r1, r2, r3, r4, r5, r6)) ∧ Aside0 (kq ≤ k) ∧ Aside0 (w'.heap[gb111]? = some (.cells #[.int .i64 0, .int .i64 0, .int .i64 0, .int .i64 0] 25 (0, 0))) ∧ Aside0 (w'.heap[gb119]? = some (.cells #[.int .i64 x120000_1, .int .i64 x120001_1, .int .i64 x120002_1, .int .i64 x120003_1] 25 (0, 0))) ∧ Aside0 (IsS106 w0 w' g s0_0 x1001_1 x1002_1) ∧ Aside0 (KeepBut w w' g none) ∧ Aside0 (Below w0.heap.size w0 w'))
   case atStart => exact ⟨(t120), (t121), (t122), ((rd_T25 y112 t115).f0), ((rd_T25 y112 t115).f1), ((rd_T25 y112 t115).f2), ((rd_T25 y112 t115).f3), (by first | rfl | (simp; done) | (simp [*]; done)), H', ⟨Nat.le_refl _⟩, ⟨bkp BK111⟩, ⟨bkp BK119⟩, ⟨by repeat (first | (with_reducible first | exact HI0.out | apply IsS106.alloc | apply IsS106.drewN | apply IsS106.drew | apply IsS106.set_1 | apply IsS106.set_2 | refine IsS106.far ?_ NB0_111.out _ | refine IsS106.far ?_ NB0_119.out _) | exact HI0.out)⟩, ⟨by repeat (first | (with_reducible first | exact HK.out | apply KeepBut.set_ | apply keep_drewN | apply keep_drew | apply keep_alloc | refine keep_far ?_ GW111.out _ | refine keep_far ?_ GW119.out _) | exact HK.out)⟩, ⟨by repeat (first | (with_reducible first | exact HB.out | apply below_alloc | apply pw_below_drewN | apply below_drew1 | refine below_set ?_ (IsS106.ge HI0.out) | refine below_set ?_ GE111.out | refine below_set ?_ GE119.out) | exact HB.out)⟩⟩
   case round =>
    clear H'
    try clear c1
    try clear p1
    try clear q1
    try clear hx1
    try clear p2
    try clear c3
    try clear c3b0
    try clear c4
    try clear c4b0
    try clear c8
    try clear p11
    try clear q11
    try clear hx11
    try clear c12
    try clear c13
    try clear hcz14_0
    try clear hcz14_1
    try clear hcz14_2
    try clear hcz14_3
    try clear hfz14_0
    try clear hfz14_1
    try clear hfz14_2
    try clear hfz14_3
    try clear hx118_0
    try clear hx118_1
    try clear hx118_2
    try clear hx118_3
    try clear p118
    try clear q118
    obtain ⟨x4_1, x1001_1, x1002_1, x120000_1, x120001_1, x120002_1, x120003_1, rfl, HA, HK1, BK111, BK119, HI0, HK, HB⟩ := hrel
    cases gk with
    | zero => exact absurd HA.out (by simp [spec_l02DrawFinite.l0])
    | succ k1 =>
     have H := HA.out
     clear HA
     simp only [spec_l02DrawFinite.l0] at H
     by_cases c16 : x4_1 > 0
     rw [if_pos c16] at H
     have c16b0 : decide (0 < x4_1) = true := decide_eq_true c16
     clear c16
     obtain ⟨⟨t123, t124, t125⟩, A17, H⟩ := ob H
     try dsimp only at H
     obtain ⟨⟨t127, t128, t129⟩, A18, H⟩ := ob H
     try dsimp only at H
     by_cases c19 : t127 = 0
     rw [if_pos c19] at H
     have c19b0 : (t127 == 0) = true := beq_iff_eq.mpr c19
     have c19b1 : (t127 != 0) = false := bne_eq_false_iff_eq.mpr c19
     clear c19
     obtain ⟨⟨t130, t131, t132⟩, A20, H⟩ := ob H
     try dsimp only at H
     obtain ⟨⟨t133, t134, t135, t136⟩, A21, H⟩ := ob H
     try dsimp only at H
     obtain ⟨⟨t137, t138, t139, t140⟩, A22, H⟩ := ob H
     try dsimp only at H
     obtain ⟨⟨t141, t142, t143, t144⟩, A23, H⟩ := ob H
     try dsimp only at H
     have H' := Aside0.mk H
     clear H
     rotate_left
     rw [if_neg c19] at H
     have c19b0 : (t127 == 0) = false := beq_eq_false_iff_ne.mpr c19
     have c19b1 : (t127 != 0) = true := bne_iff_ne.mpr c19
     obtain ⟨⟨t133, t134, t135, t136⟩, A21, H⟩ := ob H
     try dsimp only at H
     obtain ⟨⟨t137, t138, t139, t140⟩, A22, H⟩ := ob H
     try dsimp only at H
     obtain ⟨⟨t153, t154, t155, t156⟩, A23, H⟩ := ob H
     try dsimp only at H
     have H' := Aside0.mk H
     clear H
     rotate_left
     rw [if_neg c16] at H
     have c16b0 : decide (0 < x4_1) = false := decide_eq_false c16
     clear c16
     rotate_left
     rotate_left 2
     ·simp only [Option.some.injEq, Prod.mk.injEq] at H
      obtain ⟨rfl, rfl, rfl, rfl, rfl, rfl⟩ := H
      have hnb60 := NB119_111.out
      have hnc60 := NB111_119.out
      have hnb61 := NB119_0.out
      have hnc61 := NB0_119.out
      obtain ⟨hcz62_0, hcz62_1, hcz62_2, hcz62_3, hfz62_0, hfz62_1, hfz62_2, hfz62_3⟩ := bz4 BK119
      have hnb63 := NB111_0.out
      have hnc63 := NB0_111.out
      obtain ⟨hcz64_0, hcz64_1, hcz64_2, hcz64_3, hfz64_0, hfz64_1, hfz64_2, hfz64_3⟩ := bz4 BK111
      go_wp2
      refine bodyPost_ret (results_cell_row rfl _ _ gb111 25 #[.int .i64 x120000_1, .int .i64 x120001_1, .int .i64 x120002_1, .int .i64 x120003_1] (0, 0) _ rfl (bq0 BK111) Tryz.underlying25 rfl (by kernel_rfl)) rfl ?_
      exact ⟨by first | rfl | (simp [errW_none, errW_some] <;> rfl) | (simp [*, errW_none, errW_some] <;> rfl), by repeat (first | (with_reducible first | exact HI0.out | apply IsS106.alloc | apply IsS106.drewN | apply IsS106.drew | apply IsS106.set_1 | apply IsS106.set_2 | refine IsS106.far ?_ NB0_111.out _ | refine IsS106.far ?_ NB0_119.out _) | exact HI0.out), by repeat (first | (with_reducible first | exact HB.out | apply below_alloc | apply pw_below_drewN | apply below_drew1 | refine below_set ?_ (IsS106.ge HI0.out) | refine below_set ?_ GE111.out | refine below_set ?_ GE119.out) | exact HB.out), by repeat (first | (with_reducible first | exact HK.out | apply KeepBut.set_ | apply keep_drewN | apply keep_drew | apply keep_alloc | refine keep_far ?_ GW111.out _ | refine keep_far ?_ GW119.out _) | exact HK.out)⟩
     all_goals
      try go_wp2_with (first | ((with_reducible refine gate_callee (f := 45) rfl ?_); refine gl 26 Tryz.func45 #[.pointer (some ⟨g, 0, none⟩), .int .i64 5] ?_; (with_reducible refine (spec_l01Next.calls _ _ _ _ _ _ _ _ w0 _ ?side1 ?side2 A17.out).mono ?_); (case side1 => repeat (first | (with_reducible first | exact HI0.out | apply IsS106.alloc | apply IsS106.drewN | apply IsS106.drew | apply IsS106.set_1 | apply IsS106.set_2 | refine IsS106.far ?_ NB0_111.out _ | refine IsS106.far ?_ NB0_119.out _) | exact HI0.out)); (case side2 => repeat (first | (with_reducible first | exact HB.out | apply below_alloc | apply pw_below_drewN | apply below_drew1 | refine below_set ?_ (IsS106.ge HI0.out) | refine below_set ?_ GE111.out | refine below_set ?_ GE119.out) | exact HB.out)); rintro e w24 ⟨rfl, hi, hb, hk⟩; refine ⟨_, rfl, ?_⟩; replace BK111 := asd (KeepBut.blk hk (g' := gb111) (o := .cells #[.int .i64 0, .int .i64 0, .int .i64 0, .int .i64 0] 25 (0, 0)) (bkp BK111) NB111_0.out (by simp)); replace BK119 := asd (KeepBut.blk hk (g' := gb119) (o := .cells #[.int .i64 x120000_1, .int .i64 x120001_1, .int .i64 x120002_1, .int .i64 x120003_1] 25 (0, 0)) (bkp BK119) NB119_0.out (by simp)); replace HK := asd (KeepBut.trans (by repeat (first | (with_reducible first | exact HK.out | apply KeepBut.set_ | apply keep_drewN | apply keep_drew | apply keep_alloc | refine keep_far ?_ GW111.out _ | refine keep_far ?_ GW119.out _) | exact HK.out)) hk (.inl rfl)); replace HB := asd (hb); replace HI0 := asd (hi); (try clear hb); (try clear hb2); (try clear hk); (try clear hi)) | ((with_reducible refine gd 5 rfl ?_); refine bx #[.int .i64 0, .int .i64 0, .int .i64 0, .int .i64 0] 25 ?_; intro gb126 hg w25 BK126 hb; replace HB := asd (below_step (by repeat (first | (with_reducible first | exact HB.out | apply below_alloc | apply pw_below_drewN | apply below_drew1 | refine below_set ?_ (IsS106.ge HI0.out) | refine below_set ?_ GE111.out | refine below_set ?_ GE119.out) | exact HB.out)) hb); have GW126 := asd ((by rw [hg]; exact (keep_size (w := w) (g := g) (row := none) (by repeat (first | (with_reducible first | exact HK.out | apply KeepBut.set_ | apply keep_drewN | apply keep_drew | apply keep_alloc | refine keep_far ?_ GW111.out _ | refine keep_far ?_ GW119.out _) | exact HK.out))) : w.heap.size ≤ gb126)); have GE126 := asd ((Nat.le_trans HW0.out (by rw [hg]; exact (keep_size (w := w) (g := g) (row := none) (by repeat (first | (with_reducible first | exact HK.out | apply KeepBut.set_ | apply keep_drewN | apply keep_drew | apply keep_alloc | refine keep_far ?_ GW111.out _ | refine keep_far ?_ GW119.out _) | exact HK.out))) : w.heap.size ≤ gb126) : w0.heap.size ≤ gb126)); replace HK := asd (KeepBut.trans (by repeat (first | (with_reducible first | exact HK.out | apply KeepBut.set_ | apply keep_drewN | apply keep_drew | apply keep_alloc | refine keep_far ?_ GW111.out _ | refine keep_far ?_ GW119.out _) | exact HK.out)) (KeepBut.of_below hb g none) (.inl rfl)); have NB111_126 := nlt hg BK111; have NB126_111 := nsy (nlt hg BK111); replace BK111 := bB BK111 hb; have NB119_126 := nlt hg BK119; have NB126_119 := nsy (nlt hg BK119); replace BK119 := bB BK119 hb; have NB0_126 := asd ((by rw [hg]; exact Nat.ne_of_lt (IsS106.lt (show IsS106 w0 _ g s0_0 t124 t125 from by repeat (first | (with_reducible first | exact HI0.out | apply IsS106.alloc | apply IsS106.drewN | apply IsS106.drew | apply IsS106.set_1 | apply IsS106.set_2 | refine IsS106.far ?_ NB0_111.out _ | refine IsS106.far ?_ NB0_119.out _) | exact HI0.out))) : g ≠ gb126)); have NB126_0 := asd ((by rw [hg]; exact Nat.ne_of_gt (IsS106.lt (show IsS106 w0 _ g s0_0 t124 t125 from by repeat (first | (with_reducible first | exact HI0.out | apply IsS106.alloc | apply IsS106.drewN | apply IsS106.drew | apply IsS106.set_1 | apply IsS106.set_2 | refine IsS106.far ?_ NB0_111.out _ | refine IsS106.far ?_ NB0_119.out _) | exact HI0.out))) : gb126 ≠ g)); replace HI0 := asd (IsS106.below (by repeat (first | (with_reducible first | exact HI0.out | apply IsS106.alloc | apply IsS106.drewN | apply IsS106.drew | apply IsS106.set_1 | apply IsS106.set_2 | refine IsS106.far ?_ NB0_111.out _ | refine IsS106.far ?_ NB0_119.out _) | exact HI0.out)) hb); clear hb hg; have hnb26 := NB126_111.out; have hnc26 := NB111_126.out; have hnb27 := NB126_119.out; have hnc27 := NB119_126.out; have hnb28 := NB126_0.out; have hnc28 := NB0_126.out; obtain ⟨hcz29_0, hcz29_1, hcz29_2, hcz29_3, hfz29_0, hfz29_1, hfz29_2, hfz29_3⟩ := bz4 BK126) | ((with_reducible refine gate_callee (f := 45) rfl ?_); refine gl 30 Tryz.func45 #[.pointer (some ⟨g, 0, none⟩), .int .i64 2] ?_; (with_reducible refine (spec_l01Next.calls _ _ _ _ _ _ _ _ w0 _ ?side1 ?side2 A18.out).mono ?_); (case side1 => repeat (first | (with_reducible first | exact HI0.out | apply IsS106.alloc | apply IsS106.drewN | apply IsS106.drew | apply IsS106.set_1 | apply IsS106.set_2 | refine IsS106.far ?_ NB0_111.out _ | refine IsS106.far ?_ NB0_119.out _ | refine IsS106.far ?_ NB0_126.out _) | exact HI0.out)); (case side2 => repeat (first | (with_reducible first | exact HB.out | apply below_alloc | apply pw_below_drewN | apply below_drew1 | refine below_set ?_ (IsS106.ge HI0.out) | refine below_set ?_ GE111.out | refine below_set ?_ GE119.out | refine below_set ?_ GE126.out) | exact HB.out)); rintro e w30 ⟨rfl, hi, hb, hk⟩; refine ⟨_, rfl, ?_⟩; replace BK111 := asd (KeepBut.blk hk (g' := gb111) (o := .cells #[.int .i64 0, .int .i64 0, .int .i64 0, .int .i64 0] 25 (0, 0)) (bq1 BK111 NB111_126) NB111_0.out (by simp)); replace BK119 := asd (KeepBut.blk hk (g' := gb119) (o := .cells #[.int .i64 x120000_1, .int .i64 x120001_1, .int .i64 x120002_1, .int .i64 x120003_1] 25 (0, 0)) (bq1 BK119 NB119_126) NB119_0.out (by simp)); replace BK126 := asd (KeepBut.blk hk (g' := gb126) (o := .cells #[.int .i64 1, .int .i64 (wrap64 (t123 - 2)), .int .i64 0, .int .i64 1] 25 (0, 0)) (bq0 BK126) NB126_0.out (by simp)); replace HK := asd (KeepBut.trans (by repeat (first | (with_reducible first | exact HK.out | apply KeepBut.set_ | apply keep_drewN | apply keep_drew | apply keep_alloc | refine keep_far ?_ GW111.out _ | refine keep_far ?_ GW119.out _ | refine keep_far ?_ GW126.out _) | exact HK.out)) hk (.inl rfl)); replace HB := asd (hb); replace HI0 := asd (hi); (try clear hb); (try clear hb2); (try clear hk); (try clear hi)) | ((with_reducible refine gate_callee (f := 45) rfl ?_); refine gl 33 Tryz.func45 #[.pointer (some ⟨g, 0, none⟩), .int .i64 5] ?_; (with_reducible refine (spec_l01Next.calls _ _ _ _ _ _ _ _ w0 _ ?side1 ?side2 A20.out).mono ?_); (case side1 => repeat (first | (with_reducible first | exact HI0.out | apply IsS106.alloc | apply IsS106.drewN | apply IsS106.drew | apply IsS106.set_1 | apply IsS106.set_2 | refine IsS106.far ?_ NB0_111.out _ | refine IsS106.far ?_ NB0_119.out _ | refine IsS106.far ?_ NB0_126.out _) | exact HI0.out)); (case side2 => repeat (first | (with_reducible first | exact HB.out | apply below_alloc | apply pw_below_drewN | apply below_drew1 | refine below_set ?_ (IsS106.ge HI0.out) | refine below_set ?_ GE111.out | refine below_set ?_ GE119.out | refine below_set ?_ GE126.out) | exact HB.out)); rintro e w31 ⟨rfl, hi, hb, hk⟩; refine ⟨_, rfl, ?_⟩; replace BK111 := asd (KeepBut.blk hk (g' := gb111) (o := .cells #[.int .i64 0, .int .i64 0, .int .i64 0, .int .i64 0] 25 (0, 0)) (bkp BK111) NB111_0.out (by simp)); replace BK119 := asd (KeepBut.blk hk (g' := gb119) (o := .cells #[.int .i64 x120000_1, .int .i64 x120001_1, .int .i64 x120002_1, .int .i64 x120003_1] 25 (0, 0)) (bkp BK119) NB119_0.out (by simp)); replace BK126 := asd (KeepBut.blk hk (g' := gb126) (o := .cells #[.int .i64 1, .int .i64 (wrap64 (t123 - 2)), .int .i64 0, .int .i64 1] 25 (0, 0)) (bkp BK126) NB126_0.out (by simp)); replace HK := asd (KeepBut.trans (by repeat (first | (with_reducible first | exact HK.out | apply KeepBut.set_ | apply keep_drewN | apply keep_drew | apply keep_alloc | refine keep_far ?_ GW111.out _ | refine keep_far ?_ GW119.out _ | refine keep_far ?_ GW126.out _) | exact HK.out)) hk (.inl rfl)); replace HB := asd (hb); replace HI0 := asd (hi); (try clear hb); (try clear hb2); (try clear hk); (try clear hi); obtain ⟨hcz32_0, hcz32_1, hcz32_2, hcz32_3, hfz32_0, hfz32_1, hfz32_2, hfz32_3⟩ := bz4 BK126))
     obtain ⟨w33, h_w33⟩ : ∃ w_, ((((w31.setCell ⟨gb126, 0, none⟩ (.int .i64 1)).setCell ⟨gb126, 1, none⟩ (.int .i64 0)).setCell ⟨gb126, 2, none⟩ (.int .i64 (wrap64 (t130 - 2)))).setCell ⟨gb126, 3, none⟩ (.int .i64 1)) = w_ := ⟨_, rfl⟩
     replace BK111 : Aside0 (w33.heap[gb111]? = some (.cells #[.int .i64 0, .int .i64 0, .int .i64 0, .int .i64 0] 25 (0, 0))) := by rw [← h_w33]; exact ⟨bq1 BK111 NB111_126⟩
     replace BK119 : Aside0 (w33.heap[gb119]? = some (.cells #[.int .i64 x120000_1, .int .i64 x120001_1, .int .i64 x120002_1, .int .i64 x120003_1] 25 (0, 0))) := by rw [← h_w33]; exact ⟨bq1 BK119 NB119_126⟩
     replace BK126 : Aside0 (w33.heap[gb126]? = some (.cells #[.int .i64 1, .int .i64 0, .int .i64 (wrap64 (t130 - 2)), .int .i64 1] 25 (0, 0))) := by rw [← h_w33]; exact ⟨bq0 BK126⟩
     replace HK : Aside0 (KeepBut w w33 g none) := by rw [← h_w33]; exact ⟨by repeat (first | (with_reducible first | exact HK.out | apply KeepBut.set_ | apply keep_drewN | apply keep_drew | apply keep_alloc | refine keep_far ?_ GW111.out _ | refine keep_far ?_ GW119.out _ | refine keep_far ?_ GW126.out _) | exact HK.out)⟩
     replace HB : Aside0 (Below w0.heap.size w0 w33) := by rw [← h_w33]; exact ⟨by repeat (first | (with_reducible first | exact HB.out | apply below_alloc | apply pw_below_drewN | apply below_drew1 | refine below_set ?_ (IsS106.ge HI0.out) | refine below_set ?_ GE111.out | refine below_set ?_ GE119.out | refine below_set ?_ GE126.out) | exact HB.out)⟩
     replace HI0 : Aside0 (IsS106 w0 w33 g s0_0 t131 t132) := by rw [← h_w33]; exact ⟨by repeat (first | (with_reducible first | exact HI0.out | apply IsS106.alloc | apply IsS106.drewN | apply IsS106.drew | apply IsS106.set_1 | apply IsS106.set_2 | refine IsS106.far ?_ NB0_111.out _ | refine IsS106.far ?_ NB0_119.out _ | refine IsS106.far ?_ NB0_126.out _) | exact HI0.out)⟩
     (try rw [h_w33]); clear h_w33
     rotate_left 2
     all_goals
      replace BK111 := asd (blk_drew BK111.out)
      replace BK119 := asd (blk_drew BK119.out)
      replace BK126 := asd (blk_drew BK126.out)
      replace HI0 := asd (IsS106.drew HI0.out)
      replace HK := asd (keep_drew HK.out)
      replace HB := asd (below_drew1 HB.out)
     refine start_ (n := 7) (S := fun w' => w'.cell? ⟨gb126, 0, none⟩ = some (.int .i64 1) ∧ w'.cell? ⟨gb126, 1, none⟩ = some (.int .i64 0) ∧ w'.cell? ⟨gb126, 2, none⟩ = some (.int .i64 (wrap64 (t130 - 2))) ∧ w'.cell? ⟨gb126, 3, none⟩ = some (.int .i64 1) ∧ w'.cell? ⟨gb119, 0, none⟩ = some (.int .i64 x120000_1) ∧ w'.cell? ⟨gb119, 1, none⟩ = some (.int .i64 x120001_1) ∧ w'.cell? ⟨gb119, 2, none⟩ = some (.int .i64 x120002_1) ∧ w'.cell? ⟨gb119, 3, none⟩ = some (.int .i64 x120003_1)) (ds := [6]) (bT 7 0) (by kernel_rfl) rfl rfl ⟨bcl BK126 0, bcl BK126 1, bcl BK126 2, bcl BK126 3, bcl BK119 0, bcl BK119 1, bcl BK119 2, bcl BK119 3⟩ (fun hHeld => ?_)
     generalize w33.drew = w34 at BK111 BK119 BK126 HI0 HK HB hHeld ⊢
     rotate_left
     refine start_ (n := 7) (S := fun w' => w'.cell? ⟨gb126, 0, none⟩ = some (.int .i64 1) ∧ w'.cell? ⟨gb126, 1, none⟩ = some (.int .i64 (wrap64 (t123 - 2))) ∧ w'.cell? ⟨gb126, 2, none⟩ = some (.int .i64 0) ∧ w'.cell? ⟨gb126, 3, none⟩ = some (.int .i64 1) ∧ w'.cell? ⟨gb119, 0, none⟩ = some (.int .i64 x120000_1) ∧ w'.cell? ⟨gb119, 1, none⟩ = some (.int .i64 x120001_1) ∧ w'.cell? ⟨gb119, 2, none⟩ = some (.int .i64 x120002_1) ∧ w'.cell? ⟨gb119, 3, none⟩ = some (.int .i64 x120003_1)) (ds := [6]) (bT 7 0) (by kernel_rfl) rfl rfl ⟨bcl BK126 0, bcl BK126 1, bcl BK126 2, bcl BK126 3, bcl BK119 0, bcl BK119 1, bcl BK119 2, bcl BK119 3⟩ (fun hHeld => ?_)
     generalize w30.drew = w52 at BK111 BK119 BK126 HI0 HK HB hHeld ⊢
     rotate_left
     all_goals
      refine take_ (i := 0) (N := some 36) (v := ?_) (a' := ?_) (bT 7 1) rfl rfl (by kernel_rfl) (fun _ _ _ h => h) (Or.inl ⟨by rfl, ?_⟩) hHeld ?_ ?_
      rotate_left
      ·rintro w' ⟨s0, s1, s2, s3, s4, s5, s6, s7⟩
       go_simp
       with_reducible rfl
      rotate_left
      ·simp only [Act.put, sA, sB, sC, i64_w, i32_w]
       rfl
      refine take_ (i := 1) (N := some 37) (v := ?_) (a' := ?_) (bT 7 2) rfl rfl (by kernel_rfl) (fun _ _ _ h => h) (Or.inl ⟨by rfl, ?_⟩) hHeld ?_ ?_
      rotate_left
      ·rintro w' ⟨s0, s1, s2, s3, s4, s5, s6, s7⟩
       go_simp
       with_reducible rfl
      rotate_left
      ·simp only [Act.put, sA, sB, sC, i64_w, i32_w]
       rfl
      refine take_ (i := 3) (N := some 39) (v := ?_) (a' := ?_) (bs 7 11) rfl rfl (by kernel_rfl) (fun _ _ _ h => h) (Or.inl ⟨by rfl, ?_⟩) hHeld ?_ ?_
      rotate_left
      ·rintro w' ⟨s0, s1, s2, s3, s4, s5, s6, s7⟩
       go_simp
       with_reducible rfl
      rotate_left
      ·simp only [Act.put, sA, sB, sC, i64_w, i32_w]
       rfl
      refine one_ (i := 2) (N := some 38) (bT 7 4) rfl rfl (by kernel_rfl) (by decide) (fun K hK => ?_)
     refine gs Tryz.func51 #[.agg #[.int .i64 1, .int .i64 0, .int .i64 (wrap64 (t130 - 2)), .int .i64 1], .agg #[.int .i64 x120000_1, .int .i64 x120001_1, .int .i64 x120002_1, .int .i64 x120003_1]] ?_
     rotate_left
     refine gs Tryz.func51 #[.agg #[.int .i64 1, .int .i64 (wrap64 (t123 - 2)), .int .i64 0, .int .i64 1], .agg #[.int .i64 x120000_1, .int .i64 x120001_1, .int .i64 x120002_1, .int .i64 x120003_1]] ?_
     rotate_left
     all_goals
      with_reducible refine (spec_l02Multiply.calls _ _ _ _ _ _ _ _ _ _ _ _ _ A21.out).mono ?_
      rintro e w35 ⟨rfl, hb⟩
      refine ⟨_, rfl, ?_⟩
      replace BK111 := bB BK111 hb
      replace BK119 := bB BK119 hb
      replace BK126 := bB BK126 hb
      replace HK := asd (KeepBut.trans (by repeat (first | (with_reducible first | exact HK.out | apply KeepBut.set_ | apply keep_drewN | apply keep_drew | apply keep_alloc | refine keep_far ?_ GW111.out _ | refine keep_far ?_ GW119.out _ | refine keep_far ?_ GW126.out _) | exact HK.out)) (KeepBut.of_below hb g none) (.inl rfl))
      replace HB := asd (below_step (by repeat (first | (with_reducible first | exact HB.out | apply below_alloc | apply pw_below_drewN | apply below_drew1 | refine below_set ?_ (IsS106.ge HI0.out) | refine below_set ?_ GE111.out | refine below_set ?_ GE119.out | refine below_set ?_ GE126.out) | exact HB.out)) hb)
      replace HI0 := asd (IsS106.below (by repeat (first | (with_reducible first | exact HI0.out | apply IsS106.alloc | apply IsS106.drewN | apply IsS106.drew | apply IsS106.set_1 | apply IsS106.set_2 | refine IsS106.far ?_ NB0_111.out _ | refine IsS106.far ?_ NB0_119.out _ | refine IsS106.far ?_ NB0_126.out _) | exact HI0.out)) hb)
      (try clear hb)
      (try clear hb2)
      (try clear hk)
      (try clear hi)
      refine hK.out _ _ (cb4 BK126 (eb4 BK119)).out (fun hHeld => ?_)
      clear hK K
      refine norm_ (a' := ?_) ?_ ?_
      rotate_left
      ·show Act.put _ (some 38) _ = _
       simp only [Act.put, sA, sB, sC, i64_w, i32_w]
       rfl
      refine one_ (i := 4) (N := some 40) (bT 7 5) rfl rfl (by kernel_rfl) (by decide) (fun K hK => ?_)
     refine gs Tryz.func123 #[.agg #[.int .i64 1, .int .i64 0, .int .i64 (wrap64 (t130 - 2)), .int .i64 1]] ?_
     rotate_left
     refine gs Tryz.func123 #[.agg #[.int .i64 1, .int .i64 (wrap64 (t123 - 2)), .int .i64 0, .int .i64 1]] ?_
     rotate_left
     all_goals
      with_reducible refine (spec_l02Inverse.calls _ _ _ _ _ _ _ _ _ A22.out).mono ?_
      rintro e w36 ⟨rfl, hb⟩
      refine ⟨_, rfl, ?_⟩
      replace BK111 := bB BK111 hb
      replace BK119 := bB BK119 hb
      replace BK126 := bB BK126 hb
      replace HK := asd (KeepBut.trans (by repeat (first | (with_reducible first | exact HK.out | apply KeepBut.set_ | apply keep_drewN | apply keep_drew | apply keep_alloc | refine keep_far ?_ GW111.out _ | refine keep_far ?_ GW119.out _ | refine keep_far ?_ GW126.out _) | exact HK.out)) (KeepBut.of_below hb g none) (.inl rfl))
      replace HB := asd (below_step (by repeat (first | (with_reducible first | exact HB.out | apply below_alloc | apply pw_below_drewN | apply below_drew1 | refine below_set ?_ (IsS106.ge HI0.out) | refine below_set ?_ GE111.out | refine below_set ?_ GE119.out | refine below_set ?_ GE126.out) | exact HB.out)) hb)
      replace HI0 := asd (IsS106.below (by repeat (first | (with_reducible first | exact HI0.out | apply IsS106.alloc | apply IsS106.drewN | apply IsS106.drew | apply IsS106.set_1 | apply IsS106.set_2 | refine IsS106.far ?_ NB0_111.out _ | refine IsS106.far ?_ NB0_119.out _ | refine IsS106.far ?_ NB0_126.out _) | exact HI0.out)) hb)
      (try clear hb)
      (try clear hb2)
      (try clear hk)
      (try clear hi)
      refine hK.out _ _ (cb4 BK126 (eb4 BK119)).out (fun hHeld => ?_)
      clear hK K
      refine norm_ (a' := ?_) ?_ ?_
      rotate_left
      ·show Act.put _ (some 40) _ = _
       simp only [Act.put, sA, sB, sC, i64_w, i32_w]
       rfl
      refine one_ (i := 5) (N := some 41) (bT 7 6) rfl rfl (by kernel_rfl) (by decide) (fun K hK => ?_)
      refine gs Tryz.func51 #[.agg #[.int .i64 t133, .int .i64 t134, .int .i64 t135, .int .i64 t136], .agg #[.int .i64 t137, .int .i64 t138, .int .i64 t139, .int .i64 t140]] ?_
      with_reducible refine (spec_l02Multiply.calls _ _ _ _ _ _ _ _ _ _ _ _ _ A23.out).mono ?_
      rintro e w37 ⟨rfl, hb⟩
      refine ⟨_, rfl, ?_⟩
      replace BK111 := bB BK111 hb
      replace BK119 := bB BK119 hb
      replace BK126 := bB BK126 hb
      replace HK := asd (KeepBut.trans (by repeat (first | (with_reducible first | exact HK.out | apply KeepBut.set_ | apply keep_drewN | apply keep_drew | apply keep_alloc | refine keep_far ?_ GW111.out _ | refine keep_far ?_ GW119.out _ | refine keep_far ?_ GW126.out _) | exact HK.out)) (KeepBut.of_below hb g none) (.inl rfl))
      replace HB := asd (below_step (by repeat (first | (with_reducible first | exact HB.out | apply below_alloc | apply pw_below_drewN | apply below_drew1 | refine below_set ?_ (IsS106.ge HI0.out) | refine below_set ?_ GE111.out | refine below_set ?_ GE119.out | refine below_set ?_ GE126.out) | exact HB.out)) hb)
      replace HI0 := asd (IsS106.below (by repeat (first | (with_reducible first | exact HI0.out | apply IsS106.alloc | apply IsS106.drewN | apply IsS106.drew | apply IsS106.set_1 | apply IsS106.set_2 | refine IsS106.far ?_ NB0_111.out _ | refine IsS106.far ?_ NB0_119.out _ | refine IsS106.far ?_ NB0_126.out _) | exact HI0.out)) hb)
      (try clear hb)
      (try clear hb2)
      (try clear hk)
      (try clear hi)
      refine hK.out _ _ (cb4 BK126 (eb4 BK119)).out (fun hHeld => ?_)
      clear hK K
      refine norm_ (a' := ?_) ?_ ?_
      rotate_left
      ·show Act.put _ (some 41) _ = _
       simp only [Act.put, sA, sB, sC, i64_w, i32_w]
       rfl
      refine last_ (i := 6) (N := none) (bT 7 7) rfl rfl (by kernel_rfl) (by decide) (fun K hK => ?_)
      have hs38 : w37.cell? ⟨gb119, 0, none⟩ = some (.int .i64 x120000_1) := bcl BK119 0
      have hfs38 := blk_frozen BK119.out 0
      have hns38_0 := NB111_119.out
      have hns38_2 := NB126_119.out
      have hms38_0 := NB119_111.out
      have hms38_2 := NB119_126.out
      have hs39 : w37.cell? ⟨gb119, 1, none⟩ = some (.int .i64 x120001_1) := bcl BK119 1
      have hfs39 := blk_frozen BK119.out 1
      have hns39_0 := NB111_119.out
      have hns39_2 := NB126_119.out
      have hms39_0 := NB119_111.out
      have hms39_2 := NB119_126.out
      have hs40 : w37.cell? ⟨gb119, 2, none⟩ = some (.int .i64 x120002_1) := bcl BK119 2
      have hfs40 := blk_frozen BK119.out 2
      have hns40_0 := NB111_119.out
      have hns40_2 := NB126_119.out
      have hms40_0 := NB119_111.out
      have hms40_2 := NB119_126.out
      have hs41 : w37.cell? ⟨gb119, 3, none⟩ = some (.int .i64 x120003_1) := bcl BK119 3
      have hfs41 := blk_frozen BK119.out 3
      have hns41_0 := NB111_119.out
      have hns41_2 := NB126_119.out
      have hms41_0 := NB119_111.out
      have hms41_2 := NB119_126.out
      refine skip_ (w1 := ?_) (by rfl) rfl ?_ ?_
      rotate_left
      ·go_simp
       rfl
      refine hK.out _ _ ?_
      clear hK K
      refine done_ (by kernel_rfl) ?_
      try go_wp2
      go_roundg k1
      case measure => have := HK1.out; omega
     ·case rel => exact ⟨(wrap64 (x4_1 - 1)), (t131), (t132), (t141), (t142), (t143), (t144), (by first | rfl | (simp; done) | (simp [*]; done)), H', ⟨by have := HK1.out; omega⟩, ⟨bq1 BK111 NB111_119⟩, ⟨bq0 BK119⟩, ⟨by repeat (first | (with_reducible first | exact HI0.out | apply IsS106.alloc | apply IsS106.drewN | apply IsS106.drew | apply IsS106.set_1 | apply IsS106.set_2 | refine IsS106.far ?_ NB0_111.out _ | refine IsS106.far ?_ NB0_119.out _ | refine IsS106.far ?_ NB0_126.out _) | exact HI0.out)⟩, ⟨by repeat (first | (with_reducible first | exact HK.out | apply KeepBut.set_ | apply keep_drewN | apply keep_drew | apply keep_alloc | refine keep_far ?_ GW111.out _ | refine keep_far ?_ GW119.out _ | refine keep_far ?_ GW126.out _) | exact HK.out)⟩, ⟨by repeat (first | (with_reducible first | exact HB.out | apply below_alloc | apply pw_below_drewN | apply below_drew1 | refine below_set ?_ (IsS106.ge HI0.out) | refine below_set ?_ GE111.out | refine below_set ?_ GE119.out | refine below_set ?_ GE126.out) | exact HB.out)⟩⟩
     ·case rel => exact ⟨(wrap64 (x4_1 - 1)), (t128), (t129), (t153), (t154), (t155), (t156), (by first | rfl | (simp; done) | (simp [*]; done)), H', ⟨by have := HK1.out; omega⟩, ⟨bq1 BK111 NB111_119⟩, ⟨bq0 BK119⟩, ⟨by repeat (first | (with_reducible first | exact HI0.out | apply IsS106.alloc | apply IsS106.drewN | apply IsS106.drew | apply IsS106.set_1 | apply IsS106.set_2 | refine IsS106.far ?_ NB0_111.out _ | refine IsS106.far ?_ NB0_119.out _ | refine IsS106.far ?_ NB0_126.out _) | exact HI0.out)⟩, ⟨by repeat (first | (with_reducible first | exact HK.out | apply KeepBut.set_ | apply keep_drewN | apply keep_drew | apply keep_alloc | refine keep_far ?_ GW111.out _ | refine keep_far ?_ GW119.out _ | refine keep_far ?_ GW126.out _) | exact HK.out)⟩, ⟨by repeat (first | (with_reducible first | exact HB.out | apply below_alloc | apply pw_below_drewN | apply below_drew1 | refine below_set ?_ (IsS106.ge HI0.out) | refine below_set ?_ GE111.out | refine below_set ?_ GE119.out | refine below_set ?_ GE126.out) | exact HB.out)⟩⟩
  ·rw [if_neg c4] at H
   exact absurd H (by simp)
 ·rw [if_neg c3] at H
  exact absurd H (by simp)
/-! ### spec_l01Pick: function 95 -/
def spec_l01Pick.f (s0_0 : List Int) (s0_1 : Int) (s0_2 : Int) (l1 : List Int) : Option (Int × Int × Int) := (spec_l01Next.f s0_0 s0_1 s0_2 (l1.length : Int)).bind fun bt157 => (if 0 ≤ bt157.1 then (if bt157.1 < (l1.length : Int) then (some (rd l1 bt157.1, bt157.2.1, bt157.2.2)) else (none)) else (none))
set_option maxHeartbeats 8000000 in
set_option maxRecDepth 100000 in
theorem spec_l01Pick.calls (g : Nat) (s0_0 : List Int) (s0_1 : Int) (s0_2 : Int) (A1 : Option Addr) (c1 : Nat) (l1 : List Int) (r1 : Int) (r2 : Int) (r3 : Int) (w0 w : World) (hI : IsS106 w0 w g s0_0 s0_1 s0_2) (hB : Below w0.heap.size w0 w) (hr1 : Kd.C (Kd.int .i64) w A1 l1.length l1) (hc1 : l1.length ≤ c1) (hf1 : ∀ ad, A1 = some ad → 0 < l1.length → ad.block ≠ g) (h : spec_l01Pick.f s0_0 s0_1 s0_2 l1 = some (r1, r2, r3)) :
  Calls Tryz.prog 95 #[.pointer (some ⟨g, 0, none⟩), .slice A1 l1.length c1] w fun e w' => e = .returned (.int .i64 r1) ∧ IsS106 w0 w' g s0_0 r2 r3 ∧ Below w0.heap.size w0 w' ∧ KeepBut w w' g none := by
 have HR1 := Aside0.mk hr1
 have HC1 := Aside0.mk hc1
 clear hr1 hc1
 have HI0 := Aside0.mk hI
 have HK := asd (KeepBut.refl w g none)
 have HL := Aside0.mk hB.size
 clear hI
 have HW0 := Aside0.mk hB.size
 have HB := Aside0.mk hB
 clear hB
 have H : ((spec_l01Next.f s0_0 s0_1 s0_2 (l1.length : Int)).bind fun bt157 => (if 0 ≤ bt157.1 then (if bt157.1 < (l1.length : Int) then (some (rd l1 bt157.1, bt157.2.1, bt157.2.2)) else (none)) else (none))) = some (r1, r2, r3) := h
 clear h
 obtain ⟨⟨t157, t158, t159⟩, A3, H⟩ := ob H
 try dsimp only at H
 by_cases c4 : 0 ≤ t157
 ·rw [if_pos c4] at H
  have c4b0 := decide_eq_true c4
  clear c4
  by_cases c5 : t157 < (l1.length : Int)
  ·rw [if_pos c5] at H
   have c5b0 := decide_eq_true c5
   clear c5
   simp only [Option.some.injEq, Prod.mk.injEq] at H
   obtain ⟨rfl, rfl, rfl⟩ := H
   go_enter Tryz.func95, Tryz.ntmps95
   go_wp2_with (first | ((with_reducible refine gate_callee (f := 45) rfl ?_); refine gl 9 Tryz.func45 #[.pointer (some ⟨g, 0, none⟩), .int .i64 (l1.length : Int)] ?_; (with_reducible refine (spec_l01Next.calls _ _ _ _ _ _ _ _ w0 _ ?side1 ?side2 A3.out).mono ?_); (case side1 => repeat (first | (with_reducible first | exact HI0.out | apply IsS106.alloc | apply IsS106.drewN | apply IsS106.drew | apply IsS106.set_1 | apply IsS106.set_2) | exact HI0.out)); (case side2 => repeat (first | (with_reducible first | exact HB.out | apply below_alloc | apply pw_below_drewN | apply below_drew1 | refine below_set ?_ (IsS106.ge HI0.out)) | exact HB.out)); rintro e w6 ⟨rfl, hi, hb, hk⟩; refine ⟨_, rfl, ?_⟩; replace HK := asd (KeepBut.trans (by repeat (first | (with_reducible first | exact HK.out | apply KeepBut.set_ | apply keep_drewN | apply keep_drew | apply keep_alloc) | exact HK.out)) hk (.inl rfl)); replace HB := asd (hb); replace HI0 := asd (hi); (try clear hb); (try clear hb2); (try clear hk); (try clear hi); have p160 : 0 ≤ (t157 : Int) := od; have q160 : t157 < (l1.length : Int) := od; obtain ⟨ad160, e160, hx160_0⟩ := Kd.at_int HR1.out t157 p160 q160; cases e160; replace hx160_0 := keep_cell HK.out hx160_0 (by first | (rw [add_block]; exact hf1 _ rfl (by omega)) | exact hf1 _ rfl (by omega) | exact hf1 ad160 rfl (by omega)); replace p160 := eq_true p160; replace q160 := eq_true q160))
   go_ret
   exact ⟨by first | rfl | (simp [errW_none, errW_some] <;> rfl) | (simp [*, errW_none, errW_some] <;> rfl), by repeat (first | (with_reducible first | exact HI0.out | apply IsS106.alloc | apply IsS106.drewN | apply IsS106.drew | apply IsS106.set_1 | apply IsS106.set_2) | exact HI0.out), by repeat (first | (with_reducible first | exact HB.out | apply below_alloc | apply pw_below_drewN | apply below_drew1 | refine below_set ?_ (IsS106.ge HI0.out)) | exact HB.out), by repeat (first | (with_reducible first | exact HK.out | apply KeepBut.set_ | apply keep_drewN | apply keep_drew | apply keep_alloc) | exact HK.out)⟩
  ·rw [if_neg c5] at H
   exact absurd H (by simp)
 ·rw [if_neg c4] at H
  exact absurd H (by simp)

end Go.Proofs.YtnblfcibgokccaaGreatDoor.PC
