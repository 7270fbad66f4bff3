/- Walks written by program: each Go function that the law reaches comes to the plain function beside it. -/
import Derived.Test.YtnblfcibgokccaaGreatDoorPAx0
namespace Go.Proofs.YtnblfcibgokccaaGreatDoor.PA
open Go.RowKit Go.Proofs.YtnblfcibgokccaaGreatDoorW.PrintWords Go.Proofs.YtnblfcibgokccaaGreatDoorW.PrintLast Go.Proofs.YtnblfcibgokccaaGreatDoorW.PrintMore
attribute [local go_sem] max2_int min2_int max_two min_two max_three min_three max_four min_four   -- for this text's walks alone
set_option linter.unusedVariables false
set_option linter.unusedSimpArgs false

/-! ### laws_big: function 6 -/
def laws_big.f (l0 : List Int) : Option (Bool) := some (decide ((l0.length : Int) > 4096))
set_option maxHeartbeats 8000000 in
set_option maxRecDepth 100000 in
theorem laws_big.calls (A0 : Option Addr) (c0 : Nat) (l0 : List Int) (r : Bool) (w : World) (hr0 : Kd.C (Kd.int .u8) w A0 l0.length l0) (hc0 : l0.length ≤ c0) (h : laws_big.f l0 = some r) :
  Calls Tryz.prog 6 #[.slice A0 l0.length c0] w fun e w' => e = .returned (.bool r) ∧ Drawn0 w w' := by
 have HR0 := Aside0.mk hr0
 have HC0 := Aside0.mk hc0
 clear hr0 hc0
 have H : (some (decide ((l0.length : Int) > 4096))) = some r := h
 clear h
 obtain rfl := Option.some.inj H
 go_enter Tryz.func6, Tryz.ntmps6
 go_wp2
 go_ret
 exact ⟨by first | rfl | (simp; done) | (simp [*]; done), by repeat (first | exact Drawn0.refl _ | apply Drawn0.step)⟩

/-- A state of type 106 at block g of W; what its slices lead to came in by w0. -/
def IsS106 (w0 W : World) (g : Nat) (f0 : List Int) (f1 : Int) (f2 : Int) : Prop := ∃ A0 c0, W.heap[g]? = some (.cells #[.slice A0 f0.length c0, .int .i64 f1, .int .i64 f2] 106 (0, 0)) ∧ w0.heap.size ≤ g ∧ Kd.C (Kd.int .u8) w0 A0 f0.length f0
theorem IsS106.grown {w0 W : World} {g : Nat} {f0 : List Int} {f1 : Int} {f2 : Int} {W1 : World} {row : Option Nat} (h : IsS106 w0 W g f0 f1 f2) (hw : W.grownBy W1 row) (hne : some g ≠ row) : IsS106 w0 W1 g f0 f1 f2 := by
 obtain ⟨A0, c0, hb, hg, hr0⟩ := h
 exact ⟨A0, c0, blk_grown hb hw hne, hg, hr0⟩
theorem IsS106.own_neN {w0 W : World} {g : Nat} {f0 : List Int} {f1 : Int} {f2 : Int} {α : Type} {d : Kd α} {e : Nat} {base : Nat} {ok : Nat → Prop} {v : Value} {xs : List α} (h : IsS106 w0 W g f0 f1 f2) (ho : Kd.N d e W base ok v xs) (ht : e ≠ 106) : some g ≠ v.ownBlock := by
 obtain ⟨A0, c0, hb, hg, hr0⟩ := h
 exact Kd.N_ne ho hb ht
theorem IsS106.fresh {w0 W : World} {g : Nat} {f0 : List Int} {f1 : Int} {f2 : Int} (h : IsS106 w0 W g f0 f1 f2) : ∀ k, W.heap.size ≤ k → k ≠ g := by
 obtain ⟨A0, c0, hb, hg, hr0⟩ := h
 exact Kd.freshB hb
theorem IsS106.kept {w0 W : World} {g : Nat} {f0 : List Int} {f1 : Int} {f2 : Int} {W1 : World} {S : Nat → Prop} (h : IsS106 w0 W g f0 f1 f2) (hk : Kept W W1 S) (hne : ¬ S g) : IsS106 w0 W1 g f0 f1 f2 := by
 obtain ⟨A0, c0, hb, hg, hr0⟩ := h
 exact ⟨A0, c0, blk_kept hb hk hne, hg, hr0⟩
theorem IsS106.below {w0 W : World} {g : Nat} {f0 : List Int} {f1 : Int} {f2 : Int} {W1 : World} (h : IsS106 w0 W g f0 f1 f2) (hw : Below W.heap.size W W1) : IsS106 w0 W1 g f0 f1 f2 := h.grown (grown_of_below hw none) (by simp)
theorem IsS106.alloc {w0 W : World} {g : Nat} {f0 : List Int} {f1 : Int} {f2 : Int} (h : IsS106 w0 W g f0 f1 f2) (o : Obj) : IsS106 w0 (W.alloc o) g f0 f1 f2 := h.below (below_alloc (Below.refl _ _) o)
theorem IsS106.drewN {w0 W : World} {g : Nat} {f0 : List Int} {f1 : Int} {f2 : Int} (h : IsS106 w0 W g f0 f1 f2) (m : Nat) : IsS106 w0 (W.drewN m) g f0 f1 f2 := h
theorem IsS106.drew {w0 W : World} {g : Nat} {f0 : List Int} {f1 : Int} {f2 : Int} (h : IsS106 w0 W g f0 f1 f2) : IsS106 w0 W.drew g f0 f1 f2 := h
theorem IsS106.at_ {w0 W : World} {g : Nat} {f0 : List Int} {f1 : Int} {f2 : Int} {w' : World} {m : Nat} (hq : W.drewN m = w') (h : IsS106 w0 W g f0 f1 f2) : IsS106 w0 w' g f0 f1 f2 := by subst hq; exact IsS106.drewN h m
theorem IsS106.apart {w0 W : World} {g : Nat} {f0 : List Int} {f1 : Int} {f2 : Int} {α : Type} {d : Kd α} {e : Nat} {base : Nat} {ok : Nat → Prop} {v : Value} {xs : List α} (h : IsS106 w0 W g f0 f1 f2) (ho : d.R e W base ok v xs) (ht : ∀ q, q ∈ e :: d.E → q ≠ 106) : d.R e W base (fun k => ok k ∧ k ≠ g) v xs := by
 obtain ⟨A0, c0, hb, hg, hr0⟩ := h
 exact Kd.R_types ho hb ht
theorem IsS106.own_ne {w0 W : World} {g : Nat} {f0 : List Int} {f1 : Int} {f2 : Int} {α : Type} {d : Kd α} {e : Nat} {base : Nat} {ok : Nat → Prop} {v : Value} {xs : List α} (h : IsS106 w0 W g f0 f1 f2) (ho : d.R e W base ok v xs) (ht : e ≠ 106) : some g ≠ v.ownBlock := by
 obtain ⟨A0, c0, hb, hg, hr0⟩ := h
 exact Kd.R_ne ho hb ht
theorem IsS106.apartQ {w0 W : World} {g : Nat} {f0 : List Int} {f1 : Int} {f2 : Int} {α : Type} {d : Kd α} {e : Nat} {base : Nat} {ok : Nat → Prop} {v : Value} {xs : List α} (h : IsS106 w0 W g f0 f1 f2) (ho : d.Q e W base ok v xs) (ht : ∀ q, q ∈ e :: d.E → q ≠ 106) : d.Q e W base (fun k => ok k ∧ k ≠ g) v xs := by
 obtain ⟨A0, c0, hb, hg, hr0⟩ := h
 exact Kd.Q_types ho hb ht
theorem IsS106.own_neQ {w0 W : World} {g : Nat} {f0 : List Int} {f1 : Int} {f2 : Int} {α : Type} {d : Kd α} {e : Nat} {base : Nat} {ok : Nat → Prop} {v : Value} {xs : List α} (h : IsS106 w0 W g f0 f1 f2) (ho : d.Q e W base ok v xs) (ht : e ≠ 106) : some g ≠ v.ownBlock := by
 obtain ⟨A0, c0, hb, hg, hr0⟩ := h
 exact Kd.Q_ne ho hb ht
theorem IsS106.apartS {w0 W : World} {g : Nat} {f0 : List Int} {f1 : Int} {f2 : Int} {α : Type} {d : Kd α} {e : Nat} {base : Nat} {ok : Nat → Prop} {v : Value} {xs : List α} (h : IsS106 w0 W g f0 f1 f2) (ho : d.S e W base ok v xs) (ht : ∀ q, q ∈ e :: d.E → q ≠ 106) : d.S e W base (fun k => ok k ∧ k ≠ g) v xs := by
 obtain ⟨A0, c0, hb, hg, hr0⟩ := h
 exact Kd.S_types ho hb ht
theorem IsS106.own_neS {w0 W : World} {g : Nat} {f0 : List Int} {f1 : Int} {f2 : Int} {α : Type} {d : Kd α} {e : Nat} {base : Nat} {ok : Nat → Prop} {v : Value} {xs : List α} (h : IsS106 w0 W g f0 f1 f2) (ho : d.S e W base ok v xs) (ht : e ≠ 106) : some g ≠ v.ownBlock := by
 obtain ⟨A0, c0, hb, hg, hr0⟩ := h
 exact Kd.S_ne ho hb ht
theorem IsS106.lt {w0 W : World} {g : Nat} {f0 : List Int} {f1 : Int} {f2 : Int} (h : IsS106 w0 W g f0 f1 f2) : g < W.heap.size := by
 obtain ⟨A0, c0, hb, hg, hr0⟩ := h
 exact blk_lt hb
theorem IsS106.ge {w0 W : World} {g : Nat} {f0 : List Int} {f1 : Int} {f2 : Int} (h : IsS106 w0 W g f0 f1 f2) : w0.heap.size ≤ g := by
 obtain ⟨A0, c0, hb, hg, hr0⟩ := h
 exact hg
theorem IsS106.ne_blk {w0 W : World} {g : Nat} {f0 : List Int} {f1 : Int} {f2 : Int} {a : Nat} {cs : Array Value} {t : TypeId} {fr : Nat × Nat} (h : IsS106 w0 W g f0 f1 f2) (hb2 : W.heap[a]? = some (.cells cs t fr)) (ht : t ≠ 106) : g ≠ a := by
 obtain ⟨A0, c0, hb, hg, hr0⟩ := h
 rintro rfl
 rw [hb] at hb2
 injection hb2 with hb2
 injection hb2 with _ ht2
 exact ht ht2.symm
theorem IsS106.far {w0 W : World} {g : Nat} {f0 : List Int} {f1 : Int} {f2 : Int} {p : Addr} (h : IsS106 w0 W g f0 f1 f2) (hne : g ≠ p.block) (u : Value) : IsS106 w0 (W.setCell p u) g f0 f1 f2 := by
 obtain ⟨A0, c0, hb, hg, hr0⟩ := h
 exact ⟨A0, c0, blk_far hb hne u, hg, hr0⟩
theorem cellS106_0 {W : World} {g : Nat} {A0 : Option Addr} {c0 : Nat} {f0 : List Int} {f1 : Int} {f2 : Int} (h : W.heap[g]? = some (.cells #[.slice A0 f0.length c0, .int .i64 f1, .int .i64 f2] 106 (0, 0))) : W.cell? ⟨g, 0, none⟩ = some (.slice A0 f0.length c0) := (blk_cell h 0).trans rfl
theorem cellS106_1 {W : World} {g : Nat} {A0 : Option Addr} {c0 : Nat} {f0 : List Int} {f1 : Int} {f2 : Int} (h : W.heap[g]? = some (.cells #[.slice A0 f0.length c0, .int .i64 f1, .int .i64 f2] 106 (0, 0))) : W.cell? ⟨g, 1, none⟩ = some (.int .i64 f1) := (blk_cell h 1).trans rfl
theorem IsS106.set_1 {w0 W : World} {g : Nat} {f0 : List Int} {f1 : Int} {f2 : Int} (h : IsS106 w0 W g f0 f1 f2) (x : Int) : IsS106 w0 (W.setCell ⟨g, 1, none⟩ (.int .i64 x)) g f0 x f2 := by
 obtain ⟨A0, c0, hb, hg, hr0⟩ := h
 exact ⟨A0, c0, by simpa using blk_set hb 1 (.int .i64 x), hg, hr0⟩
theorem cellS106_2 {W : World} {g : Nat} {A0 : Option Addr} {c0 : Nat} {f0 : List Int} {f1 : Int} {f2 : Int} (h : W.heap[g]? = some (.cells #[.slice A0 f0.length c0, .int .i64 f1, .int .i64 f2] 106 (0, 0))) : W.cell? ⟨g, 2, none⟩ = some (.int .i64 f2) := (blk_cell h 2).trans rfl
theorem IsS106.set_2 {w0 W : World} {g : Nat} {f0 : List Int} {f1 : Int} {f2 : Int} (h : IsS106 w0 W g f0 f1 f2) (x : Int) : IsS106 w0 (W.setCell ⟨g, 2, none⟩ (.int .i64 x)) g f0 f1 x := by
 obtain ⟨A0, c0, hb, hg, hr0⟩ := h
 exact ⟨A0, c0, by simpa using blk_set hb 2 (.int .i64 x), hg, hr0⟩
theorem IsS106.new (w0 W : World) (A0 : Option Addr) (c0 : Nat) (f0 : List Int) (f1 : Int) (f2 : Int) (hB : Below w0.heap.size w0 W) (hr0 : Kd.C (Kd.int .u8) w0 A0 f0.length f0) : IsS106 w0 (W.alloc (.cells #[.slice A0 f0.length c0, .int .i64 f1, .int .i64 f2] 106)) W.heap.size f0 f1 f2 := ⟨A0, c0, by simpa using heap_alloc_new W _, hB.size, hr0⟩

/-! ### spec_l01From: function 33 -/
def spec_l01From.l0 : Nat → List Int → Int → List Int → Int → Int → Option (List Int × Int × Int)
 | 0, _, _, _, _, _ => none
 | k + 1, x0, x4, x102000, x102001, x102002 => if x4 < (x0.length : Int) then (if x4 < 64 then (if 0 ≤ x4 then (spec_l01From.l0 k x0 (wrap64 (x4 + 1)) x102000 x102001 (Int.tmod (wrap64 ((wrap64 (x102002 * 73)) + (wrap64 (rd x0 x4)))) 2147483647)) else (none)) else (some (x102000, x102001, x102002))) else (some (x102000, x102001, x102002))
def spec_l01From.f (k : Nat) (l0 : List Int) : Option (List Int × Int × Int) := spec_l01From.l0 k l0 0 l0 0 93001
def spec_l01From.T5 : Bool × List (List Nat × List Nat) := (true, [([], []), ([], []), ([1], [1]), ([2], [2]), ([3], [3]), ([4], [4]), ([], []), ([], []), ([6, 7], [6, 7]), ([8], [8]), ([9], [9]), ([5, 10], [5, 10]), ([11], [11]), ([0, 0, 1, 2, 3, 4, 5, 6, 7, 8, 9, 10, 11, 12], [0]), ([13, 0, 1, 2, 3, 4, 5, 6, 7, 8, 9, 10, 11, 12], [13]), ([14, 12, 0, 1, 2, 3, 4, 5, 6, 7, 8, 9, 10, 11, 12], [12, 14])])
def spec_l01From.B5 : List Nat := [0, 0, 2, 6, 14, 30, 0, 0, 192, 448, 960, 2046, 4094, 8191, 16383, 32767]
theorem spec_l01From.tab5 : rtab .any (opsOf Tryz.f33 5) = spec_l01From.T5 := by kernel_rfl
theorem spec_l01From.bits5 : waitsOk spec_l01From.T5.2 spec_l01From.B5 = true := by kernel_rfl
set_option maxHeartbeats 8000000 in
set_option maxRecDepth 100000 in
theorem spec_l01From.calls (k : Nat) (A0 : Option Addr) (c0 : Nat) (l0 : List Int) (r1 : List Int) (r2 : Int) (r3 : Int) (w0 w : World) (hB : Below w0.heap.size w0 w) (hr0 : Kd.C (Kd.int .u8) w0 A0 l0.length l0) (hc0 : l0.length ≤ c0) (h : spec_l01From.f k l0 = some (r1, r2, r3)) :
  Calls Tryz.prog 33 #[.slice A0 l0.length c0] w fun e w' => ∃ g_ : Nat, e = .returned (.pointer (some ⟨g_, 0, none⟩)) ∧ IsS106 w0 w' g_ r1 r2 r3 ∧ Below w0.heap.size w0 w' ∧ Below w.heap.size w w' := by
 have hu106 := Tryz.underlying106
 have HR0 := Aside0.mk hr0
 have HC0 := Aside0.mk hc0
 clear hr0 hc0
 have HBW := asd (Below.refl w.heap.size w)
 have HW0 := Aside0.mk hB.size
 have HB := Aside0.mk hB
 clear hB
 have H : (spec_l01From.l0 k l0 0 l0 0 93001) = some (r1, r2, r3) := h
 clear h
 have H' := Aside0.mk H
 clear H
 go_enter Tryz.func33, Tryz.ntmps33
 go_wp2_with (first | ((with_reducible refine gd 7 rfl ?_); refine bx #[.slice A0 l0.length c0, .int .i64 0, .int .i64 93001] 106 ?_; intro gb101 hg w2 BK101 hb; replace HB := bS0 HB hb; have GW101 := asd ((by rw [hg]; exact (below_size (by repeat (first | (with_reducible first | exact HBW.out | apply below_alloc | apply pw_below_drewN | apply below_drew1) | exact HBW.out))) : w.heap.size ≤ gb101)); have GE101 := asd ((Nat.le_trans HW0.out (by rw [hg]; exact (below_size (by repeat (first | (with_reducible first | exact HBW.out | apply below_alloc | apply pw_below_drewN | apply below_drew1) | exact HBW.out))) : w.heap.size ≤ gb101) : w0.heap.size ≤ gb101)); replace HBW := asd (below_step HBW.out hb); clear hb hg))
 go_loopg [4] k (fun kq v4 w' => ∃ (x4_1 : Int) (x102002_1 : Int), v4 = .int .i64 x4_1 ∧ Aside0 (spec_l01From.l0 kq l0 x4_1 l0 0 x102002_1 = some (r1, r2, r3)) ∧ Aside0 (kq ≤ k) ∧ Aside0 (w'.heap[gb101]? = some (.cells #[(.slice A0 l0.length c0), .int .i64 0, .int .i64 x102002_1] 106 (0, 0))) ∧ Aside0 (Below w0.heap.size w0 w') ∧ Aside0 (Below w.heap.size w w'))
 case atStart => exact ⟨(0), (93001), (by first | rfl | (simp; done) | (simp [*]; done)), H', ⟨Nat.le_refl _⟩, ⟨bkp BK101⟩, ⟨bbw1 HB GE101⟩, ⟨by repeat (first | (with_reducible first | exact HBW.out | apply below_alloc | apply pw_below_drewN | apply below_drew1 | refine below_set ?_ GW101.out) | exact HBW.out)⟩⟩
 case round =>
  clear H'
  try clear p2
  obtain ⟨x4_1, x102002_1, rfl, HA, HK1, BK101, HB, HBW⟩ := hrel
  cases gk with
  | zero => exact absurd HA.out (by simp [spec_l01From.l0])
  | succ k1 =>
   have H := HA.out
   clear HA
   simp only [spec_l01From.l0] at H
   by_cases c3 : x4_1 < (l0.length : Int)
   rw [if_pos c3] at H
   have c3b0 := decide_eq_true c3
   clear c3
   by_cases c4 : x4_1 < 64
   rw [if_pos c4] at H
   have c4b0 := decide_eq_true c4
   clear c4
   by_cases c5 : 0 ≤ x4_1
   rw [if_pos c5] at H
   have c5b0 := decide_eq_true c5
   clear c5
   have H' := Aside0.mk H
   clear H
   rotate_left
   ·rw [if_neg c5] at H
    exact absurd H (by simp)
   rw [if_neg c4] at H
   have c4b0 := decide_eq_false c4
   clear c4
   rotate_left
   rw [if_neg c3] at H
   have c3b0 := decide_eq_false c3
   clear c3
   rotate_left
   ·try go_wp2
    have n0_ := asd (blk_drew BK101.out)
    replace HBW := asd (below_drew1 HBW.out)
    have n1_ := asd (below_drew1 HB.out)
    clear BK101
    clear HB
    have BK101 := n0_
    have HB := n1_
    clear n0_ n1_
    have p102 : 0 ≤ (x4_1 : Int) := od
    have q102 : x4_1 < (l0.length : Int) := od
    obtain ⟨ad102, e102, hx102_0⟩ := Kd.at_int HR0.out x4_1 p102 q102
    have hw102_0 := hx102_0
    cases e102
    replace hx102_0 := pw_cell_below HB.out hx102_0
    replace p102 := eq_true p102
    replace q102 := eq_true q102
    refine start_ (n := 16) (S := fun w' => w'.cell? ⟨gb101, 0, none⟩ = some (.slice (some ad102) l0.length c0) ∧ w'.cell? ⟨gb101, 1, none⟩ = some (.int .i64 0) ∧ w'.cell? ⟨gb101, 2, none⟩ = some (.int .i64 x102002_1) ∧ w'.cell? (ad102.add (x4_1).toNat) = some (.int .u8 (rd l0 x4_1))) (ds := [15]) (bT 16 0) (by kernel_rfl) rfl rfl ⟨bcl BK101 0, bcl BK101 1, bcl BK101 2, (xb HB hw102_0)⟩ (fun hHeld => ?_); refine with_tabW spec_l01From.tab5 spec_l01From.bits5 (fun HT_ HW_ => ?_)
    generalize wr.drew = w6 at HBW BK101 HB hx102_0 hHeld ⊢
    refine pu 0 (some 18) (bT 16 1) HT_ ?_
    refine pu 1 (some 19) (bT 16 2) HT_ ?_
    refine pu 2 (some 20) (bT 16 3) HT_ ?_
    refine pu 3 (some 21) (bT 16 4) HT_ ?_
    refine pu 6 (some 24) (bs 16 79) HT_ ?_
    refine pu 7 (some 25) (bs 16 207) HT_ ?_
    refine pu 8 (some 26) (bs 16 463) HT_ ?_
    refine ta 4 (some 22) (bs 16 479) HT_ HW_ hHeld ?_
    refine pu 5 (some 23) (bT 16 9) HT_ ?_
    refine ta 9 (some 27) (bT 16 10) HT_ HW_ hHeld ?_
    refine pu 10 (some 28) (bT 16 11) HT_ ?_
    refine pu 11 (some 29) (bT 16 12) HT_ ?_
    refine pu 12 (some 30) (bT 16 13) HT_ ?_
    refine pu 13 (some 31) (bT 16 14) HT_ ?_
    refine pu 14 (some 32) (bT 16 15) HT_ ?_
    refine last_ (i := 15) (N := none) (bT 16 16) rfl rfl (one_of HT_.out (by kernel_rfl)) (by decide) (fun K hK => ?_)
    have hs7 : w6.cell? ⟨gb101, 2, none⟩ = some (.int .i64 x102002_1) := bcl BK101 2
    have hfs7 := blk_frozen BK101.out 2
    refine skip_ (w1 := ?_) (by rfl) rfl ?_ ?_
    rotate_left
    ·go_simp
     rfl
    refine hK.out _ _ ?_
    clear hK K
    refine done_ (done_of HT_.out (by kernel_rfl)) ?_
    try go_wp2
    go_roundg k1
    case measure => have := HK1.out; omega
    case rel => exact ⟨(wrap64 (x4_1 + 1)), (Int.tmod (wrap64 ((wrap64 (x102002_1 * 73)) + (wrap64 (rd l0 x4_1)))) 2147483647), (by first | rfl | (simp; done) | (simp [*]; done)), H', ⟨by have := HK1.out; omega⟩, ⟨bq0 BK101⟩, ⟨bbw1 HB GE101⟩, ⟨by repeat (first | (with_reducible first | exact HBW.out | apply below_alloc | apply pw_below_drewN | apply below_drew1 | refine below_set ?_ GW101.out) | exact HBW.out)⟩⟩
   rotate_left 2
   all_goals
    simp only [Option.some.injEq, Prod.mk.injEq] at H
    obtain ⟨rfl, rfl, rfl⟩ := H
    go_wp2
    go_ret
    exact ⟨_, rfl, (show IsS106 w0 _ gb101 l0 0 x102002_1 from ⟨_, _, by (with_reducible repeat (first | refine blk_drewN ?_ _ | refine blk_drew ?_ | refine blk_alloc ?_ _)); exact BK101.out, GE101.out, HR0.out⟩), by repeat (first | (with_reducible first | exact HB.out | apply below_alloc | apply pw_below_drewN | apply below_drew1 | refine below_set ?_ GE101.out) | exact HB.out), by repeat (first | (with_reducible first | exact HBW.out | apply below_alloc | apply pw_below_drewN | apply below_drew1 | refine below_set ?_ GW101.out) | exact HBW.out)⟩
/-! ### spec_l01Next: function 45 -/
def spec_l01Next.f (s0_0 : List Int) (s0_1 : Int) (s0_2 : Int) (a1 : Int) : Option (Int × Int × Int) := if a1 ≤ 1 then (some (0, s0_1, s0_2)) else (if s0_1 < (s0_0.length : Int) then (if 0 ≤ s0_1 then (if a1 ≤ 256 then (if (Int.tmod (wrap64 (s0_1 + 1)) 2) = 0 then (if 0 ≤ (wrap64 ((wrap64 (s0_1 + 1)) - 1)) then (if (wrap64 ((wrap64 (s0_1 + 1)) - 1)) < (s0_0.length : Int) then (if a1 = 0 then (none) else (some (Int.tmod (wrap64 (rd s0_0 (wrap64 ((wrap64 (s0_1 + 1)) - 1)))) a1, wrap64 (s0_1 + 1), Int.tmod (wrap64 ((wrap64 (s0_2 * 48271)) + 67)) 2147483647))) else (none)) else (none)) else (if a1 = 0 then (none) else (some (Int.tmod (wrap64 ((wrap64 (Int.tdiv (Int.tmod (wrap64 ((wrap64 (s0_2 * 48271)) + 67)) 2147483647) 37)) + (wrap64 (rd s0_0 s0_1)))) a1, wrap64 (s0_1 + 1), Int.tmod (wrap64 ((wrap64 (s0_2 * 48271)) + 67)) 2147483647)))) else (if a1 = 0 then (none) else (some (Int.tmod (wrap64 ((wrap64 (Int.tdiv (Int.tmod (wrap64 ((wrap64 (s0_2 * 48271)) + 67)) 2147483647) 37)) + (wrap64 (rd s0_0 s0_1)))) a1, wrap64 (s0_1 + 1), Int.tmod (wrap64 ((wrap64 (s0_2 * 48271)) + 67)) 2147483647)))) else (none)) else (if a1 = 0 then (none) else (some (Int.tmod (wrap64 (Int.tdiv (Int.tmod (wrap64 ((wrap64 (s0_2 * 48271)) + 67)) 2147483647) 37)) a1, s0_1, Int.tmod (wrap64 ((wrap64 (s0_2 * 48271)) + 67)) 2147483647))))
set_option maxHeartbeats 8000000 in
set_option maxRecDepth 100000 in
theorem spec_l01Next.calls (g : Nat) (s0_0 : List Int) (s0_1 : Int) (s0_2 : Int) (a1 : Int) (r1 : Int) (r2 : Int) (r3 : Int) (w0 w : World) (hI : IsS106 w0 w g s0_0 s0_1 s0_2) (hB : Below w0.heap.size w0 w) (h : spec_l01Next.f s0_0 s0_1 s0_2 a1 = some (r1, r2, r3)) :
  Calls Tryz.prog 45 #[.pointer (some ⟨g, 0, none⟩), .int .i64 a1] w fun e w' => e = .returned (.int .i64 r1) ∧ IsS106 w0 w' g s0_0 r2 r3 ∧ Below w0.heap.size w0 w' ∧ KeepBut w w' g none := by
 have HI0 := Aside0.mk hI
 have HK := asd (KeepBut.refl w g none)
 have HL := Aside0.mk hB.size
 clear hI
 have HW0 := Aside0.mk hB.size
 have HB := Aside0.mk hB
 clear hB
 have H : (if a1 ≤ 1 then (some (0, s0_1, s0_2)) else (if s0_1 < (s0_0.length : Int) then (if 0 ≤ s0_1 then (if a1 ≤ 256 then (if (Int.tmod (wrap64 (s0_1 + 1)) 2) = 0 then (if 0 ≤ (wrap64 ((wrap64 (s0_1 + 1)) - 1)) then (if (wrap64 ((wrap64 (s0_1 + 1)) - 1)) < (s0_0.length : Int) then (if a1 = 0 then (none) else (some (Int.tmod (wrap64 (rd s0_0 (wrap64 ((wrap64 (s0_1 + 1)) - 1)))) a1, wrap64 (s0_1 + 1), Int.tmod (wrap64 ((wrap64 (s0_2 * 48271)) + 67)) 2147483647))) else (none)) else (none)) else (if a1 = 0 then (none) else (some (Int.tmod (wrap64 ((wrap64 (Int.tdiv (Int.tmod (wrap64 ((wrap64 (s0_2 * 48271)) + 67)) 2147483647) 37)) + (wrap64 (rd s0_0 s0_1)))) a1, wrap64 (s0_1 + 1), Int.tmod (wrap64 ((wrap64 (s0_2 * 48271)) + 67)) 2147483647)))) else (if a1 = 0 then (none) else (some (Int.tmod (wrap64 ((wrap64 (Int.tdiv (Int.tmod (wrap64 ((wrap64 (s0_2 * 48271)) + 67)) 2147483647) 37)) + (wrap64 (rd s0_0 s0_1)))) a1, wrap64 (s0_1 + 1), Int.tmod (wrap64 ((wrap64 (s0_2 * 48271)) + 67)) 2147483647)))) else (none)) else (if a1 = 0 then (none) else (some (Int.tmod (wrap64 (Int.tdiv (Int.tmod (wrap64 ((wrap64 (s0_2 * 48271)) + 67)) 2147483647) 37)) a1, s0_1, Int.tmod (wrap64 ((wrap64 (s0_2 * 48271)) + 67)) 2147483647))))) = some (r1, r2, r3) := h
 clear h
 by_cases c3 : a1 ≤ 1
 rw [if_pos c3] at H
 have c3b0 := decide_eq_true c3
 clear c3
 rotate_left
 rw [if_neg c3] at H
 have c3b0 := decide_eq_false c3
 clear c3
 by_cases c4 : s0_1 < (s0_0.length : Int)
 rw [if_pos c4] at H
 have c4b0 := decide_eq_true c4
 clear c4
 by_cases c5 : 0 ≤ s0_1
 rw [if_pos c5] at H
 have c5b0 := decide_eq_true c5
 clear c5
 by_cases c6 : a1 ≤ 256
 rw [if_pos c6] at H
 have c6b0 := decide_eq_true c6
 clear c6
 by_cases c7 : (Int.tmod (wrap64 (s0_1 + 1)) 2) = 0
 rw [if_pos c7] at H
 have c7b0 : ((Int.tmod (wrap64 (s0_1 + 1)) 2) == 0) = true := beq_iff_eq.mpr c7
 have c7b1 : ((Int.tmod (wrap64 (s0_1 + 1)) 2) != 0) = false := bne_eq_false_iff_eq.mpr c7
 clear c7
 obtain ⟨ji8, hji8⟩ : ∃ j_ : Int, (wrap64 ((wrap64 (s0_1 + 1)) - 1)) = j_ := ⟨_, rfl⟩
 replace H : (if 0 ≤ (ji8) then (if (ji8) < (s0_0.length : Int) then (if a1 = 0 then (none) else (some (Int.tmod (wrap64 (rd s0_0 (ji8))) a1, wrap64 (s0_1 + 1), Int.tmod (wrap64 ((wrap64 (s0_2 * 48271)) + 67)) 2147483647))) else (none)) else (none)) = some (r1, r2, r3) := by first | (rw [hji8] at H; first | done | exact H) | (simp only [hji8] at H ⊢; exact H)
 have hji8w : (IntKind.i64.wrap ((wrap64 (s0_1 + 1)) - 1)) = ji8 := (i64_w _).trans hji8
 have hji8x : (IntKind.i64.wrap ((IntKind.i64.wrap (s0_1 + 1)) - 1)) = ji8 := by simp only [i64_w]; exact hji8
 by_cases c9 : 0 ≤ (ji8)
 rw [if_pos c9] at H
 have c9b0 := decide_eq_true c9
 clear c9
 by_cases c10 : (ji8) < (s0_0.length : Int)
 rw [if_pos c10] at H
 have c10b0 := decide_eq_true c10
 clear c10
 by_cases c11 : a1 = 0
 ·rw [if_pos c11] at H
  exact absurd H (by simp)
 rw [if_neg c11] at H
 have c11b0 : (a1 == 0) = false := beq_eq_false_iff_ne.mpr c11
 have c11b1 : (a1 != 0) = true := bne_iff_ne.mpr c11
 rotate_left
 ·rw [if_neg c10] at H
  exact absurd H (by simp)
 ·rw [if_neg c9] at H
  exact absurd H (by simp)
 rw [if_neg c7] at H
 have c7b0 : ((Int.tmod (wrap64 (s0_1 + 1)) 2) == 0) = false := beq_eq_false_iff_ne.mpr c7
 have c7b1 : ((Int.tmod (wrap64 (s0_1 + 1)) 2) != 0) = true := bne_iff_ne.mpr c7
 by_cases c13 : a1 = 0
 ·rw [if_pos c13] at H
  exact absurd H (by simp)
 rw [if_neg c13] at H
 have c13b0 : (a1 == 0) = false := beq_eq_false_iff_ne.mpr c13
 have c13b1 : (a1 != 0) = true := bne_iff_ne.mpr c13
 rotate_left
 rw [if_neg c6] at H
 have c6b0 := decide_eq_false c6
 clear c6
 by_cases c15 : a1 = 0
 ·rw [if_pos c15] at H
  exact absurd H (by simp)
 rw [if_neg c15] at H
 have c15b0 : (a1 == 0) = false := beq_eq_false_iff_ne.mpr c15
 have c15b1 : (a1 != 0) = true := bne_iff_ne.mpr c15
 rotate_left
 ·rw [if_neg c5] at H
  exact absurd H (by simp)
 rw [if_neg c4] at H
 have c4b0 := decide_eq_false c4
 clear c4
 by_cases c17 : a1 = 0
 ·rw [if_pos c17] at H
  exact absurd H (by simp)
 rw [if_neg c17] at H
 have c17b0 : (a1 == 0) = false := beq_eq_false_iff_ne.mpr c17
 have c17b1 : (a1 != 0) = true := bne_iff_ne.mpr c17
 rotate_left
 all_goals
  simp only [Option.some.injEq, Prod.mk.injEq] at H
  obtain ⟨rfl, rfl, rfl⟩ := H
 ·go_enter Tryz.func45, Tryz.ntmps45
  go_wp2
  repeat (go_quiet (fail); try go_wp2)
  go_ret
  exact ⟨by first | rfl | (simp [errW_none, errW_some] <;> rfl) | (simp [*, errW_none, errW_some] <;> rfl), by repeat (first | (with_reducible first | exact HI0.out | apply IsS106.alloc | apply IsS106.drewN | apply IsS106.drew | apply IsS106.set_1 | apply IsS106.set_2) | exact HI0.out), by repeat (first | (with_reducible first | exact HB.out | apply below_alloc | apply pw_below_drewN | apply below_drew1 | refine below_set ?_ (IsS106.ge HI0.out)) | exact HB.out), by repeat (first | (with_reducible first | exact HK.out | apply KeepBut.set_ | apply keep_drewN | apply keep_drew | apply keep_alloc) | exact HK.out)⟩
 rotate_left 3
 ·obtain ⟨ASz18_0, cSz18_0, HGz18, hgz18, HSz18_0⟩ := HI0.out
  have hcz18_0 := cellS106_0 HGz18
  have hcz18_1 := cellS106_1 HGz18
  have hcz18_2 := cellS106_2 HGz18
  have hfz18_1 := blk_frozen HGz18 1
  have hfz18_2 := blk_frozen HGz18 2
  clear HGz18 hgz18
  go_enter Tryz.func45, Tryz.ntmps45
  go_wp2
  repeat (go_quiet (fail); try go_wp2)
  go_ret
  exact ⟨by first | rfl | (simp [errW_none, errW_some] <;> rfl) | (simp [*, errW_none, errW_some] <;> rfl), by repeat (first | (with_reducible first | exact HI0.out | apply IsS106.alloc | apply IsS106.drewN | apply IsS106.drew | apply IsS106.set_1 | apply IsS106.set_2) | exact HI0.out), by repeat (first | (with_reducible first | exact HB.out | apply below_alloc | apply pw_below_drewN | apply below_drew1 | refine below_set ?_ (IsS106.ge HI0.out)) | exact HB.out), by repeat (first | (with_reducible first | exact HK.out | apply KeepBut.set_ | apply keep_drewN | apply keep_drew | apply keep_alloc) | exact HK.out)⟩
 all_goals
  obtain ⟨ASz12_0, cSz12_0, HGz12, hgz12, HSz12_0⟩ := HI0.out
  have hcz12_0 := cellS106_0 HGz12
  have hcz12_1 := cellS106_1 HGz12
  have hcz12_2 := cellS106_2 HGz12
  have hfz12_1 := blk_frozen HGz12 1
  have hfz12_2 := blk_frozen HGz12 2
  clear HGz12 hgz12
  have p103 : 0 ≤ (s0_1 : Int) := od
  have q103 : s0_1 < (s0_0.length : Int) := od
  obtain ⟨ad103, e103, hx103_0⟩ := Kd.at_int HSz12_0 s0_1 p103 q103
  cases e103
  have hn103_0 : ad103.block ≠ g := Nat.ne_of_lt (Nat.lt_of_lt_of_le (by have := World.block_lt_of_cell? _ _ hx103_0; first | rwa [add_block] at this | exact this) (IsS106.ge HI0.out))
  replace hx103_0 := pw_cell_below HB.out hx103_0
  replace hx103_0 := (cell_far (p := ⟨g, 2, none⟩) (by first | (rw [add_block]; exact hn103_0) | (show (Addr.add _ _).block ≠ _; rw [add_block]; exact hn103_0) | exact hn103_0) (.int .i64 (Int.tmod (wrap64 ((wrap64 (s0_2 * 48271)) + 67)) 2147483647))).trans hx103_0
  (try have hy103_0 := fun (n_ : Nat) => (show (((w.drewN n_).setCell ⟨g, 2, none⟩ (.int .i64 (Int.tmod (wrap64 ((wrap64 (s0_2 * 48271)) + 67)) 2147483647)))).cell? _ = some _ from hx103_0))
  clear hn103_0
  replace p103 := eq_true p103
  replace q103 := eq_true q103
 have p104 : 0 ≤ ((ji8) : Int) := od
 have q104 : (ji8) < (s0_0.length : Int) := od
 obtain ⟨ad104, e104, hx104_0⟩ := Kd.at_int HSz12_0 (ji8) p104 q104
 obtain rfl : ad103 = ad104 := (by injection e104)
 have hn104_0 : ad103.block ≠ g := Nat.ne_of_lt (Nat.lt_of_lt_of_le (by have := World.block_lt_of_cell? _ _ hx104_0; first | rwa [add_block] at this | exact this) (IsS106.ge HI0.out))
 have hn104_1 : ad103.block ≠ g := Nat.ne_of_lt (Nat.lt_of_lt_of_le (by have := World.block_lt_of_cell? _ _ hx104_0; first | rwa [add_block] at this | exact this) (IsS106.ge HI0.out))
 replace hx104_0 := pw_cell_below HB.out hx104_0
 replace hx104_0 := (cell_far (p := ⟨g, 2, none⟩) (by first | (rw [add_block]; exact hn104_0) | (show (Addr.add _ _).block ≠ _; rw [add_block]; exact hn104_0) | exact hn104_0) (.int .i64 (Int.tmod (wrap64 ((wrap64 (s0_2 * 48271)) + 67)) 2147483647))).trans hx104_0
 replace hx104_0 := (cell_far (p := ⟨g, 1, none⟩) (by first | (rw [add_block]; exact hn104_1) | (show (Addr.add _ _).block ≠ _; rw [add_block]; exact hn104_1) | exact hn104_1) (.int .i64 (wrap64 (s0_1 + 1)))).trans hx104_0
 (try have hy104_0 := fun (n_ : Nat) => (show ((((w.drewN n_).setCell ⟨g, 2, none⟩ (.int .i64 (Int.tmod (wrap64 ((wrap64 (s0_2 * 48271)) + 67)) 2147483647))).setCell ⟨g, 1, none⟩ (.int .i64 (wrap64 (s0_1 + 1))))).cell? _ = some _ from hx104_0))
 (try have hz104_0 := fun (n_ : Nat) => (show ((((w.setCell ⟨g, 2, none⟩ (.int .i64 (Int.tmod (wrap64 ((wrap64 (s0_2 * 48271)) + 67)) 2147483647))).drewN n_).setCell ⟨g, 1, none⟩ (.int .i64 (wrap64 (s0_1 + 1))))).cell? _ = some _ from hx104_0))
 clear hn104_0
 clear hn104_1
 replace p104 := eq_true p104
 replace q104 := eq_true q104
 rotate_left 3
 all_goals
  go_enter Tryz.func45, Tryz.ntmps45
  go_wp2
  repeat (go_quiet (fail); try go_wp2)
  go_ret
 ·exact ⟨by first | rfl | (simp [errW_none, errW_some] <;> rfl) | (simp only [← hji8]; first | rfl | (simp [errW_none, errW_some] <;> rfl)) | (simp [*, errW_none, errW_some] <;> rfl), by repeat (first | (with_reducible first | exact HI0.out | apply IsS106.alloc | apply IsS106.drewN | apply IsS106.drew | apply IsS106.set_1 | apply IsS106.set_2) | exact HI0.out), by repeat (first | (with_reducible first | exact HB.out | apply below_alloc | apply pw_below_drewN | apply below_drew1 | refine below_set ?_ (IsS106.ge HI0.out)) | exact HB.out), by repeat (first | (with_reducible first | exact HK.out | apply KeepBut.set_ | apply keep_drewN | apply keep_drew | apply keep_alloc) | exact HK.out)⟩
 rotate_left 2
 all_goals
  exact ⟨by first | rfl | (simp [errW_none, errW_some] <;> rfl) | (simp [*, errW_none, errW_some] <;> rfl), by repeat (first | (with_reducible first | exact HI0.out | apply IsS106.alloc | apply IsS106.drewN | apply IsS106.drew | apply IsS106.set_1 | apply IsS106.set_2) | exact HI0.out), by repeat (first | (with_reducible first | exact HB.out | apply below_alloc | apply pw_below_drewN | apply below_drew1 | refine below_set ?_ (IsS106.ge HI0.out)) | exact HB.out), by repeat (first | (with_reducible first | exact HK.out | apply KeepBut.set_ | apply keep_drewN | apply keep_drew | apply keep_alloc) | exact HK.out)⟩
/-! ### spec_l02Multiply: function 51 -/
def spec_l02Multiply.f (a0_0 : Int) (a0_1 : Int) (a0_2 : Int) (a0_3 : Int) (a1_0 : Int) (a1_1 : Int) (a1_2 : Int) (a1_3 : Int) : Option (Int × Int × Int × Int) := some (wrap64 ((wrap64 (a0_0 * a1_0)) + (wrap64 (a0_1 * a1_2))), wrap64 ((wrap64 (a0_0 * a1_1)) + (wrap64 (a0_1 * a1_3))), wrap64 ((wrap64 (a0_2 * a1_0)) + (wrap64 (a0_3 * a1_2))), wrap64 ((wrap64 (a0_2 * a1_1)) + (wrap64 (a0_3 * a1_3))))
set_option maxHeartbeats 8000000 in
set_option maxRecDepth 100000 in
theorem spec_l02Multiply.calls (a0_0 : Int) (a0_1 : Int) (a0_2 : Int) (a0_3 : Int) (a1_0 : Int) (a1_1 : Int) (a1_2 : Int) (a1_3 : Int) (r1 : Int) (r2 : Int) (r3 : Int) (r4 : Int) (w : World) (h : spec_l02Multiply.f a0_0 a0_1 a0_2 a0_3 a1_0 a1_1 a1_2 a1_3 = some (r1, r2, r3, r4)) :
  Calls Tryz.prog 51 #[.agg #[.int .i64 a0_0, .int .i64 a0_1, .int .i64 a0_2, .int .i64 a0_3], .agg #[.int .i64 a1_0, .int .i64 a1_1, .int .i64 a1_2, .int .i64 a1_3]] w fun e w' => e = .returned (.agg #[.int .i64 r1, .int .i64 r2, .int .i64 r3, .int .i64 r4]) ∧ Below w.heap.size w w' := by
 have hu25 := Tryz.underlying25
 have HB := asd (Below.refl w.heap.size w)
 have H : (some (wrap64 ((wrap64 (a0_0 * a1_0)) + (wrap64 (a0_1 * a1_2))), wrap64 ((wrap64 (a0_0 * a1_1)) + (wrap64 (a0_1 * a1_3))), wrap64 ((wrap64 (a0_2 * a1_0)) + (wrap64 (a0_3 * a1_2))), wrap64 ((wrap64 (a0_2 * a1_1)) + (wrap64 (a0_3 * a1_3))))) = some (r1, r2, r3, r4) := h
 clear h
 simp only [Option.some.injEq, Prod.mk.injEq] at H
 obtain ⟨rfl, rfl, rfl, rfl⟩ := H
 go_enter Tryz.func51, Tryz.ntmps51
 go_wp2_with (first | ((with_reducible refine gd 2 rfl ?_); refine bx #[.int .i64 a0_0, .int .i64 a0_1, .int .i64 a0_2, .int .i64 a0_3] 25 ?_; intro gb105 hg w3 BK105 hb; have GE105 := ngw0 hg HB; replace HB := bS0 HB hb; clear hb hg) | ((with_reducible refine gd 3 rfl ?_); refine bx #[.int .i64 a1_0, .int .i64 a1_1, .int .i64 a1_2, .int .i64 a1_3] 25 ?_; intro gb106 hg w4 BK106 hb; have GE106 := ngw1 hg HB GE105; replace HB := bS1 HB GE105 hb; have NB105_106 := nlt hg BK105; have NB106_105 := nsy (nlt hg BK105); replace BK105 := bB BK105 hb; clear hb hg) | ((with_reducible refine gd 4 rfl ?_); refine bx #[.int .i64 0, .int .i64 0, .int .i64 0, .int .i64 0] 25 ?_; intro gb107 hg w5 BK107 hb; have GE107 := ngw2 hg HB GE105 GE106; replace HB := bS2 HB GE105 GE106 hb; have NB105_107 := nlt hg BK105; have NB107_105 := nsy (nlt hg BK105); replace BK105 := bB BK105 hb; have NB106_107 := nlt hg BK106; have NB107_106 := nsy (nlt hg BK106); replace BK106 := bB BK106 hb; clear hb hg; have hnb6 := NB105_106.out; have hnc6 := NB106_105.out; have hnb7 := NB105_107.out; have hnc7 := NB107_105.out; obtain ⟨hcz8_0, hcz8_1, hcz8_2, hcz8_3, hfz8_0, hfz8_1, hfz8_2, hfz8_3⟩ := bz4 BK105; have hnb9 := NB106_107.out; have hnc9 := NB107_106.out; obtain ⟨hcz10_0, hcz10_1, hcz10_2, hcz10_3, hfz10_0, hfz10_1, hfz10_2, hfz10_3⟩ := bz4 BK106; obtain ⟨hcz11_0, hcz11_1, hcz11_2, hcz11_3, hfz11_0, hfz11_1, hfz11_2, hfz11_3⟩ := bz4 BK107))
 refine bodyPost_ret (results_cell_row rfl _ _ gb107 25 #[.int .i64 (wrap64 ((wrap64 (a0_0 * a1_0)) + (wrap64 (a0_1 * a1_2)))), .int .i64 (wrap64 ((wrap64 (a0_0 * a1_1)) + (wrap64 (a0_1 * a1_3)))), .int .i64 (wrap64 ((wrap64 (a0_2 * a1_0)) + (wrap64 (a0_3 * a1_2)))), .int .i64 (wrap64 ((wrap64 (a0_2 * a1_1)) + (wrap64 (a0_3 * a1_3))))] (0, 0) _ rfl (bq0 BK107) Tryz.underlying25 rfl (by kernel_rfl)) rfl ?_
 exact er (bbw3 HB GE105 GE106 GE107)
/-! ### spec_l02Unit: function 81 -/
def spec_l02Unit.f  : Option (Int × Int × Int × Int) := some (1, 0, 0, 1)
set_option maxHeartbeats 8000000 in
set_option maxRecDepth 100000 in
theorem spec_l02Unit.calls  (r1 : Int) (r2 : Int) (r3 : Int) (r4 : Int) (w : World) (h : spec_l02Unit.f  = some (r1, r2, r3, r4)) :
  Calls Tryz.prog 81 #[] w fun e w' => e = .returned (.agg #[.int .i64 r1, .int .i64 r2, .int .i64 r3, .int .i64 r4]) ∧ Below w.heap.size w w' := by
 have hu25 := Tryz.underlying25
 have HB := asd (Below.refl w.heap.size w)
 have H : (some (1, 0, 0, 1)) = some (r1, r2, r3, r4) := h
 clear h
 simp only [Option.some.injEq, Prod.mk.injEq] at H
 obtain ⟨rfl, rfl, rfl, rfl⟩ := H
 go_enter Tryz.func81, Tryz.ntmps81
 go_wp2_with (first | ((with_reducible refine gd 0 rfl ?_); refine bx #[.int .i64 0, .int .i64 0, .int .i64 0, .int .i64 0] 25 ?_; intro gb108 hg w1 BK108 hb; have GE108 := ngw0 hg HB; replace HB := bS0 HB hb; clear hb hg; obtain ⟨hcz2_0, hcz2_1, hcz2_2, hcz2_3, hfz2_0, hfz2_1, hfz2_2, hfz2_3⟩ := bz4 BK108))
 refine bodyPost_ret (results_cell_row rfl _ _ gb108 25 #[.int .i64 1, .int .i64 0, .int .i64 0, .int .i64 1] (0, 0) _ rfl (bq0 BK108) Tryz.underlying25 rfl (by kernel_rfl)) rfl ?_
 exact er (bbw1 HB GE108)
/-! ### spec_l02Det: function 89 -/
def spec_l02Det.f (a0_0 : Int) (a0_1 : Int) (a0_2 : Int) (a0_3 : Int) : Option (Int) := some (wrap64 ((wrap64 (a0_0 * a0_3)) - (wrap64 (a0_1 * a0_2))))
set_option maxHeartbeats 8000000 in
set_option maxRecDepth 100000 in
theorem spec_l02Det.calls (a0_0 : Int) (a0_1 : Int) (a0_2 : Int) (a0_3 : Int) (r : Int) (w : World) (h : spec_l02Det.f a0_0 a0_1 a0_2 a0_3 = some r) :
  Calls Tryz.prog 89 #[.agg #[.int .i64 a0_0, .int .i64 a0_1, .int .i64 a0_2, .int .i64 a0_3]] w fun e w' => e = .returned (.int .i64 r) ∧ Below w.heap.size w w' := by
 have hu25 := Tryz.underlying25
 have HB := asd (Below.refl w.heap.size w)
 have H : (some (wrap64 ((wrap64 (a0_0 * a0_3)) - (wrap64 (a0_1 * a0_2))))) = some r := h
 clear h
 obtain rfl := Option.some.inj H
 go_enter Tryz.func89, Tryz.ntmps89
 go_wp2_with (first | ((with_reducible refine gd 1 rfl ?_); refine bx #[.int .i64 a0_0, .int .i64 a0_1, .int .i64 a0_2, .int .i64 a0_3] 25 ?_; intro gb109 hg w2 BK109 hb; have GE109 := ngw0 hg HB; replace HB := bS0 HB hb; clear hb hg; obtain ⟨hcz3_0, hcz3_1, hcz3_2, hcz3_3, hfz3_0, hfz3_1, hfz3_2, hfz3_3⟩ := bz4 BK109))
 go_ret
 exact er (bbw1 HB GE109)
/-! ### spec_l02Inverse: function 123 -/
def spec_l02Inverse.f (a0_0 : Int) (a0_1 : Int) (a0_2 : Int) (a0_3 : Int) : Option (Int × Int × Int × Int) := (spec_l02Det.f a0_0 a0_1 a0_2 a0_3).bind fun t112 => (some (wrap64 (t112 * a0_3), wrap64 ((wrap64 (-t112)) * a0_1), wrap64 ((wrap64 (-t112)) * a0_2), wrap64 (t112 * a0_0)))
set_option maxHeartbeats 8000000 in
set_option maxRecDepth 100000 in
theorem spec_l02Inverse.calls (a0_0 : Int) (a0_1 : Int) (a0_2 : Int) (a0_3 : Int) (r1 : Int) (r2 : Int) (r3 : Int) (r4 : Int) (w : World) (h : spec_l02Inverse.f a0_0 a0_1 a0_2 a0_3 = some (r1, r2, r3, r4)) :
  Calls Tryz.prog 123 #[.agg #[.int .i64 a0_0, .int .i64 a0_1, .int .i64 a0_2, .int .i64 a0_3]] w fun e w' => e = .returned (.agg #[.int .i64 r1, .int .i64 r2, .int .i64 r3, .int .i64 r4]) ∧ Below w.heap.size w w' := by
 have hu25 := Tryz.underlying25
 have HB := asd (Below.refl w.heap.size w)
 have H : ((spec_l02Det.f a0_0 a0_1 a0_2 a0_3).bind fun t112 => (some (wrap64 (t112 * a0_3), wrap64 ((wrap64 (-t112)) * a0_1), wrap64 ((wrap64 (-t112)) * a0_2), wrap64 (t112 * a0_0)))) = some (r1, r2, r3, r4) := h
 clear h
 obtain ⟨t112, A2, H⟩ := ob H
 try dsimp only at H
 simp only [Option.some.injEq, Prod.mk.injEq] at H
 obtain ⟨rfl, rfl, rfl, rfl⟩ := H
 go_enter Tryz.func123, Tryz.ntmps123
 go_wp2_with (first | ((with_reducible refine gd 1 rfl ?_); refine bx #[.int .i64 a0_0, .int .i64 a0_1, .int .i64 a0_2, .int .i64 a0_3] 25 ?_; intro gb110 hg w3 BK110 hb; have GE110 := ngw0 hg HB; replace HB := bS0 HB hb; clear hb hg) | ((with_reducible refine gd 2 rfl ?_); refine bx #[.int .i64 0, .int .i64 0, .int .i64 0, .int .i64 0] 25 ?_; intro gb111 hg w4 BK111 hb; have GE111 := ngw1 hg HB GE110; replace HB := bS1 HB GE110 hb; have NB110_111 := nlt hg BK110; have NB111_110 := nsy (nlt hg BK110); replace BK110 := bB BK110 hb; clear hb hg; have hnb5 := NB110_111.out; have hnc5 := NB111_110.out; obtain ⟨hcz6_0, hcz6_1, hcz6_2, hcz6_3, hfz6_0, hfz6_1, hfz6_2, hfz6_3⟩ := bz4 BK110) | ((with_reducible refine gate_callee (f := 89) rfl ?_); refine gl 5 Tryz.func89 #[.agg #[.int .i64 a0_0, .int .i64 a0_1, .int .i64 a0_2, .int .i64 a0_3]] ?_; (with_reducible refine (spec_l02Det.calls _ _ _ _ _ _ A2.out).mono ?_); rintro e w7 ⟨rfl, hb⟩; refine ⟨_, rfl, ?_⟩; replace BK110 := bB BK110 hb; replace BK111 := bB BK111 hb; replace HB := bS2 HB GE110 GE111 hb; (try clear hb); obtain ⟨hcz8_0, hcz8_1, hcz8_2, hcz8_3, hfz8_0, hfz8_1, hfz8_2, hfz8_3⟩ := bz4 BK110; obtain ⟨hcz9_0, hcz9_1, hcz9_2, hcz9_3, hfz9_0, hfz9_1, hfz9_2, hfz9_3⟩ := bz4 BK111))
 refine bodyPost_ret (results_cell_row rfl _ _ gb111 25 #[.int .i64 (wrap64 (t112 * a0_3)), .int .i64 (wrap64 ((wrap64 (-t112)) * a0_1)), .int .i64 (wrap64 ((wrap64 (-t112)) * a0_2)), .int .i64 (wrap64 (t112 * a0_0))] (0, 0) _ rfl (bq0 BK111) Tryz.underlying25 rfl (by kernel_rfl)) rfl ?_
 exact er (bbw2 HB GE110 GE111)
/-! ### spec_l02DrawFinite: function 82 -/
def spec_l02DrawFinite.l0 : Nat → Int → List Int → Int → Int → Int → Int → Int → Int → Option (Int × Int × Int × Int × Int × Int)
 | 0, _, _, _, _, _, _, _, _ => none
 | k + 1, x4, x1000, x1001, x1002, x122000, x122001, x122002, x122003 => if x4 > 0 then ((spec_l01Next.f x1000 x1001 x1002 5).bind fun bt125 => ((spec_l01Next.f x1000 bt125.2.1 bt125.2.2 2).bind fun bt129 => (if bt129.1 = 0 then ((spec_l01Next.f x1000 bt129.2.1 bt129.2.2 5).bind fun bt132 => ((spec_l02Multiply.f 1 0 (wrap64 (bt132.1 - 2)) 1 x122000 x122001 x122002 x122003).bind fun bt135 => ((spec_l02Inverse.f 1 0 (wrap64 (bt132.1 - 2)) 1).bind fun bt139 => ((spec_l02Multiply.f bt135.1 bt135.2.1 bt135.2.2.1 bt135.2.2.2 bt139.1 bt139.2.1 bt139.2.2.1 bt139.2.2.2).bind fun bt143 => (spec_l02DrawFinite.l0 k (wrap64 (x4 - 1)) x1000 bt132.2.1 bt132.2.2 bt143.1 bt143.2.1 bt143.2.2.1 bt143.2.2.2))))) else ((spec_l02Multiply.f 1 (wrap64 (bt125.1 - 2)) 0 1 x122000 x122001 x122002 x122003).bind fun bt147 => ((spec_l02Inverse.f 1 (wrap64 (bt125.1 - 2)) 0 1).bind fun bt151 => ((spec_l02Multiply.f bt147.1 bt147.2.1 bt147.2.2.1 bt147.2.2.2 bt151.1 bt151.2.1 bt151.2.2.1 bt151.2.2.2).bind fun bt155 => (spec_l02DrawFinite.l0 k (wrap64 (x4 - 1)) x1000 bt129.2.1 bt129.2.2 bt155.1 bt155.2.1 bt155.2.2.1 bt155.2.2.2))))))) else (some (x122000, x122001, x122002, x122003, x1001, x1002))
def spec_l02DrawFinite.f (k : Nat) (s0_0 : List Int) (s0_1 : Int) (s0_2 : Int) : Option (Int × Int × Int × Int × Int × Int) := (some (([(⟨1, 0, 0, 1⟩ : S25), (⟨(-1), 0, 0, (-1)⟩ : S25), (⟨0, (-1), 1, 0⟩ : S25), (⟨0, (-1), 1, 1⟩ : S25), (⟨(-1), (-1), 1, 0⟩ : S25), (⟨1, 0, 0, (-1)⟩ : S25), (⟨0, 1, 1, 0⟩ : S25), (⟨1, 1, 0, (-1)⟩ : S25)] : List (S25)) : List (S25))).bind fun y114 => ((spec_l01Next.f s0_0 s0_1 s0_2 8).bind fun bt117 => (if 0 ≤ bt117.1 then (if bt117.1 < (y114.length : Int) then ((spec_l01Next.f s0_0 bt117.2.1 bt117.2.2 3).bind fun bt122 => (spec_l02DrawFinite.l0 k bt122.1 s0_0 bt122.2.1 bt122.2.2 ((rd_T25 y114 bt117.1).f0) ((rd_T25 y114 bt117.1).f1) ((rd_T25 y114 bt117.1).f2) ((rd_T25 y114 bt117.1).f3))) else (none)) else (none)))
set_option maxHeartbeats 8000000 in
set_option maxRecDepth 100000 in
theorem spec_l02DrawFinite.calls (k : Nat) (g : Nat) (s0_0 : List Int) (s0_1 : Int) (s0_2 : Int) (r1 : Int) (r2 : Int) (r3 : Int) (r4 : Int) (r5 : Int) (r6 : Int) (w0 w : World) (hI : IsS106 w0 w g s0_0 s0_1 s0_2) (hB : Below w0.heap.size w0 w) (h : spec_l02DrawFinite.f k s0_0 s0_1 s0_2 = some (r1, r2, r3, r4, r5, r6)) :
  Calls Tryz.prog 82 #[.pointer (some ⟨g, 0, none⟩)] w fun e w' => e = .returned (.agg #[.int .i64 r1, .int .i64 r2, .int .i64 r3, .int .i64 r4]) ∧ IsS106 w0 w' g s0_0 r5 r6 ∧ Below w0.heap.size w0 w' ∧ KeepBut w w' g none := by
 have hu25 := Tryz.underlying25
 have HI0 := Aside0.mk hI
 have HK := asd (KeepBut.refl w g none)
 have HL := Aside0.mk hB.size
 clear hI
 have HW0 := Aside0.mk hB.size
 have HB := Aside0.mk hB
 clear hB
 have H : ((some (([(⟨1, 0, 0, 1⟩ : S25), (⟨(-1), 0, 0, (-1)⟩ : S25), (⟨0, (-1), 1, 0⟩ : S25), (⟨0, (-1), 1, 1⟩ : S25), (⟨(-1), (-1), 1, 0⟩ : S25), (⟨1, 0, 0, (-1)⟩ : S25), (⟨0, 1, 1, 0⟩ : S25), (⟨1, 1, 0, (-1)⟩ : S25)] : List (S25)) : List (S25))).bind fun y114 => ((spec_l01Next.f s0_0 s0_1 s0_2 8).bind fun bt117 => (if 0 ≤ bt117.1 then (if bt117.1 < (y114.length : Int) then ((spec_l01Next.f s0_0 bt117.2.1 bt117.2.2 3).bind fun bt122 => (spec_l02DrawFinite.l0 k bt122.1 s0_0 bt122.2.1 bt122.2.2 ((rd_T25 y114 bt117.1).f0) ((rd_T25 y114 bt117.1).f1) ((rd_T25 y114 bt117.1).f2) ((rd_T25 y114 bt117.1).f3))) else (none)) else (none)))) = some (r1, r2, r3, r4, r5, r6) := h
 clear h
 obtain ⟨y114, hy114⟩ : ∃ y_ : List (S25), y_ = (([(⟨1, 0, 0, 1⟩ : S25), (⟨(-1), 0, 0, (-1)⟩ : S25), (⟨0, (-1), 1, 0⟩ : S25), (⟨0, (-1), 1, 1⟩ : S25), (⟨(-1), (-1), 1, 0⟩ : S25), (⟨1, 0, 0, (-1)⟩ : S25), (⟨0, 1, 1, 0⟩ : S25), (⟨1, 1, 0, (-1)⟩ : S25)] : List (S25))) := ⟨_, rfl⟩
 replace H : ((spec_l01Next.f s0_0 s0_1 s0_2 8).bind fun bt117 => (if 0 ≤ bt117.1 then (if bt117.1 < (y114.length : Int) then ((spec_l01Next.f s0_0 bt117.2.1 bt117.2.2 3).bind fun bt122 => (spec_l02DrawFinite.l0 k bt122.1 s0_0 bt122.2.1 bt122.2.2 ((rd_T25 y114 bt117.1).f0) ((rd_T25 y114 bt117.1).f1) ((rd_T25 y114 bt117.1).f2) ((rd_T25 y114 bt117.1).f3))) else (none)) else (none))) = some (r1, r2, r3, r4, r5, r6) := by first | (rw [hy114]; with_reducible exact H) | (have H2_ := (Option.bind_some _ _).symm.trans H; rw [hy114]; with_reducible exact H2_) | (have H2_ := (Option.bind_some _ _).symm.trans H; with_reducible exact H2_) | with_reducible exact H | (rw [hy114]; exact H) | exact H
 have Ny114 := Aside0.mk hy114
 clear hy114
 obtain ⟨⟨t117, t118, t119⟩, A2, H⟩ := ob H
 try dsimp only at H
 by_cases c3 : 0 ≤ t117
 ·rw [if_pos c3] at H
  have c3b0 := decide_eq_true c3
  clear c3
  by_cases c4 : t117 < (y114.length : Int)
  ·rw [if_pos c4] at H
   have c4b0 := decide_eq_true c4
   clear c4
   obtain ⟨⟨t122, t123, t124⟩, A5, H⟩ := ob H
   try dsimp only at H
   have H' := Aside0.mk H
   clear H
   go_enter Tryz.func82, Tryz.ntmps82
   go_wp2_with (first | ((with_reducible refine gd 2 rfl ?_); refine bx #[.int .i64 0, .int .i64 0, .int .i64 0, .int .i64 0] 25 ?_; intro gb113 hg w6 BK113 hb; replace HB := asd (below_step (by repeat (first | (with_reducible first | exact HB.out | apply below_alloc | apply pw_below_drewN | apply below_drew1 | refine below_set ?_ (IsS106.ge HI0.out)) | exact HB.out)) hb); have GW113 := asd ((by rw [hg]; exact (keep_size (w := w) (g := g) (row := none) (by repeat (first | (with_reducible first | exact HK.out | apply KeepBut.set_ | apply keep_drewN | apply keep_drew | apply keep_alloc) | exact HK.out))) : w.heap.size ≤ gb113)); have GE113 := asd ((Nat.le_trans HW0.out (by rw [hg]; exact (keep_size (w := w) (g := g) (row := none) (by repeat (first | (with_reducible first | exact HK.out | apply KeepBut.set_ | apply keep_drewN | apply keep_drew | apply keep_alloc) | exact HK.out))) : w.heap.size ≤ gb113) : w0.heap.size ≤ gb113)); replace HK := asd (KeepBut.trans (by repeat (first | (with_reducible first | exact HK.out | apply KeepBut.set_ | apply keep_drewN | apply keep_drew | apply keep_alloc) | exact HK.out)) (KeepBut.of_below hb g none) (.inl rfl)); have NB0_113 := asd ((by rw [hg]; exact Nat.ne_of_lt (IsS106.lt (show IsS106 w0 _ g s0_0 s0_1 s0_2 from by repeat (first | (with_reducible first | exact HI0.out | apply IsS106.alloc | apply IsS106.drewN | apply IsS106.drew | apply IsS106.set_1 | apply IsS106.set_2) | exact HI0.out))) : g ≠ gb113)); have NB113_0 := asd ((by rw [hg]; exact Nat.ne_of_gt (IsS106.lt (show IsS106 w0 _ g s0_0 s0_1 s0_2 from by repeat (first | (with_reducible first | exact HI0.out | apply IsS106.alloc | apply IsS106.drewN | apply IsS106.drew | apply IsS106.set_1 | apply IsS106.set_2) | exact HI0.out))) : gb113 ≠ g)); replace HI0 := asd (IsS106.below (by repeat (first | (with_reducible first | exact HI0.out | apply IsS106.alloc | apply IsS106.drewN | apply IsS106.drew | apply IsS106.set_1 | apply IsS106.set_2) | exact HI0.out)) hb); clear hb hg) | ((with_reducible refine gd 14 rfl ?_); refine Kd.R_lit k25 _ 25 ?hg (N := 14) ?hd (xs := ([(⟨1, 0, 0, 1⟩ : S25), (⟨(-1), 0, 0, (-1)⟩ : S25), (⟨0, (-1), 1, 0⟩ : S25), (⟨0, (-1), 1, 1⟩ : S25), (⟨(-1), (-1), 1, 0⟩ : S25), (⟨1, 0, 0, (-1)⟩ : S25), (⟨0, 1, 1, 0⟩ : S25), (⟨1, 1, 0, (-1)⟩ : S25)] : List (S25))) (inner := [.int .i64 1, .int .i64 0, .int .i64 0, .int .i64 1, .int .i64 (-1), .int .i64 0, .int .i64 0, .int .i64 (-1), .int .i64 0, .int .i64 (-1), .int .i64 1, .int .i64 0, .int .i64 0, .int .i64 (-1), .int .i64 1, .int .i64 1, .int .i64 (-1), .int .i64 (-1), .int .i64 1, .int .i64 0, .int .i64 1, .int .i64 0, .int .i64 0, .int .i64 (-1), .int .i64 0, .int .i64 1, .int .i64 1, .int .i64 0, .int .i64 1, .int .i64 1, .int .i64 0, .int .i64 (-1)]) (ok := fun _ => True) (okp := fun _ => True) ?hr ?hp (fun _ hk => hk) trivial (Below.refl _ _) (Nat.le_refl _) (by simp) ?_; (case hd => rfl); (case hg => rfl); (case hr => first | (go_simp; done) | (go_simp; rfl)); (case hp => exact (Reps.c4 (show Kd.M k25 _ _ _ (⟨1, 0, 0, 1⟩ : S25) [.int .i64 1, .int .i64 0, .int .i64 0, .int .i64 1] from (k25_mkM _ _ _ (⟨1, 0, 0, 1⟩ : S25) )) (Reps.c4 (show Kd.M k25 _ _ _ (⟨(-1), 0, 0, (-1)⟩ : S25) [.int .i64 (-1), .int .i64 0, .int .i64 0, .int .i64 (-1)] from (k25_mkM _ _ _ (⟨(-1), 0, 0, (-1)⟩ : S25) )) (Reps.c4 (show Kd.M k25 _ _ _ (⟨0, (-1), 1, 0⟩ : S25) [.int .i64 0, .int .i64 (-1), .int .i64 1, .int .i64 0] from (k25_mkM _ _ _ (⟨0, (-1), 1, 0⟩ : S25) )) (Reps.c4 (show Kd.M k25 _ _ _ (⟨0, (-1), 1, 1⟩ : S25) [.int .i64 0, .int .i64 (-1), .int .i64 1, .int .i64 1] from (k25_mkM _ _ _ (⟨0, (-1), 1, 1⟩ : S25) )) (Reps.c4 (show Kd.M k25 _ _ _ (⟨(-1), (-1), 1, 0⟩ : S25) [.int .i64 (-1), .int .i64 (-1), .int .i64 1, .int .i64 0] from (k25_mkM _ _ _ (⟨(-1), (-1), 1, 0⟩ : S25) )) (Reps.c4 (show Kd.M k25 _ _ _ (⟨1, 0, 0, (-1)⟩ : S25) [.int .i64 1, .int .i64 0, .int .i64 0, .int .i64 (-1)] from (k25_mkM _ _ _ (⟨1, 0, 0, (-1)⟩ : S25) )) (Reps.c4 (show Kd.M k25 _ _ _ (⟨0, 1, 1, 0⟩ : S25) [.int .i64 0, .int .i64 1, .int .i64 1, .int .i64 0] from (k25_mkM _ _ _ (⟨0, 1, 1, 0⟩ : S25) )) (Reps.c4 (show Kd.M k25 _ _ _ (⟨1, 1, 0, (-1)⟩ : S25) [.int .i64 1, .int .i64 1, .int .i64 0, .int .i64 (-1)] from (k25_mkM _ _ _ (⟨1, 1, 0, (-1)⟩ : S25) )) (Reps.none _ _)))))))))); intro v115 w7 ho8 hb hg_ hnew_; clear hg_ hnew_; (first | rw [← Ny114.out] at ho8 | (simp only [Int.reduceToNat] at ho8; rw [← Ny114.out] at ho8)); have HO116 := asd (Kd.R_lower (Kd.R_newB ho8 (g := gb113) (o := .cells #[.int .i64 0, .int .i64 0, .int .i64 0, .int .i64 0] 25 (0, 0)) (bkp BK113)) (keep_size (w := w) (g := g) (row := none) (by repeat (first | (with_reducible first | exact HK.out | apply KeepBut.set_ | apply keep_drewN | apply keep_drew | apply keep_alloc | refine keep_far ?_ GW113.out _) | exact HK.out)))); replace BK113 := bB BK113 hb; replace HK := asd (KeepBut.trans (by repeat (first | (with_reducible first | exact HK.out | apply KeepBut.set_ | apply keep_drewN | apply keep_drew | apply keep_alloc | refine keep_far ?_ GW113.out _) | exact HK.out)) (KeepBut.of_below hb g none) (.inl rfl)); replace HB := asd (below_step (by repeat (first | (with_reducible first | exact HB.out | apply below_alloc | apply pw_below_drewN | apply below_drew1 | refine below_set ?_ (IsS106.ge HI0.out) | refine below_set ?_ GE113.out) | exact HB.out)) hb); replace HI0 := asd (IsS106.below (by repeat (first | (with_reducible first | exact HI0.out | apply IsS106.alloc | apply IsS106.drewN | apply IsS106.drew | apply IsS106.set_1 | apply IsS106.set_2 | refine IsS106.far ?_ NB0_113.out _) | exact HI0.out)) hb); clear hb ho8) | ((with_reducible refine gate_callee (f := 45) rfl ?_); refine gl 16 Tryz.func45 #[.pointer (some ⟨g, 0, none⟩), .int .i64 8] ?_; (with_reducible refine (spec_l01Next.calls _ _ _ _ _ _ _ _ w0 _ ?side1 ?side2 A2.out).mono ?_); (case side1 => repeat (first | (with_reducible first | exact HI0.out | apply IsS106.alloc | apply IsS106.drewN | apply IsS106.drew | apply IsS106.set_1 | apply IsS106.set_2 | refine IsS106.far ?_ NB0_113.out _) | exact HI0.out)); (case side2 => repeat (first | (with_reducible first | exact HB.out | apply below_alloc | apply pw_below_drewN | apply below_drew1 | refine below_set ?_ (IsS106.ge HI0.out) | refine below_set ?_ GE113.out) | exact HB.out)); rintro e w9 ⟨rfl, hi, hb, hk⟩; refine ⟨_, rfl, ?_⟩; replace BK113 := asd (KeepBut.blk hk (g' := gb113) (o := .cells #[.int .i64 0, .int .i64 0, .int .i64 0, .int .i64 0] 25 (0, 0)) (bkp BK113) NB113_0.out (by simp)); replace HO116 := asd (Kd.R_mono (Kd.R_keep (IsS106.apart (show IsS106 w0 _ g s0_0 s0_1 s0_2 from by repeat (first | (with_reducible first | exact HI0.out | apply IsS106.alloc | apply IsS106.drewN | apply IsS106.drew | apply IsS106.set_1 | apply IsS106.set_2 | refine IsS106.far ?_ NB0_113.out _) | exact HI0.out)) (kr HO116) (by decide)) hk (fun _ h => h.2)) (fun _ h => h.1)); replace HK := asd (KeepBut.trans (by repeat (first | (with_reducible first | exact HK.out | apply KeepBut.set_ | apply keep_drewN | apply keep_drew | apply keep_alloc | refine keep_far ?_ GW113.out _) | exact HK.out)) hk (.inl rfl)); replace HB := asd (hb); replace HI0 := asd (hi); (try clear hb); (try clear hb2); (try clear hk); (try clear hi); obtain ⟨Ao10, co10, eo10⟩ := Kd.R_slice HO116.out; subst eo10; have p120 : 0 ≤ (t117 : Int) := od; have q120 : t117 < (y114.length : Int) := od; obtain ⟨ad120, e120, hx120_0, hx120_1, hx120_2, hx120_3⟩ := at_T25 (Kd.R_reads' HO116.out).2.2 t117 p120 q120; cases e120; replace p120 := eq_true p120; replace q120 := eq_true q120) | ((with_reducible refine gd 3 rfl ?_); refine bx #[.int .i64 0, .int .i64 0, .int .i64 0, .int .i64 0] 25 ?_; intro gb121 hg w11 BK121 hb; replace HO116 := asd (Kd.R_below (Kd.R_elderB (kr HO116) gb121 (Nat.le_of_eq hg.symm)) hb); replace HB := asd (below_step (by repeat (first | (with_reducible first | exact HB.out | apply below_alloc | apply pw_below_drewN | apply below_drew1 | refine below_set ?_ (IsS106.ge HI0.out) | refine below_set ?_ GE113.out) | exact HB.out)) hb); have GW121 := asd ((by rw [hg]; exact (keep_size (w := w) (g := g) (row := none) (by repeat (first | (with_reducible first | exact HK.out | apply KeepBut.set_ | apply keep_drewN | apply keep_drew | apply keep_alloc | refine keep_far ?_ GW113.out _) | exact HK.out))) : w.heap.size ≤ gb121)); have GE121 := asd ((Nat.le_trans HW0.out (by rw [hg]; exact (keep_size (w := w) (g := g) (row := none) (by repeat (first | (with_reducible first | exact HK.out | apply KeepBut.set_ | apply keep_drewN | apply keep_drew | apply keep_alloc | refine keep_far ?_ GW113.out _) | exact HK.out))) : w.heap.size ≤ gb121) : w0.heap.size ≤ gb121)); replace HK := asd (KeepBut.trans (by repeat (first | (with_reducible first | exact HK.out | apply KeepBut.set_ | apply keep_drewN | apply keep_drew | apply keep_alloc | refine keep_far ?_ GW113.out _) | exact HK.out)) (KeepBut.of_below hb g none) (.inl rfl)); have NB113_121 := nlt hg BK113; have NB121_113 := nsy (nlt hg BK113); replace BK113 := bB BK113 hb; have NB0_121 := asd ((by rw [hg]; exact Nat.ne_of_lt (IsS106.lt (show IsS106 w0 _ g s0_0 t118 t119 from by repeat (first | (with_reducible first | exact HI0.out | apply IsS106.alloc | apply IsS106.drewN | apply IsS106.drew | apply IsS106.set_1 | apply IsS106.set_2 | refine IsS106.far ?_ NB0_113.out _) | exact HI0.out))) : g ≠ gb121)); have NB121_0 := asd ((by rw [hg]; exact Nat.ne_of_gt (IsS106.lt (show IsS106 w0 _ g s0_0 t118 t119 from by repeat (first | (with_reducible first | exact HI0.out | apply IsS106.alloc | apply IsS106.drewN | apply IsS106.drew | apply IsS106.set_1 | apply IsS106.set_2 | refine IsS106.far ?_ NB0_113.out _) | exact HI0.out))) : gb121 ≠ g)); replace HI0 := asd (IsS106.below (by repeat (first | (with_reducible first | exact HI0.out | apply IsS106.alloc | apply IsS106.drewN | apply IsS106.drew | apply IsS106.set_1 | apply IsS106.set_2 | refine IsS106.far ?_ NB0_113.out _) | exact HI0.out)) hb); clear hb hg; have hnb12 := NB121_113.out; have hnc12 := NB113_121.out; have hnb13 := NB121_0.out; have hnc13 := NB0_121.out; obtain ⟨hcz14_0, hcz14_1, hcz14_2, hcz14_3, hfz14_0, hfz14_1, hfz14_2, hfz14_3⟩ := bz4 BK121) | ((with_reducible refine gate_callee (f := 45) rfl ?_); refine gl 20 Tryz.func45 #[.pointer (some ⟨g, 0, none⟩), .int .i64 3] ?_; (with_reducible refine (spec_l01Next.calls _ _ _ _ _ _ _ _ w0 _ ?side1 ?side2 A5.out).mono ?_); (case side1 => repeat (first | (with_reducible first | exact HI0.out | apply IsS106.alloc | apply IsS106.drewN | apply IsS106.drew | apply IsS106.set_1 | apply IsS106.set_2 | refine IsS106.far ?_ NB0_113.out _ | refine IsS106.far ?_ NB0_121.out _) | exact HI0.out)); (case side2 => repeat (first | (with_reducible first | exact HB.out | apply below_alloc | apply pw_below_drewN | apply below_drew1 | refine below_set ?_ (IsS106.ge HI0.out) | refine below_set ?_ GE113.out | refine below_set ?_ GE121.out) | exact HB.out)); rintro e w15 ⟨rfl, hi, hb, hk⟩; refine ⟨_, rfl, ?_⟩; replace BK113 := asd (KeepBut.blk hk (g' := gb113) (o := .cells #[.int .i64 0, .int .i64 0, .int .i64 0, .int .i64 0] 25 (0, 0)) (bq1 BK113 NB113_121) NB113_0.out (by simp)); replace HO116 := asd (Kd.R_mono (Kd.R_keep (IsS106.apart (show IsS106 w0 _ g s0_0 t118 t119 from by repeat (first | (with_reducible first | exact HI0.out | apply IsS106.alloc | apply IsS106.drewN | apply IsS106.drew | apply IsS106.set_1 | apply IsS106.set_2 | refine IsS106.far ?_ NB0_113.out _ | refine IsS106.far ?_ NB0_121.out _) | exact HI0.out)) (by (with_reducible repeat (first | apply Kd.R_alloc | apply Kd.R_drewN | apply Kd.R_drew)); exact (Kd.R_mono (rw4 (Kd.R_mono HO116.out (fun k_ hk => (⟨hk, hk.2⟩ : _ ∧ k_ ≠ gb121)))) (fun _ h_ => h_.1))) (by decide)) hk (fun _ h => h.2)) (fun _ h => h.1)); replace BK121 := asd (KeepBut.blk hk (g' := gb121) (o := .cells #[.int .i64 ((rd_T25 y114 t117).f0), .int .i64 ((rd_T25 y114 t117).f1), .int .i64 ((rd_T25 y114 t117).f2), .int .i64 ((rd_T25 y114 t117).f3)] 25 (0, 0)) (bq0 BK121) NB121_0.out (by simp)); replace HK := asd (KeepBut.trans (by repeat (first | (with_reducible first | exact HK.out | apply KeepBut.set_ | apply keep_drewN | apply keep_drew | apply keep_alloc | refine keep_far ?_ GW113.out _ | refine keep_far ?_ GW121.out _) | exact HK.out)) hk (.inl rfl)); replace HB := asd (hb); replace HI0 := asd (hi); (try clear hb); (try clear hb2); (try clear hk); (try clear hi)))
   go_loopg [4] k (fun kq v4 w' => ∃ (x4_1 : Int) (x1001_1 : Int) (x1002_1 : Int) (x122000_1 : Int) (x122001_1 : Int) (x122002_1 : Int) (x122003_1 : Int), v4 = .int .i64 x4_1 ∧ Aside0 (spec_l02DrawFinite.l0 kq x4_1 s0_0 x1001_1 x1002_1 x122000_1 x122001_1 x122002_1 x122003_1 = some (r1, r2, r3, r4, r5, r6)) ∧ Aside0 (kq ≤ k) ∧ Aside0 (w'.heap[gb113]? = some (.cells #[.int .i64 0, .int .i64 0, .int .i64 0, .int .i64 0] 25 (0, 0))) ∧ Aside0 (w'.heap[gb121]? = some (.cells #[.int .i64 x122000_1, .int .i64 x122001_1, .int .i64 x122002_1, .int .i64 x122003_1] 25 (0, 0))) ∧ Aside0 (IsS106 w0 w' g s0_0 x1001_1 x1002_1) ∧ Aside0 (KeepBut w w' g none) ∧ Aside0 (Below w0.heap.size w0 w'))
   case atStart => exact ⟨(t122), (t123), (t124), ((rd_T25 y114 t117).f0), ((rd_T25 y114 t117).f1), ((rd_T25 y114 t117).f2), ((rd_T25 y114 t117).f3), (by first | rfl | (simp; done) | (simp [*]; done)), H', ⟨Nat.le_refl _⟩, ⟨bkp BK113⟩, ⟨bkp BK121⟩, ⟨by repeat (first | (with_reducible first | exact HI0.out | apply IsS106.alloc | apply IsS106.drewN | apply IsS106.drew | apply IsS106.set_1 | apply IsS106.set_2 | refine IsS106.far ?_ NB0_113.out _ | refine IsS106.far ?_ NB0_121.out _) | exact HI0.out)⟩, ⟨by repeat (first | (with_reducible first | exact HK.out | apply KeepBut.set_ | apply keep_drewN | apply keep_drew | apply keep_alloc | refine keep_far ?_ GW113.out _ | refine keep_far ?_ GW121.out _) | exact HK.out)⟩, ⟨by repeat (first | (with_reducible first | exact HB.out | apply below_alloc | apply pw_below_drewN | apply below_drew1 | refine below_set ?_ (IsS106.ge HI0.out) | refine below_set ?_ GE113.out | refine below_set ?_ GE121.out) | exact HB.out)⟩⟩
   case round =>
    clear H'
    try clear c1
    try clear p1
    try clear q1
    try clear hx1
    try clear p2
    try clear c3
    try clear c3b0
    try clear c4
    try clear c4b0
    try clear c8
    try clear c12
    try clear p12
    try clear q12
    try clear hx12
    try clear c13
    try clear hcz14_0
    try clear hcz14_1
    try clear hcz14_2
    try clear hcz14_3
    try clear hfz14_0
    try clear hfz14_1
    try clear hfz14_2
    try clear hfz14_3
    try clear hx120_0
    try clear hx120_1
    try clear hx120_2
    try clear hx120_3
    try clear p120
    try clear q120
    obtain ⟨x4_1, x1001_1, x1002_1, x122000_1, x122001_1, x122002_1, x122003_1, rfl, HA, HK1, BK113, BK121, HI0, HK, HB⟩ := hrel
    cases gk with
    | zero => exact absurd HA.out (by simp [spec_l02DrawFinite.l0])
    | succ k1 =>
     have H := HA.out
     clear HA
     simp only [spec_l02DrawFinite.l0] at H
     by_cases c16 : x4_1 > 0
     rw [if_pos c16] at H
     have c16b0 : decide (0 < x4_1) = true := decide_eq_true c16
     clear c16
     obtain ⟨⟨t125, t126, t127⟩, A17, H⟩ := ob H
     try dsimp only at H
     obtain ⟨⟨t129, t130, t131⟩, A18, H⟩ := ob H
     try dsimp only at H
     by_cases c19 : t129 = 0
     rw [if_pos c19] at H
     have c19b0 : (t129 == 0) = true := beq_iff_eq.mpr c19
     have c19b1 : (t129 != 0) = false := bne_eq_false_iff_eq.mpr c19
     clear c19
     obtain ⟨⟨t132, t133, t134⟩, A20, H⟩ := ob H
     try dsimp only at H
     obtain ⟨⟨t135, t136, t137, t138⟩, A21, H⟩ := ob H
     try dsimp only at H
     obtain ⟨⟨t139, t140, t141, t142⟩, A22, H⟩ := ob H
     try dsimp only at H
     obtain ⟨⟨t143, t144, t145, t146⟩, A23, H⟩ := ob H
     try dsimp only at H
     have H' := Aside0.mk H
     clear H
     rotate_left
     rw [if_neg c19] at H
     have c19b0 : (t129 == 0) = false := beq_eq_false_iff_ne.mpr c19
     have c19b1 : (t129 != 0) = true := bne_iff_ne.mpr c19
     obtain ⟨⟨t135, t136, t137, t138⟩, A21, H⟩ := ob H
     try dsimp only at H
     obtain ⟨⟨t139, t140, t141, t142⟩, A22, H⟩ := ob H
     try dsimp only at H
     obtain ⟨⟨t155, t156, t157, t158⟩, A23, H⟩ := ob H
     try dsimp only at H
     have H' := Aside0.mk H
     clear H
     rotate_left
     rw [if_neg c16] at H
     have c16b0 : decide (0 < x4_1) = false := decide_eq_false c16
     clear c16
     rotate_left
     rotate_left 2
     ·simp only [Option.some.injEq, Prod.mk.injEq] at H
      obtain ⟨rfl, rfl, rfl, rfl, rfl, rfl⟩ := H
      have hnb60 := NB121_113.out
      have hnc60 := NB113_121.out
      have hnb61 := NB121_0.out
      have hnc61 := NB0_121.out
      obtain ⟨hcz62_0, hcz62_1, hcz62_2, hcz62_3, hfz62_0, hfz62_1, hfz62_2, hfz62_3⟩ := bz4 BK121
      have hnb63 := NB113_0.out
      have hnc63 := NB0_113.out
      obtain ⟨hcz64_0, hcz64_1, hcz64_2, hcz64_3, hfz64_0, hfz64_1, hfz64_2, hfz64_3⟩ := bz4 BK113
      go_wp2
      refine bodyPost_ret (results_cell_row rfl _ _ gb113 25 #[.int .i64 x122000_1, .int .i64 x122001_1, .int .i64 x122002_1, .int .i64 x122003_1] (0, 0) _ rfl (bq0 BK113) Tryz.underlying25 rfl (by kernel_rfl)) rfl ?_
      exact ⟨by first | rfl | (simp [errW_none, errW_some] <;> rfl) | (simp [*, errW_none, errW_some] <;> rfl), by repeat (first | (with_reducible first | exact HI0.out | apply IsS106.alloc | apply IsS106.drewN | apply IsS106.drew | apply IsS106.set_1 | apply IsS106.set_2 | refine IsS106.far ?_ NB0_113.out _ | refine IsS106.far ?_ NB0_121.out _) | exact HI0.out), by repeat (first | (with_reducible first | exact HB.out | apply below_alloc | apply pw_below_drewN | apply below_drew1 | refine below_set ?_ (IsS106.ge HI0.out) | refine below_set ?_ GE113.out | refine below_set ?_ GE121.out) | exact HB.out), by repeat (first | (with_reducible first | exact HK.out | apply KeepBut.set_ | apply keep_drewN | apply keep_drew | apply keep_alloc | refine keep_far ?_ GW113.out _ | refine keep_far ?_ GW121.out _) | exact HK.out)⟩
     all_goals
      try go_wp2_with (first | ((with_reducible refine gate_callee (f := 45) rfl ?_); refine gl 26 Tryz.func45 #[.pointer (some ⟨g, 0, none⟩), .int .i64 5] ?_; (with_reducible refine (spec_l01Next.calls _ _ _ _ _ _ _ _ w0 _ ?side1 ?side2 A17.out).mono ?_); (case side1 => repeat (first | (with_reducible first | exact HI0.out | apply IsS106.alloc | apply IsS106.drewN | apply IsS106.drew | apply IsS106.set_1 | apply IsS106.set_2 | refine IsS106.far ?_ NB0_113.out _ | refine IsS106.far ?_ NB0_121.out _) | exact HI0.out)); (case side2 => repeat (first | (with_reducible first | exact HB.out | apply below_alloc | apply pw_below_drewN | apply below_drew1 | refine below_set ?_ (IsS106.ge HI0.out) | refine below_set ?_ GE113.out | refine below_set ?_ GE121.out) | exact HB.out)); rintro e w24 ⟨rfl, hi, hb, hk⟩; refine ⟨_, rfl, ?_⟩; replace BK113 := asd (KeepBut.blk hk (g' := gb113) (o := .cells #[.int .i64 0, .int .i64 0, .int .i64 0, .int .i64 0] 25 (0, 0)) (bkp BK113) NB113_0.out (by simp)); replace BK121 := asd (KeepBut.blk hk (g' := gb121) (o := .cells #[.int .i64 x122000_1, .int .i64 x122001_1, .int .i64 x122002_1, .int .i64 x122003_1] 25 (0, 0)) (bkp BK121) NB121_0.out (by simp)); replace HK := asd (KeepBut.trans (by repeat (first | (with_reducible first | exact HK.out | apply KeepBut.set_ | apply keep_drewN | apply keep_drew | apply keep_alloc | refine keep_far ?_ GW113.out _ | refine keep_far ?_ GW121.out _) | exact HK.out)) hk (.inl rfl)); replace HB := asd (hb); replace HI0 := asd (hi); (try clear hb); (try clear hb2); (try clear hk); (try clear hi)) | ((with_reducible refine gd 5 rfl ?_); refine bx #[.int .i64 0, .int .i64 0, .int .i64 0, .int .i64 0] 25 ?_; intro gb128 hg w25 BK128 hb; replace HB := asd (below_step (by repeat (first | (with_reducible first | exact HB.out | apply below_alloc | apply pw_below_drewN | apply below_drew1 | refine below_set ?_ (IsS106.ge HI0.out) | refine below_set ?_ GE113.out | refine below_set ?_ GE121.out) | exact HB.out)) hb); have GW128 := asd ((by rw [hg]; exact (keep_size (w := w) (g := g) (row := none) (by repeat (first | (with_reducible first | exact HK.out | apply KeepBut.set_ | apply keep_drewN | apply keep_drew | apply keep_alloc | refine keep_far ?_ GW113.out _ | refine keep_far ?_ GW121.out _) | exact HK.out))) : w.heap.size ≤ gb128)); have GE128 := asd ((Nat.le_trans HW0.out (by rw [hg]; exact (keep_size (w := w) (g := g) (row := none) (by repeat (first | (with_reducible first | exact HK.out | apply KeepBut.set_ | apply keep_drewN | apply keep_drew | apply keep_alloc | refine keep_far ?_ GW113.out _ | refine keep_far ?_ GW121.out _) | exact HK.out))) : w.heap.size ≤ gb128) : w0.heap.size ≤ gb128)); replace HK := asd (KeepBut.trans (by repeat (first | (with_reducible first | exact HK.out | apply KeepBut.set_ | apply keep_drewN | apply keep_drew | apply keep_alloc | refine keep_far ?_ GW113.out _ | refine keep_far ?_ GW121.out _) | exact HK.out)) (KeepBut.of_below hb g none) (.inl rfl)); have NB113_128 := nlt hg BK113; have NB128_113 := nsy (nlt hg BK113); replace BK113 := bB BK113 hb; have NB121_128 := nlt hg BK121; have NB128_121 := nsy (nlt hg BK121); replace BK121 := bB BK121 hb; have NB0_128 := asd ((by rw [hg]; exact Nat.ne_of_lt (IsS106.lt (show IsS106 w0 _ g s0_0 t126 t127 from by repeat (first | (with_reducible first | exact HI0.out | apply IsS106.alloc | apply IsS106.drewN | apply IsS106.drew | apply IsS106.set_1 | apply IsS106.set_2 | refine IsS106.far ?_ NB0_113.out _ | refine IsS106.far ?_ NB0_121.out _) | exact HI0.out))) : g ≠ gb128)); have NB128_0 := asd ((by rw [hg]; exact Nat.ne_of_gt (IsS106.lt (show IsS106 w0 _ g s0_0 t126 t127 from by repeat (first | (with_reducible first | exact HI0.out | apply IsS106.alloc | apply IsS106.drewN | apply IsS106.drew | apply IsS106.set_1 | apply IsS106.set_2 | refine IsS106.far ?_ NB0_113.out _ | refine IsS106.far ?_ NB0_121.out _) | exact HI0.out))) : gb128 ≠ g)); replace HI0 := asd (IsS106.below (by repeat (first | (with_reducible first | exact HI0.out | apply IsS106.alloc | apply IsS106.drewN | apply IsS106.drew | apply IsS106.set_1 | apply IsS106.set_2 | refine IsS106.far ?_ NB0_113.out _ | refine IsS106.far ?_ NB0_121.out _) | exact HI0.out)) hb); clear hb hg; have hnb26 := NB128_113.out; have hnc26 := NB113_128.out; have hnb27 := NB128_121.out; have hnc27 := NB121_128.out; have hnb28 := NB128_0.out; have hnc28 := NB0_128.out; obtain ⟨hcz29_0, hcz29_1, hcz29_2, hcz29_3, hfz29_0, hfz29_1, hfz29_2, hfz29_3⟩ := bz4 BK128) | ((with_reducible refine gate_callee (f := 45) rfl ?_); refine gl 30 Tryz.func45 #[.pointer (some ⟨g, 0, none⟩), .int .i64 2] ?_; (with_reducible refine (spec_l01Next.calls _ _ _ _ _ _ _ _ w0 _ ?side1 ?side2 A18.out).mono ?_); (case side1 => repeat (first | (with_reducible first | exact HI0.out | apply IsS106.alloc | apply IsS106.drewN | apply IsS106.drew | apply IsS106.set_1 | apply IsS106.set_2 | refine IsS106.far ?_ NB0_113.out _ | refine IsS106.far ?_ NB0_121.out _ | refine IsS106.far ?_ NB0_128.out _) | exact HI0.out)); (case side2 => repeat (first | (with_reducible first | exact HB.out | apply below_alloc | apply pw_below_drewN | apply below_drew1 | refine below_set ?_ (IsS106.ge HI0.out) | refine below_set ?_ GE113.out | refine below_set ?_ GE121.out | refine below_set ?_ GE128.out) | exact HB.out)); rintro e w30 ⟨rfl, hi, hb, hk⟩; refine ⟨_, rfl, ?_⟩; replace BK113 := asd (KeepBut.blk hk (g' := gb113) (o := .cells #[.int .i64 0, .int .i64 0, .int .i64 0, .int .i64 0] 25 (0, 0)) (bq1 BK113 NB113_128) NB113_0.out (by simp)); replace BK121 := asd (KeepBut.blk hk (g' := gb121) (o := .cells #[.int .i64 x122000_1, .int .i64 x122001_1, .int .i64 x122002_1, .int .i64 x122003_1] 25 (0, 0)) (bq1 BK121 NB121_128) NB121_0.out (by simp)); replace BK128 := asd (KeepBut.blk hk (g' := gb128) (o := .cells #[.int .i64 1, .int .i64 (wrap64 (t125 - 2)), .int .i64 0, .int .i64 1] 25 (0, 0)) (bq0 BK128) NB128_0.out (by simp)); replace HK := asd (KeepBut.trans (by repeat (first | (with_reducible first | exact HK.out | apply KeepBut.set_ | apply keep_drewN | apply keep_drew | apply keep_alloc | refine keep_far ?_ GW113.out _ | refine keep_far ?_ GW121.out _ | refine keep_far ?_ GW128.out _) | exact HK.out)) hk (.inl rfl)); replace HB := asd (hb); replace HI0 := asd (hi); (try clear hb); (try clear hb2); (try clear hk); (try clear hi)) | ((with_reducible refine gate_callee (f := 45) rfl ?_); refine gl 33 Tryz.func45 #[.pointer (some ⟨g, 0, none⟩), .int .i64 5] ?_; (with_reducible refine (spec_l01Next.calls _ _ _ _ _ _ _ _ w0 _ ?side1 ?side2 A20.out).mono ?_); (case side1 => repeat (first | (with_reducible first | exact HI0.out | apply IsS106.alloc | apply IsS106.drewN | apply IsS106.drew | apply IsS106.set_1 | apply IsS106.set_2 | refine IsS106.far ?_ NB0_113.out _ | refine IsS106.far ?_ NB0_121.out _ | refine IsS106.far ?_ NB0_128.out _) | exact HI0.out)); (case side2 => repeat (first | (with_reducible first | exact HB.out | apply below_alloc | apply pw_below_drewN | apply below_drew1 | refine below_set ?_ (IsS106.ge HI0.out) | refine below_set ?_ GE113.out | refine below_set ?_ GE121.out | refine below_set ?_ GE128.out) | exact HB.out)); rintro e w31 ⟨rfl, hi, hb, hk⟩; refine ⟨_, rfl, ?_⟩; replace BK113 := asd (KeepBut.blk hk (g' := gb113) (o := .cells #[.int .i64 0, .int .i64 0, .int .i64 0, .int .i64 0] 25 (0, 0)) (bkp BK113) NB113_0.out (by simp)); replace BK121 := asd (KeepBut.blk hk (g' := gb121) (o := .cells #[.int .i64 x122000_1, .int .i64 x122001_1, .int .i64 x122002_1, .int .i64 x122003_1] 25 (0, 0)) (bkp BK121) NB121_0.out (by simp)); replace BK128 := asd (KeepBut.blk hk (g' := gb128) (o := .cells #[.int .i64 1, .int .i64 (wrap64 (t125 - 2)), .int .i64 0, .int .i64 1] 25 (0, 0)) (bkp BK128) NB128_0.out (by simp)); replace HK := asd (KeepBut.trans (by repeat (first | (with_reducible first | exact HK.out | apply KeepBut.set_ | apply keep_drewN | apply keep_drew | apply keep_alloc | refine keep_far ?_ GW113.out _ | refine keep_far ?_ GW121.out _ | refine keep_far ?_ GW128.out _) | exact HK.out)) hk (.inl rfl)); replace HB := asd (hb); replace HI0 := asd (hi); (try clear hb); (try clear hb2); (try clear hk); (try clear hi); obtain ⟨hcz32_0, hcz32_1, hcz32_2, hcz32_3, hfz32_0, hfz32_1, hfz32_2, hfz32_3⟩ := bz4 BK128))
     obtain ⟨w33, h_w33⟩ : ∃ w_, ((((w31.setCell ⟨gb128, 0, none⟩ (.int .i64 1)).setCell ⟨gb128, 1, none⟩ (.int .i64 0)).setCell ⟨gb128, 2, none⟩ (.int .i64 (wrap64 (t132 - 2)))).setCell ⟨gb128, 3, none⟩ (.int .i64 1)) = w_ := ⟨_, rfl⟩
     replace BK113 : Aside0 (w33.heap[gb113]? = some (.cells #[.int .i64 0, .int .i64 0, .int .i64 0, .int .i64 0] 25 (0, 0))) := by rw [← h_w33]; exact ⟨bq1 BK113 NB113_128⟩
     replace BK121 : Aside0 (w33.heap[gb121]? = some (.cells #[.int .i64 x122000_1, .int .i64 x122001_1, .int .i64 x122002_1, .int .i64 x122003_1] 25 (0, 0))) := by rw [← h_w33]; exact ⟨bq1 BK121 NB121_128⟩
     replace BK128 : Aside0 (w33.heap[gb128]? = some (.cells #[.int .i64 1, .int .i64 0, .int .i64 (wrap64 (t132 - 2)), .int .i64 1] 25 (0, 0))) := by rw [← h_w33]; exact ⟨bq0 BK128⟩
     replace HK : Aside0 (KeepBut w w33 g none) := by rw [← h_w33]; exact ⟨by repeat (first | (with_reducible first | exact HK.out | apply KeepBut.set_ | apply keep_drewN | apply keep_drew | apply keep_alloc | refine keep_far ?_ GW113.out _ | refine keep_far ?_ GW121.out _ | refine keep_far ?_ GW128.out _) | exact HK.out)⟩
     replace HB : Aside0 (Below w0.heap.size w0 w33) := by rw [← h_w33]; exact ⟨by repeat (first | (with_reducible first | exact HB.out | apply below_alloc | apply pw_below_drewN | apply below_drew1 | refine below_set ?_ (IsS106.ge HI0.out) | refine below_set ?_ GE113.out | refine below_set ?_ GE121.out | refine below_set ?_ GE128.out) | exact HB.out)⟩
     replace HI0 : Aside0 (IsS106 w0 w33 g s0_0 t133 t134) := by rw [← h_w33]; exact ⟨by repeat (first | (with_reducible first | exact HI0.out | apply IsS106.alloc | apply IsS106.drewN | apply IsS106.drew | apply IsS106.set_1 | apply IsS106.set_2 | refine IsS106.far ?_ NB0_113.out _ | refine IsS106.far ?_ NB0_121.out _ | refine IsS106.far ?_ NB0_128.out _) | exact HI0.out)⟩
     (try rw [h_w33]); clear h_w33
     rotate_left 2
     all_goals
      replace BK113 := asd (blk_drew BK113.out)
      replace BK121 := asd (blk_drew BK121.out)
      replace BK128 := asd (blk_drew BK128.out)
      replace HI0 := asd (IsS106.drew HI0.out)
      replace HK := asd (keep_drew HK.out)
      replace HB := asd (below_drew1 HB.out)
     refine start_ (n := 7) (S := fun w' => w'.cell? ⟨gb128, 0, none⟩ = some (.int .i64 1) ∧ w'.cell? ⟨gb128, 1, none⟩ = some (.int .i64 0) ∧ w'.cell? ⟨gb128, 2, none⟩ = some (.int .i64 (wrap64 (t132 - 2))) ∧ w'.cell? ⟨gb128, 3, none⟩ = some (.int .i64 1) ∧ w'.cell? ⟨gb121, 0, none⟩ = some (.int .i64 x122000_1) ∧ w'.cell? ⟨gb121, 1, none⟩ = some (.int .i64 x122001_1) ∧ w'.cell? ⟨gb121, 2, none⟩ = some (.int .i64 x122002_1) ∧ w'.cell? ⟨gb121, 3, none⟩ = some (.int .i64 x122003_1)) (ds := [6]) (bT 7 0) (by kernel_rfl) rfl rfl ⟨bcl BK128 0, bcl BK128 1, bcl BK128 2, bcl BK128 3, bcl BK121 0, bcl BK121 1, bcl BK121 2, bcl BK121 3⟩ (fun hHeld => ?_)
     generalize w33.drew = w34 at BK113 BK121 BK128 HI0 HK HB hHeld ⊢
     rotate_left
     refine start_ (n := 7) (S := fun w' => w'.cell? ⟨gb128, 0, none⟩ = some (.int .i64 1) ∧ w'.cell? ⟨gb128, 1, none⟩ = some (.int .i64 (wrap64 (t125 - 2))) ∧ w'.cell? ⟨gb128, 2, none⟩ = some (.int .i64 0) ∧ w'.cell? ⟨gb128, 3, none⟩ = some (.int .i64 1) ∧ w'.cell? ⟨gb121, 0, none⟩ = some (.int .i64 x122000_1) ∧ w'.cell? ⟨gb121, 1, none⟩ = some (.int .i64 x122001_1) ∧ w'.cell? ⟨gb121, 2, none⟩ = some (.int .i64 x122002_1) ∧ w'.cell? ⟨gb121, 3, none⟩ = some (.int .i64 x122003_1)) (ds := [6]) (bT 7 0) (by kernel_rfl) rfl rfl ⟨bcl BK128 0, bcl BK128 1, bcl BK128 2, bcl BK128 3, bcl BK121 0, bcl BK121 1, bcl BK121 2, bcl BK121 3⟩ (fun hHeld => ?_)
     generalize w30.drew = w52 at BK113 BK121 BK128 HI0 HK HB hHeld ⊢
     rotate_left
     all_goals
      refine take_ (i := 0) (N := some 36) (v := ?_) (a' := ?_) (bT 7 1) rfl rfl (by kernel_rfl) (fun _ _ _ h => h) (Or.inl ⟨by rfl, ?_⟩) hHeld ?_ ?_
      rotate_left
      ·rintro w' ⟨s0, s1, s2, s3, s4, s5, s6, s7⟩
       go_simp
       with_reducible rfl
      rotate_left
      ·simp only [Act.put, sA, sB, sC, i64_w, i32_w]
       rfl
      refine take_ (i := 1) (N := some 37) (v := ?_) (a' := ?_) (bT 7 2) rfl rfl (by kernel_rfl) (fun _ _ _ h => h) (Or.inl ⟨by rfl, ?_⟩) hHeld ?_ ?_
      rotate_left
      ·rintro w' ⟨s0, s1, s2, s3, s4, s5, s6, s7⟩
       go_simp
       with_reducible rfl
      rotate_left
      ·simp only [Act.put, sA, sB, sC, i64_w, i32_w]
       rfl
      refine take_ (i := 3) (N := some 39) (v := ?_) (a' := ?_) (bs 7 11) rfl rfl (by kernel_rfl) (fun _ _ _ h => h) (Or.inl ⟨by rfl, ?_⟩) hHeld ?_ ?_
      rotate_left
      ·rintro w' ⟨s0, s1, s2, s3, s4, s5, s6, s7⟩
       go_simp
       with_reducible rfl
      rotate_left
      ·simp only [Act.put, sA, sB, sC, i64_w, i32_w]
       rfl
      refine one_ (i := 2) (N := some 38) (bT 7 4) rfl rfl (by kernel_rfl) (by decide) (fun K hK => ?_)
     refine gs Tryz.func51 #[.agg #[.int .i64 1, .int .i64 0, .int .i64 (wrap64 (t132 - 2)), .int .i64 1], .agg #[.int .i64 x122000_1, .int .i64 x122001_1, .int .i64 x122002_1, .int .i64 x122003_1]] ?_
     rotate_left
     refine gs Tryz.func51 #[.agg #[.int .i64 1, .int .i64 (wrap64 (t125 - 2)), .int .i64 0, .int .i64 1], .agg #[.int .i64 x122000_1, .int .i64 x122001_1, .int .i64 x122002_1, .int .i64 x122003_1]] ?_
     rotate_left
     all_goals
      with_reducible refine (spec_l02Multiply.calls _ _ _ _ _ _ _ _ _ _ _ _ _ A21.out).mono ?_
      rintro e w35 ⟨rfl, hb⟩
      refine ⟨_, rfl, ?_⟩
      replace BK113 := bB BK113 hb
      replace BK121 := bB BK121 hb
      replace BK128 := bB BK128 hb
      replace HK := asd (KeepBut.trans (by repeat (first | (with_reducible first | exact HK.out | apply KeepBut.set_ | apply keep_drewN | apply keep_drew | apply keep_alloc | refine keep_far ?_ GW113.out _ | refine keep_far ?_ GW121.out _ | refine keep_far ?_ GW128.out _) | exact HK.out)) (KeepBut.of_below hb g none) (.inl rfl))
      replace HB := asd (below_step (by repeat (first | (with_reducible first | exact HB.out | apply below_alloc | apply pw_below_drewN | apply below_drew1 | refine below_set ?_ (IsS106.ge HI0.out) | refine below_set ?_ GE113.out | refine below_set ?_ GE121.out | refine below_set ?_ GE128.out) | exact HB.out)) hb)
      replace HI0 := asd (IsS106.below (by repeat (first | (with_reducible first | exact HI0.out | apply IsS106.alloc | apply IsS106.drewN | apply IsS106.drew | apply IsS106.set_1 | apply IsS106.set_2 | refine IsS106.far ?_ NB0_113.out _ | refine IsS106.far ?_ NB0_121.out _ | refine IsS106.far ?_ NB0_128.out _) | exact HI0.out)) hb)
      (try clear hb)
      (try clear hb2)
      (try clear hk)
      (try clear hi)
      refine hK.out _ _ (cb4 BK128 (eb4 BK121)).out (fun hHeld => ?_)
      clear hK K
      refine norm_ (a' := ?_) ?_ ?_
      rotate_left
      ·show Act.put _ (some 38) _ = _
       simp only [Act.put, sA, sB, sC, i64_w, i32_w]
       rfl
      refine one_ (i := 4) (N := some 40) (bT 7 5) rfl rfl (by kernel_rfl) (by decide) (fun K hK => ?_)
     refine gs Tryz.func123 #[.agg #[.int .i64 1, .int .i64 0, .int .i64 (wrap64 (t132 - 2)), .int .i64 1]] ?_
     rotate_left
     refine gs Tryz.func123 #[.agg #[.int .i64 1, .int .i64 (wrap64 (t125 - 2)), .int .i64 0, .int .i64 1]] ?_
     rotate_left
     all_goals
      with_reducible refine (spec_l02Inverse.calls _ _ _ _ _ _ _ _ _ A22.out).mono ?_
      rintro e w36 ⟨rfl, hb⟩
      refine ⟨_, rfl, ?_⟩
      replace BK113 := bB BK113 hb
      replace BK121 := bB BK121 hb
      replace BK128 := bB BK128 hb
      replace HK := asd (KeepBut.trans (by repeat (first | (with_reducible first | exact HK.out | apply KeepBut.set_ | apply keep_drewN | apply keep_drew | apply keep_alloc | refine keep_far ?_ GW113.out _ | refine keep_far ?_ GW121.out _ | refine keep_far ?_ GW128.out _) | exact HK.out)) (KeepBut.of_below hb g none) (.inl rfl))
      replace HB := asd (below_step (by repeat (first | (with_reducible first | exact HB.out | apply below_alloc | apply pw_below_drewN | apply below_drew1 | refine below_set ?_ (IsS106.ge HI0.out) | refine below_set ?_ GE113.out | refine below_set ?_ GE121.out | refine below_set ?_ GE128.out) | exact HB.out)) hb)
      replace HI0 := asd (IsS106.below (by repeat (first | (with_reducible first | exact HI0.out | apply IsS106.alloc | apply IsS106.drewN | apply IsS106.drew | apply IsS106.set_1 | apply IsS106.set_2 | refine IsS106.far ?_ NB0_113.out _ | refine IsS106.far ?_ NB0_121.out _ | refine IsS106.far ?_ NB0_128.out _) | exact HI0.out)) hb)
      (try clear hb)
      (try clear hb2)
      (try clear hk)
      (try clear hi)
      refine hK.out _ _ (cb4 BK128 (eb4 BK121)).out (fun hHeld => ?_)
      clear hK K
      refine norm_ (a' := ?_) ?_ ?_
      rotate_left
      ·show Act.put _ (some 40) _ = _
       simp only [Act.put, sA, sB, sC, i64_w, i32_w]
       rfl
      refine one_ (i := 5) (N := some 41) (bT 7 6) rfl rfl (by kernel_rfl) (by decide) (fun K hK => ?_)
      refine gs Tryz.func51 #[.agg #[.int .i64 t135, .int .i64 t136, .int .i64 t137, .int .i64 t138], .agg #[.int .i64 t139, .int .i64 t140, .int .i64 t141, .int .i64 t142]] ?_
      with_reducible refine (spec_l02Multiply.calls _ _ _ _ _ _ _ _ _ _ _ _ _ A23.out).mono ?_
      rintro e w37 ⟨rfl, hb⟩
      refine ⟨_, rfl, ?_⟩
      replace BK113 := bB BK113 hb
      replace BK121 := bB BK121 hb
      replace BK128 := bB BK128 hb
      replace HK := asd (KeepBut.trans (by repeat (first | (with_reducible first | exact HK.out | apply KeepBut.set_ | apply keep_drewN | apply keep_drew | apply keep_alloc | refine keep_far ?_ GW113.out _ | refine keep_far ?_ GW121.out _ | refine keep_far ?_ GW128.out _) | exact HK.out)) (KeepBut.of_below hb g none) (.inl rfl))
      replace HB := asd (below_step (by repeat (first | (with_reducible first | exact HB.out | apply below_alloc | apply pw_below_drewN | apply below_drew1 | refine below_set ?_ (IsS106.ge HI0.out) | refine below_set ?_ GE113.out | refine below_set ?_ GE121.out | refine below_set ?_ GE128.out) | exact HB.out)) hb)
      replace HI0 := asd (IsS106.below (by repeat (first | (with_reducible first | exact HI0.out | apply IsS106.alloc | apply IsS106.drewN | apply IsS106.drew | apply IsS106.set_1 | apply IsS106.set_2 | refine IsS106.far ?_ NB0_113.out _ | refine IsS106.far ?_ NB0_121.out _ | refine IsS106.far ?_ NB0_128.out _) | exact HI0.out)) hb)
      (try clear hb)
      (try clear hb2)
      (try clear hk)
      (try clear hi)
      refine hK.out _ _ (cb4 BK128 (eb4 BK121)).out (fun hHeld => ?_)
      clear hK K
      refine norm_ (a' := ?_) ?_ ?_
      rotate_left
      ·show Act.put _ (some 41) _ = _
       simp only [Act.put, sA, sB, sC, i64_w, i32_w]
       rfl
      refine last_ (i := 6) (N := none) (bT 7 7) rfl rfl (by kernel_rfl) (by decide) (fun K hK => ?_)
      have hs38 : w37.cell? ⟨gb121, 0, none⟩ = some (.int .i64 x122000_1) := bcl BK121 0
      have hfs38 := blk_frozen BK121.out 0
      have hns38_0 := NB113_121.out
      have hns38_2 := NB128_121.out
      have hms38_0 := NB121_113.out
      have hms38_2 := NB121_128.out
      have hs39 : w37.cell? ⟨gb121, 1, none⟩ = some (.int .i64 x122001_1) := bcl BK121 1
      have hfs39 := blk_frozen BK121.out 1
      have hns39_0 := NB113_121.out
      have hns39_2 := NB128_121.out
      have hms39_0 := NB121_113.out
      have hms39_2 := NB121_128.out
      have hs40 : w37.cell? ⟨gb121, 2, none⟩ = some (.int .i64 x122002_1) := bcl BK121 2
      have hfs40 := blk_frozen BK121.out 2
      have hns40_0 := NB113_121.out
      have hns40_2 := NB128_121.out
      have hms40_0 := NB121_113.out
      have hms40_2 := NB121_128.out
      have hs41 : w37.cell? ⟨gb121, 3, none⟩ = some (.int .i64 x122003_1) := bcl BK121 3
      have hfs41 := blk_frozen BK121.out 3
      have hns41_0 := NB113_121.out
      have hns41_2 := NB128_121.out
      have hms41_0 := NB121_113.out
      have hms41_2 := NB121_128.out
      refine skip_ (w1 := ?_) (by rfl) rfl ?_ ?_
      rotate_left
      ·go_simp
       rfl
      refine hK.out _ _ ?_
      clear hK K
      refine done_ (by kernel_rfl) ?_
      try go_wp2
      go_roundg k1
      case measure => have := HK1.out; omega
     ·case rel => exact ⟨(wrap64 (x4_1 - 1)), (t133), (t134), (t143), (t144), (t145), (t146), (by first | rfl | (simp; done) | (simp [*]; done)), H', ⟨by have := HK1.out; omega⟩, ⟨bq1 BK113 NB113_121⟩, ⟨bq0 BK121⟩, ⟨by repeat (first | (with_reducible first | exact HI0.out | apply IsS106.alloc | apply IsS106.drewN | apply IsS106.drew | apply IsS106.set_1 | apply IsS106.set_2 | refine IsS106.far ?_ NB0_113.out _ | refine IsS106.far ?_ NB0_121.out _ | refine IsS106.far ?_ NB0_128.out _) | exact HI0.out)⟩, ⟨by repeat (first | (with_reducible first | exact HK.out | apply KeepBut.set_ | apply keep_drewN | apply keep_drew | apply keep_alloc | refine keep_far ?_ GW113.out _ | refine keep_far ?_ GW121.out _ | refine keep_far ?_ GW128.out _) | exact HK.out)⟩, ⟨by repeat (first | (with_reducible first | exact HB.out | apply below_alloc | apply pw_below_drewN | apply below_drew1 | refine below_set ?_ (IsS106.ge HI0.out) | refine below_set ?_ GE113.out | refine below_set ?_ GE121.out | refine below_set ?_ GE128.out) | exact HB.out)⟩⟩
     ·case rel => exact ⟨(wrap64 (x4_1 - 1)), (t130), (t131), (t155), (t156), (t157), (t158), (by first | rfl | (simp; done) | (simp [*]; done)), H', ⟨by have := HK1.out; omega⟩, ⟨bq1 BK113 NB113_121⟩, ⟨bq0 BK121⟩, ⟨by repeat (first | (with_reducible first | exact HI0.out | apply IsS106.alloc | apply IsS106.drewN | apply IsS106.drew | apply IsS106.set_1 | apply IsS106.set_2 | refine IsS106.far ?_ NB0_113.out _ | refine IsS106.far ?_ NB0_121.out _ | refine IsS106.far ?_ NB0_128.out _) | exact HI0.out)⟩, ⟨by repeat (first | (with_reducible first | exact HK.out | apply KeepBut.set_ | apply keep_drewN | apply keep_drew | apply keep_alloc | refine keep_far ?_ GW113.out _ | refine keep_far ?_ GW121.out _ | refine keep_far ?_ GW128.out _) | exact HK.out)⟩, ⟨by repeat (first | (with_reducible first | exact HB.out | apply below_alloc | apply pw_below_drewN | apply below_drew1 | refine below_set ?_ (IsS106.ge HI0.out) | refine below_set ?_ GE113.out | refine below_set ?_ GE121.out | refine below_set ?_ GE128.out) | exact HB.out)⟩⟩
  ·rw [if_neg c4] at H
   exact absurd H (by simp)
 ·rw [if_neg c3] at H
  exact absurd H (by simp)
/-! ### spec_l01Pick: function 95 -/
def spec_l01Pick.f (s0_0 : List Int) (s0_1 : Int) (s0_2 : Int) (l1 : List Int) : Option (Int × Int × Int) := (spec_l01Next.f s0_0 s0_1 s0_2 (l1.length : Int)).bind fun bt159 => (if 0 ≤ bt159.1 then (if bt159.1 < (l1.length : Int) then (some (rd l1 bt159.1, bt159.2.1, bt159.2.2)) else (none)) else (none))
set_option maxHeartbeats 8000000 in
set_option maxRecDepth 100000 in
theorem spec_l01Pick.calls (g : Nat) (s0_0 : List Int) (s0_1 : Int) (s0_2 : Int) (A1 : Option Addr) (c1 : Nat) (l1 : List Int) (r1 : Int) (r2 : Int) (r3 : Int) (w0 w : World) (hI : IsS106 w0 w g s0_0 s0_1 s0_2) (hB : Below w0.heap.size w0 w) (hr1 : Kd.C (Kd.int .i64) w A1 l1.length l1) (hc1 : l1.length ≤ c1) (hf1 : ∀ ad, A1 = some ad → 0 < l1.length → ad.block ≠ g) (h : spec_l01Pick.f s0_0 s0_1 s0_2 l1 = some (r1, r2, r3)) :
  Calls Tryz.prog 95 #[.pointer (some ⟨g, 0, none⟩), .slice A1 l1.length c1] w fun e w' => e = .returned (.int .i64 r1) ∧ IsS106 w0 w' g s0_0 r2 r3 ∧ Below w0.heap.size w0 w' ∧ KeepBut w w' g none := by
 have HR1 := Aside0.mk hr1
 have HC1 := Aside0.mk hc1
 clear hr1 hc1
 have HI0 := Aside0.mk hI
 have HK := asd (KeepBut.refl w g none)
 have HL := Aside0.mk hB.size
 clear hI
 have HW0 := Aside0.mk hB.size
 have HB := Aside0.mk hB
 clear hB
 have H : ((spec_l01Next.f s0_0 s0_1 s0_2 (l1.length : Int)).bind fun bt159 => (if 0 ≤ bt159.1 then (if bt159.1 < (l1.length : Int) then (some (rd l1 bt159.1, bt159.2.1, bt159.2.2)) else (none)) else (none))) = some (r1, r2, r3) := h
 clear h
 obtain ⟨⟨t159, t160, t161⟩, A3, H⟩ := ob H
 try dsimp only at H
 by_cases c4 : 0 ≤ t159
 ·rw [if_pos c4] at H
  have c4b0 := decide_eq_true c4
  clear c4
  by_cases c5 : t159 < (l1.length : Int)
  ·rw [if_pos c5] at H
   have c5b0 := decide_eq_true c5
   clear c5
   simp only [Option.some.injEq, Prod.mk.injEq] at H
   obtain ⟨rfl, rfl, rfl⟩ := H
   go_enter Tryz.func95, Tryz.ntmps95
   go_wp2_with (first | ((with_reducible refine gate_callee (f := 45) rfl ?_); refine gl 9 Tryz.func45 #[.pointer (some ⟨g, 0, none⟩), .int .i64 (l1.length : Int)] ?_; (with_reducible refine (spec_l01Next.calls _ _ _ _ _ _ _ _ w0 _ ?side1 ?side2 A3.out).mono ?_); (case side1 => repeat (first | (with_reducible first | exact HI0.out | apply IsS106.alloc | apply IsS106.drewN | apply IsS106.drew | apply IsS106.set_1 | apply IsS106.set_2) | exact HI0.out)); (case side2 => repeat (first | (with_reducible first | exact HB.out | apply below_alloc | apply pw_below_drewN | apply below_drew1 | refine below_set ?_ (IsS106.ge HI0.out)) | exact HB.out)); rintro e w6 ⟨rfl, hi, hb, hk⟩; refine ⟨_, rfl, ?_⟩; replace HK := asd (KeepBut.trans (by repeat (first | (with_reducible first | exact HK.out | apply KeepBut.set_ | apply keep_drewN | apply keep_drew | apply keep_alloc) | exact HK.out)) hk (.inl rfl)); replace HB := asd (hb); replace HI0 := asd (hi); (try clear hb); (try clear hb2); (try clear hk); (try clear hi); have p162 : 0 ≤ (t159 : Int) := od; have q162 : t159 < (l1.length : Int) := od; obtain ⟨ad162, e162, hx162_0⟩ := Kd.at_int HR1.out t159 p162 q162; cases e162; replace hx162_0 := keep_cell HK.out hx162_0 (by first | (rw [add_block]; exact hf1 _ rfl (by omega)) | exact hf1 _ rfl (by omega) | exact hf1 ad162 rfl (by omega)); replace p162 := eq_true p162; replace q162 := eq_true q162))
   go_ret
   exact ⟨by first | rfl | (simp [errW_none, errW_some] <;> rfl) | (simp [*, errW_none, errW_some] <;> rfl), by repeat (first | (with_reducible first | exact HI0.out | apply IsS106.alloc | apply IsS106.drewN | apply IsS106.drew | apply IsS106.set_1 | apply IsS106.set_2) | exact HI0.out), by repeat (first | (with_reducible first | exact HB.out | apply below_alloc | apply pw_below_drewN | apply below_drew1 | refine below_set ?_ (IsS106.ge HI0.out)) | exact HB.out), by repeat (first | (with_reducible first | exact HK.out | apply KeepBut.set_ | apply keep_drewN | apply keep_drew | apply keep_alloc) | exact HK.out)⟩
  ·rw [if_neg c5] at H
   exact absurd H (by simp)
 ·rw [if_neg c4] at H
  exact absurd H (by simp)

end Go.Proofs.YtnblfcibgokccaaGreatDoor.PA
