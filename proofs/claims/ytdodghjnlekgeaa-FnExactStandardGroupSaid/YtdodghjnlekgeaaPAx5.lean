/- Walks written by program: each Go function that the law reaches comes to the plain function beside it. -/
import Derived.Test.YtdodghjnlekgeaaPAx0
import Derived.Test.YtdodghjnlekgeaaPAx1
import Derived.Test.YtdodghjnlekgeaaPAx2
import Derived.Test.YtdodghjnlekgeaaPAx4
namespace Go.Proofs.Ytdodghjnlekgeaa.PA
open Go.RowKit Go.Proofs.YtdodghjnlekgeaaW.PrintWords Go.Proofs.YtdodghjnlekgeaaW.PrintLast Go.Proofs.YtdodghjnlekgeaaW.PrintMore
attribute [local go_sem] max2_int min2_int max_two min_two max_three min_three max_four min_four   -- for this text's walks alone
set_option linter.unusedVariables false
set_option linter.unusedSimpArgs false

attribute [local go_sem high] eqA37 eqA41
/-! ### spec_l06Has: function 20 -/
def spec_l06Has.f (k : Nat) (l0 : List (S41)) (a1_0 : Int) (a1_1 : Int) (a1_2 : Int) (a1_3 : Int) (a1_4 : Int) (a1_5 : Int) : Option (Bool) := (spec_l06Place.f k l0 a1_0 a1_1 a1_2 a1_3 a1_4 a1_5).bind fun t220 => (if t220 < (l0.length : Int) then (if 0 ≤ t220 then (some ((((rd_T41 l0 t220).f0.f0) == a1_0 && (((rd_T41 l0 t220).f0.f1) == a1_1 && (((rd_T41 l0 t220).f0.f2) == a1_2 && (((rd_T41 l0 t220).f0.f3) == a1_3)))) && ((((rd_T41 l0 t220).f1.f0) == a1_4 && (((rd_T41 l0 t220).f1.f1) == a1_5))))) else (none)) else (some false))
set_option maxHeartbeats 8000000 in
set_option maxRecDepth 100000 in
theorem spec_l06Has.calls (k : Nat) (A0 : Option Addr) (c0 : Nat) (l0 : List (S41)) (a1_0 : Int) (a1_1 : Int) (a1_2 : Int) (a1_3 : Int) (a1_4 : Int) (a1_5 : Int) (r : Bool) (w : World) (hr0 : Kd.C k41 w A0 l0.length l0) (hc0 : l0.length ≤ c0) (h : spec_l06Has.f k l0 a1_0 a1_1 a1_2 a1_3 a1_4 a1_5 = some r) :
  Calls Try.prog 20 #[.slice A0 l0.length c0, .agg #[.int .i64 a1_0, .int .i64 a1_1, .int .i64 a1_2, .int .i64 a1_3, .int .i64 a1_4, .int .i64 a1_5]] w fun e w' => e = .returned (.bool r) ∧ Below w.heap.size w w' := by
 have hu41 := Try.underlying41
 have HR0 := Aside0.mk hr0
 have HC0 := Aside0.mk hc0
 clear hr0 hc0
 have HB := asd (Below.refl w.heap.size w)
 have H : ((spec_l06Place.f k l0 a1_0 a1_1 a1_2 a1_3 a1_4 a1_5).bind fun t220 => (if t220 < (l0.length : Int) then (if 0 ≤ t220 then (some ((((rd_T41 l0 t220).f0.f0) == a1_0 && (((rd_T41 l0 t220).f0.f1) == a1_1 && (((rd_T41 l0 t220).f0.f2) == a1_2 && (((rd_T41 l0 t220).f0.f3) == a1_3)))) && ((((rd_T41 l0 t220).f1.f0) == a1_4 && (((rd_T41 l0 t220).f1.f1) == a1_5))))) else (none)) else (some false))) = some r := h
 clear h
 obtain ⟨t220, A3, H⟩ := ob H
 try dsimp only at H
 by_cases c4 : t220 < (l0.length : Int)
 ·rw [if_pos c4] at H
  have c4b0 := decide_eq_true c4
  clear c4
  by_cases c5 : 0 ≤ t220
  ·rw [if_pos c5] at H
   have c5b0 := decide_eq_true c5
   clear c5
   obtain rfl := Option.some.inj H
   go_enter Try.func20, Try.ntmps20
   go_wp2_with (first | ((with_reducible refine gd 3 rfl ?_); refine bx #[.int .i64 a1_0, .int .i64 a1_1, .int .i64 a1_2, .int .i64 a1_3, .int .i64 a1_4, .int .i64 a1_5] 41 ?_; intro gb219 hg w6 BK219 hb; have GE219 := ngw0 hg HB; replace HB := bS0 HB hb; clear hb hg; obtain ⟨hcz7_0, hcz7_1, hcz7_2, hcz7_3, hcz7_4, hcz7_5, hfz7_0, hfz7_1, hfz7_2, hfz7_3, hfz7_4, hfz7_5⟩ := bz6 BK219) | (go_at_call 34; (with_reducible refine (spec_l06Place.calls _ _ _ _ _ _ _ _ _ _ _ _ ?side1 ?side2 A3.out).mono ?_); (case side1 => exact ks (Kd.C_below HR0.out HB.out)); (case side2 => exact HC0.out); rintro e w8 ⟨rfl, hb⟩; replace BK219 := bB BK219 hb; replace HB := bS1 HB GE219 hb; (try clear hb); obtain ⟨p221, q221, ad221, e221, hx221_0, hx221_1, hx221_2, hx221_3, hx221_4, hx221_5⟩ := at_T41x HR0.out HB t220; cases e221; obtain ⟨hcz9_0, hcz9_1, hcz9_2, hcz9_3, hcz9_4, hcz9_5, hfz9_0, hfz9_1, hfz9_2, hfz9_3, hfz9_4, hfz9_5⟩ := bz6 BK219))
   repeat (go_quiet (first | ((with_reducible refine gd 3 rfl ?_); refine bx #[.int .i64 a1_0, .int .i64 a1_1, .int .i64 a1_2, .int .i64 a1_3, .int .i64 a1_4, .int .i64 a1_5] 41 ?_; intro gb219 hg w6 BK219 hb; have GE219 := ngw0 hg HB; replace HB := bS0 HB hb; clear hb hg; obtain ⟨hcz7_0, hcz7_1, hcz7_2, hcz7_3, hcz7_4, hcz7_5, hfz7_0, hfz7_1, hfz7_2, hfz7_3, hfz7_4, hfz7_5⟩ := bz6 BK219) | (go_at_call 34; (with_reducible refine (spec_l06Place.calls _ _ _ _ _ _ _ _ _ _ _ _ ?side1 ?side2 A3.out).mono ?_); (case side1 => exact ks (Kd.C_below HR0.out HB.out)); (case side2 => exact HC0.out); rintro e w8 ⟨rfl, hb⟩; replace BK219 := bB BK219 hb; replace HB := bS1 HB GE219 hb; (try clear hb); obtain ⟨p221, q221, ad221, e221, hx221_0, hx221_1, hx221_2, hx221_3, hx221_4, hx221_5⟩ := at_T41x HR0.out HB t220; cases e221; obtain ⟨hcz9_0, hcz9_1, hcz9_2, hcz9_3, hcz9_4, hcz9_5, hfz9_0, hfz9_1, hfz9_2, hfz9_3, hfz9_4, hfz9_5⟩ := bz6 BK219)); try go_wp2_with (first | ((with_reducible refine gd 3 rfl ?_); refine bx #[.int .i64 a1_0, .int .i64 a1_1, .int .i64 a1_2, .int .i64 a1_3, .int .i64 a1_4, .int .i64 a1_5] 41 ?_; intro gb219 hg w6 BK219 hb; have GE219 := ngw0 hg HB; replace HB := bS0 HB hb; clear hb hg; obtain ⟨hcz7_0, hcz7_1, hcz7_2, hcz7_3, hcz7_4, hcz7_5, hfz7_0, hfz7_1, hfz7_2, hfz7_3, hfz7_4, hfz7_5⟩ := bz6 BK219) | (go_at_call 34; (with_reducible refine (spec_l06Place.calls _ _ _ _ _ _ _ _ _ _ _ _ ?side1 ?side2 A3.out).mono ?_); (case side1 => exact ks (Kd.C_below HR0.out HB.out)); (case side2 => exact HC0.out); rintro e w8 ⟨rfl, hb⟩; replace BK219 := bB BK219 hb; replace HB := bS1 HB GE219 hb; (try clear hb); obtain ⟨p221, q221, ad221, e221, hx221_0, hx221_1, hx221_2, hx221_3, hx221_4, hx221_5⟩ := at_T41x HR0.out HB t220; cases e221; obtain ⟨hcz9_0, hcz9_1, hcz9_2, hcz9_3, hcz9_4, hcz9_5, hfz9_0, hfz9_1, hfz9_2, hfz9_3, hfz9_4, hfz9_5⟩ := bz6 BK219)))
   go_ret
   exact er (bbw1 HB GE219)
  ·rw [if_neg c5] at H
   exact absurd H (by simp)
 ·rw [if_neg c4] at H
  have c4b0 := decide_eq_false c4
  clear c4
  obtain rfl := Option.some.inj H
  go_enter Try.func20, Try.ntmps20
  go_wp2_with (first | ((with_reducible refine gd 3 rfl ?_); refine bx #[.int .i64 a1_0, .int .i64 a1_1, .int .i64 a1_2, .int .i64 a1_3, .int .i64 a1_4, .int .i64 a1_5] 41 ?_; intro gb219 hg w10 BK219 hb; have GE219 := ngw0 hg HB; replace HB := bS0 HB hb; clear hb hg; obtain ⟨hcz11_0, hcz11_1, hcz11_2, hcz11_3, hcz11_4, hcz11_5, hfz11_0, hfz11_1, hfz11_2, hfz11_3, hfz11_4, hfz11_5⟩ := bz6 BK219) | (go_at_call 34; (with_reducible refine (spec_l06Place.calls _ _ _ _ _ _ _ _ _ _ _ _ ?side1 ?side2 A3.out).mono ?_); (case side1 => exact ks (Kd.C_below HR0.out HB.out)); (case side2 => exact HC0.out); rintro e w12 ⟨rfl, hb⟩; replace BK219 := bB BK219 hb; replace HB := bS1 HB GE219 hb; (try clear hb)))
  repeat (go_quiet (first | ((with_reducible refine gd 3 rfl ?_); refine bx #[.int .i64 a1_0, .int .i64 a1_1, .int .i64 a1_2, .int .i64 a1_3, .int .i64 a1_4, .int .i64 a1_5] 41 ?_; intro gb219 hg w10 BK219 hb; have GE219 := ngw0 hg HB; replace HB := bS0 HB hb; clear hb hg; obtain ⟨hcz11_0, hcz11_1, hcz11_2, hcz11_3, hcz11_4, hcz11_5, hfz11_0, hfz11_1, hfz11_2, hfz11_3, hfz11_4, hfz11_5⟩ := bz6 BK219) | (go_at_call 34; (with_reducible refine (spec_l06Place.calls _ _ _ _ _ _ _ _ _ _ _ _ ?side1 ?side2 A3.out).mono ?_); (case side1 => exact ks (Kd.C_below HR0.out HB.out)); (case side2 => exact HC0.out); rintro e w12 ⟨rfl, hb⟩; replace BK219 := bB BK219 hb; replace HB := bS1 HB GE219 hb; (try clear hb))); try go_wp2_with (first | ((with_reducible refine gd 3 rfl ?_); refine bx #[.int .i64 a1_0, .int .i64 a1_1, .int .i64 a1_2, .int .i64 a1_3, .int .i64 a1_4, .int .i64 a1_5] 41 ?_; intro gb219 hg w10 BK219 hb; have GE219 := ngw0 hg HB; replace HB := bS0 HB hb; clear hb hg; obtain ⟨hcz11_0, hcz11_1, hcz11_2, hcz11_3, hcz11_4, hcz11_5, hfz11_0, hfz11_1, hfz11_2, hfz11_3, hfz11_4, hfz11_5⟩ := bz6 BK219) | (go_at_call 34; (with_reducible refine (spec_l06Place.calls _ _ _ _ _ _ _ _ _ _ _ _ ?side1 ?side2 A3.out).mono ?_); (case side1 => exact ks (Kd.C_below HR0.out HB.out)); (case side2 => exact HC0.out); rintro e w12 ⟨rfl, hb⟩; replace BK219 := bB BK219 hb; replace HB := bS1 HB GE219 hb; (try clear hb))))
  go_ret
  exact er (bbw1 HB GE219)
/-! ### spec_l06Insert: function 21 -/
def spec_l06Insert.T4 : Bool × List (List Nat × List Nat) := (true, [([], []), ([], []), ([], []), ([1, 2], [1, 2]), ([0, 3], [0, 3]), ([], []), ([5], [5]), ([4, 6, 4], [4, 6]), ([], []), ([], []), ([8, 9], [8, 9]), ([7, 10, 7], [7, 10]), ([11, 11, 0, 1, 2, 3, 4, 5, 6, 7, 8, 9, 10, 11], [11])])
def spec_l06Insert.B4 : List Nat := [0, 0, 0, 6, 15, 0, 32, 127, 0, 0, 768, 2047, 4095]
theorem spec_l06Insert.tab4 : rtab .any (opsOf Try.f21 4) = spec_l06Insert.T4 := by kernel_rfl
theorem spec_l06Insert.bits4 : waitsOk spec_l06Insert.T4.2 spec_l06Insert.B4 = true := by kernel_rfl
section
variable {P : Program} {ops : Array Oper} {o : Oper} {a : Act} {Q : Exit → Act → World → Prop} {Kc : Act → World → Prop}
theorem spec_l06Insert.lit1 {W : World} (hw : Region.wanted o (yielded ops a.tmps) = true) {N : Tmp} (_hd : o.dst = some N) {cs : Array Value} {t : TypeId}
  (hrun : (execOp a.eval o).run P W = .ok (.value (.slice (some ⟨W.heap.size, 0, none⟩) 1 1)) (W.alloc (.cells cs t (0, 0))))
  (h : ∀ g, g = W.heap.size → ∀ w1, w1.heap[g]? = some (.cells cs t (0, 0)) → Below W.heap.size W w1 → Kc (a.put o.dst (.slice (some ⟨g, 0, none⟩) 1 1)) w1) : if Region.wanted o (yielded ops a.tmps) = true then Oper.wp P o a W Kc Q else Kc (a.put o.dst undef) W :=
 event_step hw hrun (h _ rfl _ (blk_new W _) (below_alloc (Below.refl _ _) _))
end
theorem spec_l06Insert.row1 {W : World} {g : Nat} {x : S41} {fr : Nat × Nat} (h : W.heap[g]? = some (.cells #[.int .i64 x.f0.f0, .int .i64 x.f0.f1, .int .i64 x.f0.f2, .int .i64 x.f0.f3, .int .i64 x.f1.f0, .int .i64 x.f1.f1] 41 fr)) : ReadsRow (k41.K W) k41.sz W (some ⟨g, 0, none⟩) 1 [x] := by
 refine ⟨rfl, by decide, fun _ => ⟨⟨g, 0, none⟩, rfl, fun j p hp => ?_⟩⟩
 cases j with
 | succ j => simp at hp
 | zero =>
  obtain rfl : x = p := by simpa using hp
  refine ⟨_, rfl, k41_mk W x, fun i u hu => ?_⟩
  have e : (⟨g, 0, none⟩ : Addr).add (0 * k41.sz + i) = ⟨g, i, none⟩ := by
   unfold Addr.add
   split <;> simp_all
  rw [e, cell_of_row W g i _ 41 fr h]
  simpa using hu
theorem spec_l06Insert.cutH (A : Option Addr) (n c : Nat) (t : Int) (h0 : 0 ≤ t) (h : t.toNat ≤ c) : ∀ W : World, (Instr.slice 24 (.slice A n c) none (some (.int .i64 t)) none).run Try.prog W = .ok (.slice A t.toNat c) W := by
 intro W
 have hel : Try.prog.elem 24 = 41 := by simp [Program.elem, Try.underlying24]
 have hu : Try.prog.underlying 24 = some (.slice (Try.prog.elem 24)) := by rw [hel]; exact Try.underlying24
 rw [run_slice_h W 24 A n c hu .i64 t h0 (by omega), hel]
 have e : (A.map fun x => x.add 0) = A := by cases A <;> simp [Addr.add]
 simp only [Try.sizeOf41, Result.andThen, sliced, Int.toNat_natCast, Nat.zero_mul, Nat.sub_zero, e]
 split <;> rfl
theorem spec_l06Insert.cutL (A : Option Addr) (n c : Nat) (t : Int) (h0 : 0 ≤ t) (h : t.toNat ≤ n) (hc : n ≤ c) : ∀ W : World, (Instr.slice 24 (.slice A n c) (some (.int .i64 t)) none none).run Try.prog W = .ok (.slice (if c = t.toNat then A else A.map (·.add (t.toNat * 6))) (n - t.toNat) (c - t.toNat)) W := by
 intro W
 have hel : Try.prog.elem 24 = 41 := by simp [Program.elem, Try.underlying24]
 have hu : Try.prog.underlying 24 = some (.slice (Try.prog.elem 24)) := by rw [hel]; exact Try.underlying24
 rw [run_slice_l W 24 A n c hu .i64 t h0 (by omega), hel]
 simp only [Try.sizeOf41, Result.andThen, sliced, Int.toNat_natCast]
/-- What an insert makes of a list: at place t. -/
def spec_l06Insert.eqB (x y : S41) : Bool := ((x.f0.f0 == y.f0.f0 && (x.f0.f1 == y.f0.f1 && (x.f0.f2 == y.f0.f2 && (x.f0.f3 == y.f0.f3)))) && ((x.f1.f0 == y.f1.f0 && (x.f1.f1 == y.f1.f1))))
def spec_l06Insert.at (l : List S41) (x : S41) (t : Nat) : List S41 := if (decide (t < l.length) && spec_l06Insert.eqB (rd_T41 l (t : Int)) x) = true then l else l.take t ++ [x] ++ l.drop t
set_option maxHeartbeats 8000000 in
set_option maxRecDepth 100000 in
theorem spec_l06Insert.calls (k : Nat) (l0 : List S41) (a1_0 a1_1 a1_2 a1_3 a1_4 a1_5 : Int) (t333 : Int) (h0 : 0 ≤ t333) (ht : t333.toNat ≤ l0.length) (hl : l0.length < 2932031007402) (hP : spec_l06Place.f k l0 a1_0 a1_1 a1_2 a1_3 a1_4 a1_5 = some t333) (w : World) (base : Nat) (ok : Nat → Prop) (v : Value) (HR : Kd.R k41 41 w base ok v l0) (hbase : base ≤ w.heap.size) (hfresh : ∀ q, w.heap.size ≤ q → ok q) :
  Calls Try.prog 21 #[v, .agg #[.int .i64 a1_0, .int .i64 a1_1, .int .i64 a1_2, .int .i64 a1_3, .int .i64 a1_4, .int .i64 a1_5]] w fun e w' => ∃ v1, e = .returned v1 ∧ Kd.R k41 41 w' base ok v1 (spec_l06Insert.at l0 (⟨(⟨a1_0, a1_1, a1_2, a1_3⟩ : S37), (⟨a1_4, a1_5⟩ : S39)⟩ : S41) t333.toNat) ∧ Below w.heap.size w w' ∧ (v1.ownBlock = v.ownBlock ∨ ∃ b, v1.ownBlock = some b ∧ w.heap.size ≤ b) := by
 have hu41 := Try.underlying41
 obtain ⟨A0, c0, rfl⟩ := Kd.R_slice HR
 obtain ⟨_, hc0, hr0⟩ := Kd.R_reads' HR
 have HR0 := Aside0.mk hr0
 have HC0 := Aside0.mk hc0
 have A3 := Aside0.mk hP
 have HRO := Aside0.mk HR
 have HB := asd (Below.refl w.heap.size w)
 clear HR
 have reads : (∀ W, Below w.heap.size w W → ReadsRow (k41.K W) k41.sz W A0 t333.toNat (l0.take t333.toNat)) ∧ (∀ W, Below w.heap.size w W → ReadsRow (k41.K W) k41.sz W (if c0 = t333.toNat then A0 else A0.map (·.add (t333.toNat * 6))) (l0.length - t333.toNat) (l0.drop t333.toNat)) := by
  refine ⟨fun W hb => ?_, fun W hb => ?_⟩
  ·have := Kd.C_take (Kd.C_below hr0 hb) ht
   rwa [show (l0.take t333.toNat).length = t333.toNat by rw [List.length_take]; omega] at this
  ·have := Kd.C_drop (Kd.C_below hr0 hb) ht hc0
   rwa [show (l0.drop t333.toNat).length = l0.length - t333.toNat from List.length_drop] at this
 have cuth := spec_l06Insert.cutH A0 l0.length c0 t333 h0 (by omega)
 have cutl := spec_l06Insert.cutL A0 l0.length c0 t333 h0 ht hc0
 generalize (if c0 = t333.toNat then A0 else A0.map (·.add (t333.toNat * 6))) = AD at reads cutl
 have lm : l0.length ≤ 2932031007402 := by omega
 have fin : spec_l06Insert.at l0 (⟨(⟨a1_0, a1_1, a1_2, a1_3⟩ : S37), (⟨a1_4, a1_5⟩ : S39)⟩ : S41) t333.toNat = l0.take t333.toNat ++ [(⟨(⟨a1_0, a1_1, a1_2, a1_3⟩ : S37), (⟨a1_4, a1_5⟩ : S39)⟩ : S41)] ++ l0.drop t333.toNat → ∀ v1 W, Kd.R k41 41 W w.heap.size (fun q => True) v1 ([] ++ l0.take t333.toNat ++ [(⟨(⟨a1_0, a1_1, a1_2, a1_3⟩ : S37), (⟨a1_4, a1_5⟩ : S39)⟩ : S41)] ++ l0.drop t333.toNat) → Below w.heap.size w W → ∃ v2, Ending.returned v1 = .returned v2 ∧ Kd.R k41 41 W base ok v2 (spec_l06Insert.at l0 (⟨(⟨a1_0, a1_1, a1_2, a1_3⟩ : S37), (⟨a1_4, a1_5⟩ : S39)⟩ : S41) t333.toNat) ∧ Below w.heap.size w W ∧ (v2.ownBlock = (Value.slice A0 l0.length c0).ownBlock ∨ ∃ b, v2.ownBlock = some b ∧ w.heap.size ≤ b) := by
  intro he v1 W h1 h2
  refine ⟨v1, rfl, ?_, h2, ?_⟩
  ·rw [he]
   exact Kd.R_lower (Kd.R_mono (Kd.R_bound h1) (fun q hq => hfresh q hq.2.1)) hbase
  ·obtain ⟨A1, c1, rfl⟩ := Kd.R_slice h1
   cases A1 with
   | none =>
    exfalso
    obtain ⟨_, _, hr⟩ := Kd.R_reads' h1
    obtain ⟨ad, e, _⟩ := hr.2.2 (by simp only [List.length_append, List.length_cons]; omega)
    cases e
   | some ad =>
    right
    refine ⟨ad.block, rfl, ?_⟩
    exact ((Kd.R_bound h1).1 ad.block rfl).2.1
 clear hr0 hc0 hP hfresh
 by_cases c4 : t333 < (l0.length : Int)
 ·have c4b0 : decide (t333 < (l0.length : Int)) = true := decide_eq_true c4
  clear c4
  have c5b0 : decide (0 ≤ t333) = true := decide_eq_true h0
  by_cases c6 : ((((rd_T41 l0 t333).f0.f0) == a1_0 && (((rd_T41 l0 t333).f0.f1) == a1_1 && (((rd_T41 l0 t333).f0.f2) == a1_2 && (((rd_T41 l0 t333).f0.f3) == a1_3)))) && ((((rd_T41 l0 t333).f1.f0) == a1_4 && (((rd_T41 l0 t333).f1.f1) == a1_5)))) = true
  ·have c6b0 : ((((rd_T41 l0 t333).f0.f0) == a1_0 && (((rd_T41 l0 t333).f0.f1) == a1_1 && (((rd_T41 l0 t333).f0.f2) == a1_2 && (((rd_T41 l0 t333).f0.f3) == a1_3)))) && ((((rd_T41 l0 t333).f1.f0) == a1_4 && (((rd_T41 l0 t333).f1.f1) == a1_5)))) = true := c6
   have he : spec_l06Insert.at l0 (⟨(⟨a1_0, a1_1, a1_2, a1_3⟩ : S37), (⟨a1_4, a1_5⟩ : S39)⟩ : S41) t333.toNat = l0 := by unfold spec_l06Insert.at; rw [Int.toNat_of_nonneg h0, if_pos (by unfold spec_l06Insert.eqB; rw [Bool.and_eq_true]; exact ⟨decide_eq_true (by have := of_decide_eq_true c4b0; omega), c6b0⟩)]
   clear c6 cuth cutl reads fin lm
   rw [he]
   clear he
   go_enter Try.func21, Try.ntmps21
   go_wp2_with (first | ((with_reducible refine gd 3 rfl ?_); refine bx #[.int .i64 a1_0, .int .i64 a1_1, .int .i64 a1_2, .int .i64 a1_3, .int .i64 a1_4, .int .i64 a1_5] 41 ?_; intro gb332 hg w7 BK332 hb; have GE332 := ngw0 hg HB; replace HB := bS0 HB hb; clear hb hg; obtain ⟨hcz8_0, hcz8_1, hcz8_2, hcz8_3, hcz8_4, hcz8_5, hfz8_0, hfz8_1, hfz8_2, hfz8_3, hfz8_4, hfz8_5⟩ := bz6 BK332) | (go_at_call 34; (with_reducible refine (spec_l06Place.calls _ _ _ _ _ _ _ _ _ _ _ _ ?side1 ?side2 A3.out).mono ?_); (case side1 => exact ks (Kd.C_below HR0.out HB.out)); (case side2 => exact HC0.out); rintro e w9 ⟨rfl, hb⟩; replace BK332 := bB BK332 hb; replace HB := bS1 HB GE332 hb; (try clear hb); obtain ⟨p334, q334, ad334, e334, hx334_0, hx334_1, hx334_2, hx334_3, hx334_4, hx334_5⟩ := at_T41x HR0.out HB t333; cases e334; obtain ⟨hcz10_0, hcz10_1, hcz10_2, hcz10_3, hcz10_4, hcz10_5, hfz10_0, hfz10_1, hfz10_2, hfz10_3, hfz10_4, hfz10_5⟩ := bz6 BK332))
   repeat (go_quiet (first | ((with_reducible refine gd 3 rfl ?_); refine bx #[.int .i64 a1_0, .int .i64 a1_1, .int .i64 a1_2, .int .i64 a1_3, .int .i64 a1_4, .int .i64 a1_5] 41 ?_; intro gb332 hg w7 BK332 hb; have GE332 := ngw0 hg HB; replace HB := bS0 HB hb; clear hb hg; obtain ⟨hcz8_0, hcz8_1, hcz8_2, hcz8_3, hcz8_4, hcz8_5, hfz8_0, hfz8_1, hfz8_2, hfz8_3, hfz8_4, hfz8_5⟩ := bz6 BK332) | (go_at_call 34; (with_reducible refine (spec_l06Place.calls _ _ _ _ _ _ _ _ _ _ _ _ ?side1 ?side2 A3.out).mono ?_); (case side1 => exact ks (Kd.C_below HR0.out HB.out)); (case side2 => exact HC0.out); rintro e w9 ⟨rfl, hb⟩; replace BK332 := bB BK332 hb; replace HB := bS1 HB GE332 hb; (try clear hb); obtain ⟨p334, q334, ad334, e334, hx334_0, hx334_1, hx334_2, hx334_3, hx334_4, hx334_5⟩ := at_T41x HR0.out HB t333; cases e334; obtain ⟨hcz10_0, hcz10_1, hcz10_2, hcz10_3, hcz10_4, hcz10_5, hfz10_0, hfz10_1, hfz10_2, hfz10_3, hfz10_4, hfz10_5⟩ := bz6 BK332)); try go_wp2_with (first | ((with_reducible refine gd 3 rfl ?_); refine bx #[.int .i64 a1_0, .int .i64 a1_1, .int .i64 a1_2, .int .i64 a1_3, .int .i64 a1_4, .int .i64 a1_5] 41 ?_; intro gb332 hg w7 BK332 hb; have GE332 := ngw0 hg HB; replace HB := bS0 HB hb; clear hb hg; obtain ⟨hcz8_0, hcz8_1, hcz8_2, hcz8_3, hcz8_4, hcz8_5, hfz8_0, hfz8_1, hfz8_2, hfz8_3, hfz8_4, hfz8_5⟩ := bz6 BK332) | (go_at_call 34; (with_reducible refine (spec_l06Place.calls _ _ _ _ _ _ _ _ _ _ _ _ ?side1 ?side2 A3.out).mono ?_); (case side1 => exact ks (Kd.C_below HR0.out HB.out)); (case side2 => exact HC0.out); rintro e w9 ⟨rfl, hb⟩; replace BK332 := bB BK332 hb; replace HB := bS1 HB GE332 hb; (try clear hb); obtain ⟨p334, q334, ad334, e334, hx334_0, hx334_1, hx334_2, hx334_3, hx334_4, hx334_5⟩ := at_T41x HR0.out HB t333; cases e334; obtain ⟨hcz10_0, hcz10_1, hcz10_2, hcz10_3, hcz10_4, hcz10_5, hfz10_0, hfz10_1, hfz10_2, hfz10_3, hfz10_4, hfz10_5⟩ := bz6 BK332)))
   go_ret
   exact ⟨_, rfl, Kd.R_below HRO.out (pw_below_drewN HB.out nq), pw_below_drewN HB.out nq, Or.inl rfl⟩
  ·have c6b0 : ((((rd_T41 l0 t333).f0.f0) == a1_0 && (((rd_T41 l0 t333).f0.f1) == a1_1 && (((rd_T41 l0 t333).f0.f2) == a1_2 && (((rd_T41 l0 t333).f0.f3) == a1_3)))) && ((((rd_T41 l0 t333).f1.f0) == a1_4 && (((rd_T41 l0 t333).f1.f1) == a1_5)))) = false := by simpa using c6
   have he : spec_l06Insert.at l0 (⟨(⟨a1_0, a1_1, a1_2, a1_3⟩ : S37), (⟨a1_4, a1_5⟩ : S39)⟩ : S41) t333.toNat = l0.take t333.toNat ++ [(⟨(⟨a1_0, a1_1, a1_2, a1_3⟩ : S37), (⟨a1_4, a1_5⟩ : S39)⟩ : S41)] ++ l0.drop t333.toNat := by unfold spec_l06Insert.at; rw [Int.toNat_of_nonneg h0, if_neg (by unfold spec_l06Insert.eqB; rw [Bool.and_eq_true]; rintro ⟨_, h⟩; exact Bool.noConfusion (c6b0.symm.trans h))]
   replace fin := fin he
   clear c6 he
   go_enter Try.func21, Try.ntmps21
   go_wp2_with (first | ((with_reducible refine gd 3 rfl ?_); refine bx #[.int .i64 a1_0, .int .i64 a1_1, .int .i64 a1_2, .int .i64 a1_3, .int .i64 a1_4, .int .i64 a1_5] 41 ?_; intro gb332 hg w11 BK332 hb; have GE332 := ngw0 hg HB; replace HB := bS0 HB hb; clear hb hg; obtain ⟨hcz12_0, hcz12_1, hcz12_2, hcz12_3, hcz12_4, hcz12_5, hfz12_0, hfz12_1, hfz12_2, hfz12_3, hfz12_4, hfz12_5⟩ := bz6 BK332) | (go_at_call 34; (with_reducible refine (spec_l06Place.calls _ _ _ _ _ _ _ _ _ _ _ _ ?side1 ?side2 A3.out).mono ?_); (case side1 => exact ks (Kd.C_below HR0.out HB.out)); (case side2 => exact HC0.out); rintro e w13 ⟨rfl, hb⟩; replace BK332 := bB BK332 hb; replace HB := bS1 HB GE332 hb; (try clear hb); obtain ⟨p334, q334, ad334, e334, hx334_0, hx334_1, hx334_2, hx334_3, hx334_4, hx334_5⟩ := at_T41x HR0.out HB t333; cases e334; obtain ⟨hcz14_0, hcz14_1, hcz14_2, hcz14_3, hcz14_4, hcz14_5, hfz14_0, hfz14_1, hfz14_2, hfz14_3, hfz14_4, hfz14_5⟩ := bz6 BK332))
   repeat (go_quiet (first | ((with_reducible refine gd 3 rfl ?_); refine bx #[.int .i64 a1_0, .int .i64 a1_1, .int .i64 a1_2, .int .i64 a1_3, .int .i64 a1_4, .int .i64 a1_5] 41 ?_; intro gb332 hg w11 BK332 hb; have GE332 := ngw0 hg HB; replace HB := bS0 HB hb; clear hb hg; obtain ⟨hcz12_0, hcz12_1, hcz12_2, hcz12_3, hcz12_4, hcz12_5, hfz12_0, hfz12_1, hfz12_2, hfz12_3, hfz12_4, hfz12_5⟩ := bz6 BK332) | (go_at_call 34; (with_reducible refine (spec_l06Place.calls _ _ _ _ _ _ _ _ _ _ _ _ ?side1 ?side2 A3.out).mono ?_); (case side1 => exact ks (Kd.C_below HR0.out HB.out)); (case side2 => exact HC0.out); rintro e w13 ⟨rfl, hb⟩; replace BK332 := bB BK332 hb; replace HB := bS1 HB GE332 hb; (try clear hb); obtain ⟨p334, q334, ad334, e334, hx334_0, hx334_1, hx334_2, hx334_3, hx334_4, hx334_5⟩ := at_T41x HR0.out HB t333; cases e334; obtain ⟨hcz14_0, hcz14_1, hcz14_2, hcz14_3, hcz14_4, hcz14_5, hfz14_0, hfz14_1, hfz14_2, hfz14_3, hfz14_4, hfz14_5⟩ := bz6 BK332)); try go_wp2_with (first | ((with_reducible refine gd 3 rfl ?_); refine bx #[.int .i64 a1_0, .int .i64 a1_1, .int .i64 a1_2, .int .i64 a1_3, .int .i64 a1_4, .int .i64 a1_5] 41 ?_; intro gb332 hg w11 BK332 hb; have GE332 := ngw0 hg HB; replace HB := bS0 HB hb; clear hb hg; obtain ⟨hcz12_0, hcz12_1, hcz12_2, hcz12_3, hcz12_4, hcz12_5, hfz12_0, hfz12_1, hfz12_2, hfz12_3, hfz12_4, hfz12_5⟩ := bz6 BK332) | (go_at_call 34; (with_reducible refine (spec_l06Place.calls _ _ _ _ _ _ _ _ _ _ _ _ ?side1 ?side2 A3.out).mono ?_); (case side1 => exact ks (Kd.C_below HR0.out HB.out)); (case side2 => exact HC0.out); rintro e w13 ⟨rfl, hb⟩; replace BK332 := bB BK332 hb; replace HB := bS1 HB GE332 hb; (try clear hb); obtain ⟨p334, q334, ad334, e334, hx334_0, hx334_1, hx334_2, hx334_3, hx334_4, hx334_5⟩ := at_T41x HR0.out HB t333; cases e334; obtain ⟨hcz14_0, hcz14_1, hcz14_2, hcz14_3, hcz14_4, hcz14_5, hfz14_0, hfz14_1, hfz14_2, hfz14_3, hfz14_4, hfz14_5⟩ := bz6 BK332)))
   obtain ⟨rt, rd_⟩ := reads
   refine start_ (n := 13) (S := fun w' => w'.cell? ⟨gb332, 0, none⟩ = some (.int .i64 a1_0) ∧ w'.cell? ⟨gb332, 1, none⟩ = some (.int .i64 a1_1) ∧ w'.cell? ⟨gb332, 2, none⟩ = some (.int .i64 a1_2) ∧ w'.cell? ⟨gb332, 3, none⟩ = some (.int .i64 a1_3) ∧ w'.cell? ⟨gb332, 4, none⟩ = some (.int .i64 a1_4) ∧ w'.cell? ⟨gb332, 5, none⟩ = some (.int .i64 a1_5)) (ds := []) (bT 13 0) (by kernel_rfl) rfl rfl ⟨(blk_cell (blk_drew (blk_drewN BK332.out nq)) 0).trans rfl, (blk_cell (blk_drew (blk_drewN BK332.out nq)) 1).trans rfl, (blk_cell (blk_drew (blk_drewN BK332.out nq)) 2).trans rfl, (blk_cell (blk_drew (blk_drewN BK332.out nq)) 3).trans rfl, (blk_cell (blk_drew (blk_drewN BK332.out nq)) 4).trans rfl, (blk_cell (blk_drew (blk_drewN BK332.out nq)) 5).trans rfl⟩ (fun hHeld => ?_)
   refine with_tabW spec_l06Insert.tab4 spec_l06Insert.bits4 (fun HT_ HW_ => ?_)
   have n0_ := asd (blk_drew (blk_drewN BK332.out nq))
   have n1_ := asd (below_drew (pw_below_drewN HB.out nq))
   clear BK332 HB
   have BK332 := n0_
   have HB := n1_
   clear n0_ n1_
   generalize (World.drewN _ nq).drew = w41 at BK332 HB hHeld ⊢
   refine pure_ (i := 1) (N := some 23) (v := ?_) (a' := ?_) (bs 13 2) rfl rfl (any_of HT_.out (by kernel_rfl)) (fun _ _ _ h => h) (Or.inl ⟨by rfl, ?_⟩) ?_ ?_
   rotate_left
   ·intro w'
    go_simp; with_reducible rfl
   rotate_left
   ·simp only [Act.put, sA, sB, sC, i64_w, i32_w]
    rfl
   refine pure_ (i := 2) (N := some 24) (v := ?_) (a' := ?_) (bs 13 6) rfl rfl (any_of HT_.out (by kernel_rfl)) (fun _ _ _ h => h) (Or.inl ⟨by rfl, ?_⟩) ?_ ?_
   rotate_left
   ·intro w'
    go_simp; with_reducible rfl
   rotate_left
   ·simp only [Act.put, sA, sB, sC, i64_w, i32_w]
    rfl
   refine pure_ (i := 3) (N := some 25) (v := ?_) (a' := ?_) (bs 13 14) rfl rfl (any_of HT_.out (by kernel_rfl)) (fun _ _ _ h => h) (Or.inl ⟨by rfl, ?_⟩) ?_ ?_
   rotate_left
   ·intro w'
    go_simp; with_reducible rfl
   rotate_left
   ·simp only [Act.put, sA, sB, sC, i64_w, i32_w]
    rfl
   refine ta 5 (some 27) (bs 13 46) HT_ HW_ hHeld ?_
   refine pure_ (i := 8) (N := some 30) (v := ?_) (a' := ?_) (bs 13 302) rfl rfl (any_of HT_.out (by kernel_rfl)) (fun _ _ _ h => h) (Or.inl ⟨by rfl, ?_⟩) ?_ ?_
   rotate_left
   ·intro w'
    go_simp; with_reducible rfl
   rotate_left
   ·simp only [Act.put, sA, sB, sC, i64_w, i32_w]
    rfl
   refine pure_ (i := 9) (N := some 31) (v := ?_) (a' := ?_) (bs 13 814) rfl rfl (any_of HT_.out (by kernel_rfl)) (fun _ _ _ h => h) (Or.inl ⟨by rfl, ?_⟩) ?_ ?_
   rotate_left
   ·intro w'
    go_simp; with_reducible rfl
   rotate_left
   ·simp only [Act.put, sA, sB, sC, i64_w, i32_w]
    rfl
   refine pure_ (i := 10) (N := some 32) (v := ?_) (a' := ?_) (bs 13 1838) rfl rfl (any_of HT_.out (by kernel_rfl)) (fun _ _ _ h => h) (Or.inl ⟨by rfl, ?_⟩) ?_ ?_
   rotate_left
   ·intro w'
    go_simp; with_reducible rfl
   rotate_left
   ·simp only [Act.put, sA, sB, sC, i64_w, i32_w]
    rfl
   refine two_ (i := 0) (j := 6) (Ni := some 22) (Nj := some 28) (bs 13 1839) #[false, true, true, true, false, true, true, false, true, true, true, false, false] rfl rfl rfl rfl (two_of HT_.out (by kernel_rfl)) (by decide) (by decide) ?_ ?_
   ·intro K hK
    refine Kd.R_lit_step k41 (w0 := w) w.heap.size 41 (by rfl) (N := 22) rfl (xs := ([] : List S41)) (inner := []) (ok := (fun k_ => k_ ≠ gb332)) (okp := fun _ => False) (by first | (go_simp; done) | (go_simp; rfl)) ⟨rfl, fun j p hp => by cases hp⟩ (fun _ h => h.elim) (Nat.ne_of_gt (blk_lt BK332.out)) HB.out (below_size HB.out) (by decide) ?_
    intro v22 w1 ho hb hg hat
    have n0_ := asd (blk_grown BK332.out hg (by simp))
    have n2_ := Aside0.mk hb
    have n3_ := Aside0.mk ho
    clear BK332 HB ho hb hg hat
    have BK332 := n0_
    have HB := n2_
    have HO := n3_
    clear n0_ n2_ n3_
    refine hK.out _ _ ⟨bcl BK332 0, bcl BK332 1, bcl BK332 2, bcl BK332 3, bcl BK332 4, bcl BK332 5⟩ (fun hHeld => ?_)
    clear hK K
    refine norm_ (a' := ?_) ?_ ?_
    rotate_left
    ·show Act.put _ (some 22) _ = _
     simp only [Act.put, sA, sB, sC, i64_w, i32_w]
     rfl
    refine two_ (i := 4) (j := 6) (Ni := some 26) (Nj := some 28) (bs 13 1855) #[true, true, true, true, false, true, true, false, true, true, true, false, false] rfl rfl rfl rfl (two_of HT_.out (by kernel_rfl)) (by decide) (by decide) ?_ ?_
    ·intro K hK
     refine Kd.R_append_rows_step k41 (Rr := k41.K _) (w0 := w) w.heap.size (by rfl) (.tmp 22) (.tmp 25) 24 41 (.agg #[(.int .i64 0), (.int .i64 0), (.int .i64 0), (.int .i64 0), (.int .i64 0), (.int .i64 0)]) 48 rfl Try.underlying24 info41 rfl (by decide) (by omega) v22 [] (l0.take t333.toNat) _ _ _ (fun k_ => k_ ≠ gb332) (fun _ => False) rfl rfl HO.out (rt _ HB.out) (fun x cs h => by obtain rfl := k41_open h; exact k41_mkM _ _ _ x) (fun _ hk => hk.elim) (fun k_ hk => (by have := blk_lt BK332.out; omega)) HB.out (below_size HB.out) (by simp only [List.nil_append, List.length_append, List.length_nil, List.length_cons, List.length_take, List.length_drop]; omega) ?_
     intro v26 w1 ho hb hg hat
     have n0_ := asd (blk_grown BK332.out hg (Kd.R_away HO.out (fun _ h => h)))
     have n2_ := Aside0.mk hb
     have n3_ := Aside0.mk ho
     clear BK332 HB ho hb hg hat HO
     have BK332 := n0_
     have HB := n2_
     have HO := n3_
     clear n0_ n2_ n3_
     refine hK.out _ _ ⟨bcl BK332 0, bcl BK332 1, bcl BK332 2, bcl BK332 3, bcl BK332 4, bcl BK332 5⟩ (fun hHeld => ?_)
     clear hK K
     refine norm_ (a' := ?_) ?_ ?_
     rotate_left
     ·show Act.put _ (some 26) _ = _
      simp only [Act.put, sA, sB, sC, i64_w, i32_w]
      rfl
     refine ro 6 (some 28) (bs 13 1919) HT_ (fun K hK => ?_)
     refine spec_l06Insert.lit1 (by rfl) (N := 28) rfl (cs := #[.int .i64 a1_0, .int .i64 a1_1, .int .i64 a1_2, .int .i64 a1_3, .int .i64 a1_4, .int .i64 a1_5]) (t := 41) (by first | (go_simp; done) | (go_simp; rfl)) ?_
     intro gb6 hg6 w1 hbox hb
     have n3_ := asd (Kd.R_below (Kd.R_mono (Kd.R_elderB HO.out gb6 (Nat.le_of_eq hg6.symm)) (fun _ h => h) : Kd.R k41 41 _ w.heap.size (fun k_ => k_ ≠ gb332 ∧ k_ ≠ gb6) _ _) hb)
     have n0_ := asd (blk_below BK332.out hb)
     have n1_ := asd (below_step HB.out hb)
     have n2_ := Aside0.mk hbox
     have GE6 := asd (by have := blk_lt BK332.out; omega : gb332 ≠ gb6)
     clear BK332 HB hbox hb hg6 HO
     have BK332 := n0_
     have HB := n1_
     have BK6 := n2_
     have HO := n3_
     clear n3_
     clear n0_ n1_ n2_
     refine hK.out _ _ ⟨bcl BK332 0, bcl BK332 1, bcl BK332 2, bcl BK332 3, bcl BK332 4, bcl BK332 5⟩ (fun hHeld => ?_)
     clear hK K
     refine norm_ (a' := ?_) ?_ ?_
     rotate_left
     ·show Act.put _ (some 28) _ = _
      simp only [Act.put, sA, sB, sC, i64_w, i32_w]
      rfl
     refine ro 7 (some 29) (bT 13 11) HT_ (fun K hK => ?_)
     refine Kd.R_append_rows_step k41 (Rr := k41.K _) (w0 := w) w.heap.size (by rfl) (.tmp 26) (.tmp 28) 24 41 (.agg #[(.int .i64 0), (.int .i64 0), (.int .i64 0), (.int .i64 0), (.int .i64 0), (.int .i64 0)]) 48 rfl Try.underlying24 info41 rfl (by decide) (by omega) v26 ([] ++ l0.take t333.toNat) [(⟨(⟨a1_0, a1_1, a1_2, a1_3⟩ : S37), (⟨a1_4, a1_5⟩ : S39)⟩ : S41)] _ _ _ (fun k_ => k_ ≠ gb332 ∧ k_ ≠ gb6) (fun _ => False) rfl rfl HO.out (spec_l06Insert.row1 BK6.out) (fun x cs h => by obtain rfl := k41_open h; exact k41_mkM _ _ _ x) (fun _ hk => hk.elim) (fun k_ hk => ⟨by have := blk_lt BK332.out; omega, by have := blk_lt BK6.out; omega⟩) HB.out (below_size HB.out) (by simp only [List.nil_append, List.length_append, List.length_nil, List.length_cons, List.length_take, List.length_drop]; omega) ?_
     intro v29 w1 ho hb hg hat
     have n0_ := asd (blk_grown BK332.out hg (Kd.R_away HO.out (fun _ h => h.1)))
     have n1_ := asd (blk_grown BK6.out hg (Kd.R_away HO.out (fun _ h => h.2)))
     have n2_ := Aside0.mk hb
     have n3_ := Aside0.mk ho
     clear BK332 HB ho hb hg hat BK6 HO
     have BK332 := n0_
     have HB := n2_
     have HO := n3_
     have BK6 := n1_
     clear n1_
     clear n0_ n2_ n3_
     refine hK.out _ _ ⟨bcl BK332 0, bcl BK332 1, bcl BK332 2, bcl BK332 3, bcl BK332 4, bcl BK332 5⟩ (fun hHeld => ?_)
     clear hK K
     refine norm_ (a' := ?_) ?_ ?_
     rotate_left
     ·show Act.put _ (some 29) _ = _
      simp only [Act.put, sA, sB, sC, i64_w, i32_w]
      rfl
     refine ro 11 (some 33) (bT 13 12) HT_ (fun K hK => ?_)
     refine Kd.R_append_rows_step k41 (Rr := k41.K _) (w0 := w) w.heap.size (by rfl) (.tmp 29) (.tmp 32) 24 41 (.agg #[(.int .i64 0), (.int .i64 0), (.int .i64 0), (.int .i64 0), (.int .i64 0), (.int .i64 0)]) 48 rfl Try.underlying24 info41 rfl (by decide) (by omega) v29 ([] ++ l0.take t333.toNat ++ [(⟨(⟨a1_0, a1_1, a1_2, a1_3⟩ : S37), (⟨a1_4, a1_5⟩ : S39)⟩ : S41)]) (l0.drop t333.toNat) _ _ _ (fun k_ => k_ ≠ gb332 ∧ k_ ≠ gb6) (fun _ => False) rfl rfl HO.out (rd_ _ HB.out) (fun x cs h => by obtain rfl := k41_open h; exact k41_mkM _ _ _ x) (fun _ hk => hk.elim) (fun k_ hk => ⟨by have := blk_lt BK332.out; omega, by have := blk_lt BK6.out; omega⟩) HB.out (below_size HB.out) (by simp only [List.nil_append, List.length_append, List.length_nil, List.length_cons, List.length_take, List.length_drop]; omega) ?_
     intro v33 w1 ho hb hg hat
     have n0_ := asd (blk_grown BK332.out hg (Kd.R_away HO.out (fun _ h => h.1)))
     have n1_ := asd (blk_grown BK6.out hg (Kd.R_away HO.out (fun _ h => h.2)))
     have n2_ := Aside0.mk hb
     have n3_ := Aside0.mk ho
     clear BK332 HB ho hb hg hat BK6 HO
     have BK332 := n0_
     have HB := n2_
     have HO := n3_
     have BK6 := n1_
     clear n1_
     clear n0_ n2_ n3_
     refine hK.out _ _ ⟨bcl BK332 0, bcl BK332 1, bcl BK332 2, bcl BK332 3, bcl BK332 4, bcl BK332 5⟩ (fun hHeld => ?_)
     clear hK K
     refine norm_ (a' := ?_) ?_ ?_
     rotate_left
     ·show Act.put _ (some 33) _ = _
      simp only [Act.put, sA, sB, sC, i64_w, i32_w]
      rfl
     refine pure_ (i := 12) (N := some 4) (v := ?_) (a' := ?_) (bT 13 13) rfl rfl (any_of HT_.out (by kernel_rfl)) (fun _ _ _ h => h) (Or.inl ⟨by rfl, ?_⟩) ?_ ?_
     rotate_left
     ·intro w'
      go_simp; with_reducible rfl
     rotate_left
     ·simp only [Act.put, sA, sB, sC, i64_w, i32_w]
      rfl
     refine done_ (done_of HT_.out (by kernel_rfl)) ?_
     try go_wp2
     all_goals (go_ret; obtain ⟨v2, he2, h2⟩ := fin _ _ (Kd.R_mono HO.out (fun _ _ => trivial)) HB.out; cases he2; exact ⟨_, rfl, h2⟩)
    ·intro K hK
     refine spec_l06Insert.lit1 (by rfl) (N := 28) rfl (cs := #[.int .i64 a1_0, .int .i64 a1_1, .int .i64 a1_2, .int .i64 a1_3, .int .i64 a1_4, .int .i64 a1_5]) (t := 41) (by first | (go_simp; done) | (go_simp; rfl)) ?_
     intro gb6 hg6 w1 hbox hb
     have n3_ := asd (Kd.R_below (Kd.R_mono (Kd.R_elderB HO.out gb6 (Nat.le_of_eq hg6.symm)) (fun _ h => h) : Kd.R k41 41 _ w.heap.size (fun k_ => k_ ≠ gb332 ∧ k_ ≠ gb6) _ _) hb)
     have n0_ := asd (blk_below BK332.out hb)
     have n1_ := asd (below_step HB.out hb)
     have n2_ := Aside0.mk hbox
     have GE6 := asd (by have := blk_lt BK332.out; omega : gb332 ≠ gb6)
     clear BK332 HB hbox hb hg6 HO
     have BK332 := n0_
     have HB := n1_
     have BK6 := n2_
     have HO := n3_
     clear n3_
     clear n0_ n1_ n2_
     refine hK.out _ _ ⟨bcl BK332 0, bcl BK332 1, bcl BK332 2, bcl BK332 3, bcl BK332 4, bcl BK332 5⟩ (fun hHeld => ?_)
     clear hK K
     refine norm_ (a' := ?_) ?_ ?_
     rotate_left
     ·show Act.put _ (some 28) _ = _
      simp only [Act.put, sA, sB, sC, i64_w, i32_w]
      rfl
     refine ro 4 (some 26) (bs 13 1919) HT_ (fun K hK => ?_)
     refine Kd.R_append_rows_step k41 (Rr := k41.K _) (w0 := w) w.heap.size (by rfl) (.tmp 22) (.tmp 25) 24 41 (.agg #[(.int .i64 0), (.int .i64 0), (.int .i64 0), (.int .i64 0), (.int .i64 0), (.int .i64 0)]) 48 rfl Try.underlying24 info41 rfl (by decide) (by omega) v22 [] (l0.take t333.toNat) _ _ _ (fun k_ => k_ ≠ gb332 ∧ k_ ≠ gb6) (fun _ => False) rfl rfl HO.out (rt _ HB.out) (fun x cs h => by obtain rfl := k41_open h; exact k41_mkM _ _ _ x) (fun _ hk => hk.elim) (fun k_ hk => ⟨by have := blk_lt BK332.out; omega, by have := blk_lt BK6.out; omega⟩) HB.out (below_size HB.out) (by simp only [List.nil_append, List.length_append, List.length_nil, List.length_cons, List.length_take, List.length_drop]; omega) ?_
     intro v26 w1 ho hb hg hat
     have n0_ := asd (blk_grown BK332.out hg (Kd.R_away HO.out (fun _ h => h.1)))
     have n1_ := asd (blk_grown BK6.out hg (Kd.R_away HO.out (fun _ h => h.2)))
     have n2_ := Aside0.mk hb
     have n3_ := Aside0.mk ho
     clear BK332 HB ho hb hg hat BK6 HO
     have BK332 := n0_
     have HB := n2_
     have HO := n3_
     have BK6 := n1_
     clear n1_
     clear n0_ n2_ n3_
     refine hK.out _ _ ⟨bcl BK332 0, bcl BK332 1, bcl BK332 2, bcl BK332 3, bcl BK332 4, bcl BK332 5⟩ (fun hHeld => ?_)
     clear hK K
     refine norm_ (a' := ?_) ?_ ?_
     rotate_left
     ·show Act.put _ (some 26) _ = _
      simp only [Act.put, sA, sB, sC, i64_w, i32_w]
      rfl
     refine ro 7 (some 29) (bT 13 11) HT_ (fun K hK => ?_)
     refine Kd.R_append_rows_step k41 (Rr := k41.K _) (w0 := w) w.heap.size (by rfl) (.tmp 26) (.tmp 28) 24 41 (.agg #[(.int .i64 0), (.int .i64 0), (.int .i64 0), (.int .i64 0), (.int .i64 0), (.int .i64 0)]) 48 rfl Try.underlying24 info41 rfl (by decide) (by omega) v26 ([] ++ l0.take t333.toNat) [(⟨(⟨a1_0, a1_1, a1_2, a1_3⟩ : S37), (⟨a1_4, a1_5⟩ : S39)⟩ : S41)] _ _ _ (fun k_ => k_ ≠ gb332 ∧ k_ ≠ gb6) (fun _ => False) rfl rfl HO.out (spec_l06Insert.row1 BK6.out) (fun x cs h => by obtain rfl := k41_open h; exact k41_mkM _ _ _ x) (fun _ hk => hk.elim) (fun k_ hk => ⟨by have := blk_lt BK332.out; omega, by have := blk_lt BK6.out; omega⟩) HB.out (below_size HB.out) (by simp only [List.nil_append, List.length_append, List.length_nil, List.length_cons, List.length_take, List.length_drop]; omega) ?_
     intro v29 w1 ho hb hg hat
     have n0_ := asd (blk_grown BK332.out hg (Kd.R_away HO.out (fun _ h => h.1)))
     have n1_ := asd (blk_grown BK6.out hg (Kd.R_away HO.out (fun _ h => h.2)))
     have n2_ := Aside0.mk hb
     have n3_ := Aside0.mk ho
     clear BK332 HB ho hb hg hat BK6 HO
     have BK332 := n0_
     have HB := n2_
     have HO := n3_
     have BK6 := n1_
     clear n1_
     clear n0_ n2_ n3_
     refine hK.out _ _ ⟨bcl BK332 0, bcl BK332 1, bcl BK332 2, bcl BK332 3, bcl BK332 4, bcl BK332 5⟩ (fun hHeld => ?_)
     clear hK K
     refine norm_ (a' := ?_) ?_ ?_
     rotate_left
     ·show Act.put _ (some 29) _ = _
      simp only [Act.put, sA, sB, sC, i64_w, i32_w]
      rfl
     refine ro 11 (some 33) (bT 13 12) HT_ (fun K hK => ?_)
     refine Kd.R_append_rows_step k41 (Rr := k41.K _) (w0 := w) w.heap.size (by rfl) (.tmp 29) (.tmp 32) 24 41 (.agg #[(.int .i64 0), (.int .i64 0), (.int .i64 0), (.int .i64 0), (.int .i64 0), (.int .i64 0)]) 48 rfl Try.underlying24 info41 rfl (by decide) (by omega) v29 ([] ++ l0.take t333.toNat ++ [(⟨(⟨a1_0, a1_1, a1_2, a1_3⟩ : S37), (⟨a1_4, a1_5⟩ : S39)⟩ : S41)]) (l0.drop t333.toNat) _ _ _ (fun k_ => k_ ≠ gb332 ∧ k_ ≠ gb6) (fun _ => False) rfl rfl HO.out (rd_ _ HB.out) (fun x cs h => by obtain rfl := k41_open h; exact k41_mkM _ _ _ x) (fun _ hk => hk.elim) (fun k_ hk => ⟨by have := blk_lt BK332.out; omega, by have := blk_lt BK6.out; omega⟩) HB.out (below_size HB.out) (by simp only [List.nil_append, List.length_append, List.length_nil, List.length_cons, List.length_take, List.length_drop]; omega) ?_
     intro v33 w1 ho hb hg hat
     have n0_ := asd (blk_grown BK332.out hg (Kd.R_away HO.out (fun _ h => h.1)))
     have n1_ := asd (blk_grown BK6.out hg (Kd.R_away HO.out (fun _ h => h.2)))
     have n2_ := Aside0.mk hb
     have n3_ := Aside0.mk ho
     clear BK332 HB ho hb hg hat BK6 HO
     have BK332 := n0_
     have HB := n2_
     have HO := n3_
     have BK6 := n1_
     clear n1_
     clear n0_ n2_ n3_
     refine hK.out _ _ ⟨bcl BK332 0, bcl BK332 1, bcl BK332 2, bcl BK332 3, bcl BK332 4, bcl BK332 5⟩ (fun hHeld => ?_)
     clear hK K
     refine norm_ (a' := ?_) ?_ ?_
     rotate_left
     ·show Act.put _ (some 33) _ = _
      simp only [Act.put, sA, sB, sC, i64_w, i32_w]
      rfl
     refine pure_ (i := 12) (N := some 4) (v := ?_) (a' := ?_) (bT 13 13) rfl rfl (any_of HT_.out (by kernel_rfl)) (fun _ _ _ h => h) (Or.inl ⟨by rfl, ?_⟩) ?_ ?_
     rotate_left
     ·intro w'
      go_simp; with_reducible rfl
     rotate_left
     ·simp only [Act.put, sA, sB, sC, i64_w, i32_w]
      rfl
     refine done_ (done_of HT_.out (by kernel_rfl)) ?_
     try go_wp2
     all_goals (go_ret; obtain ⟨v2, he2, h2⟩ := fin _ _ (Kd.R_mono HO.out (fun _ _ => trivial)) HB.out; cases he2; exact ⟨_, rfl, h2⟩)
   ·intro K hK
    refine spec_l06Insert.lit1 (by rfl) (N := 28) rfl (cs := #[.int .i64 a1_0, .int .i64 a1_1, .int .i64 a1_2, .int .i64 a1_3, .int .i64 a1_4, .int .i64 a1_5]) (t := 41) (by first | (go_simp; done) | (go_simp; rfl)) ?_
    intro gb6 hg6 w1 hbox hb
    have n0_ := asd (blk_below BK332.out hb)
    have n1_ := asd (below_step HB.out hb)
    have n2_ := Aside0.mk hbox
    have GE6 := asd (by have := blk_lt BK332.out; omega : gb332 ≠ gb6)
    clear BK332 HB hbox hb hg6
    have BK332 := n0_
    have HB := n1_
    have BK6 := n2_
    clear n0_ n1_ n2_
    refine hK.out _ _ ⟨bcl BK332 0, bcl BK332 1, bcl BK332 2, bcl BK332 3, bcl BK332 4, bcl BK332 5⟩ (fun hHeld => ?_)
    clear hK K
    refine norm_ (a' := ?_) ?_ ?_
    rotate_left
    ·show Act.put _ (some 28) _ = _
     simp only [Act.put, sA, sB, sC, i64_w, i32_w]
     rfl
    refine ro 0 (some 22) (bs 13 1903) HT_ (fun K hK => ?_)
    refine Kd.R_lit_step k41 (w0 := w) w.heap.size 41 (by rfl) (N := 22) rfl (xs := ([] : List S41)) (inner := []) (ok := (fun k_ => k_ ≠ gb332 ∧ k_ ≠ gb6)) (okp := fun _ => False) (by first | (go_simp; done) | (go_simp; rfl)) ⟨rfl, fun j p hp => by cases hp⟩ (fun _ h => h.elim) (by have h1 := blk_lt BK332.out; have h2 := blk_lt BK6.out; exact ⟨Nat.ne_of_gt h1, Nat.ne_of_gt h2⟩) HB.out (below_size HB.out) (by decide) ?_
    intro v22 w1 ho hb hg hat
    have n0_ := asd (blk_grown BK332.out hg (by simp))
    have n1_ := asd (blk_grown BK6.out hg (by simp))
    have n2_ := Aside0.mk hb
    have n3_ := Aside0.mk ho
    clear BK332 HB ho hb hg hat BK6
    have BK332 := n0_
    have HB := n2_
    have HO := n3_
    have BK6 := n1_
    clear n1_
    clear n0_ n2_ n3_
    refine hK.out _ _ ⟨bcl BK332 0, bcl BK332 1, bcl BK332 2, bcl BK332 3, bcl BK332 4, bcl BK332 5⟩ (fun hHeld => ?_)
    clear hK K
    refine norm_ (a' := ?_) ?_ ?_
    rotate_left
    ·show Act.put _ (some 22) _ = _
     simp only [Act.put, sA, sB, sC, i64_w, i32_w]
     rfl
    refine ro 4 (some 26) (bs 13 1919) HT_ (fun K hK => ?_)
    refine Kd.R_append_rows_step k41 (Rr := k41.K _) (w0 := w) w.heap.size (by rfl) (.tmp 22) (.tmp 25) 24 41 (.agg #[(.int .i64 0), (.int .i64 0), (.int .i64 0), (.int .i64 0), (.int .i64 0), (.int .i64 0)]) 48 rfl Try.underlying24 info41 rfl (by decide) (by omega) v22 [] (l0.take t333.toNat) _ _ _ (fun k_ => k_ ≠ gb332 ∧ k_ ≠ gb6) (fun _ => False) rfl rfl HO.out (rt _ HB.out) (fun x cs h => by obtain rfl := k41_open h; exact k41_mkM _ _ _ x) (fun _ hk => hk.elim) (fun k_ hk => ⟨by have := blk_lt BK332.out; omega, by have := blk_lt BK6.out; omega⟩) HB.out (below_size HB.out) (by simp only [List.nil_append, List.length_append, List.length_nil, List.length_cons, List.length_take, List.length_drop]; omega) ?_
    intro v26 w1 ho hb hg hat
    have n0_ := asd (blk_grown BK332.out hg (Kd.R_away HO.out (fun _ h => h.1)))
    have n1_ := asd (blk_grown BK6.out hg (Kd.R_away HO.out (fun _ h => h.2)))
    have n2_ := Aside0.mk hb
    have n3_ := Aside0.mk ho
    clear BK332 HB ho hb hg hat BK6 HO
    have BK332 := n0_
    have HB := n2_
    have HO := n3_
    have BK6 := n1_
    clear n1_
    clear n0_ n2_ n3_
    refine hK.out _ _ ⟨bcl BK332 0, bcl BK332 1, bcl BK332 2, bcl BK332 3, bcl BK332 4, bcl BK332 5⟩ (fun hHeld => ?_)
    clear hK K
    refine norm_ (a' := ?_) ?_ ?_
    rotate_left
    ·show Act.put _ (some 26) _ = _
     simp only [Act.put, sA, sB, sC, i64_w, i32_w]
     rfl
    refine ro 7 (some 29) (bT 13 11) HT_ (fun K hK => ?_)
    refine Kd.R_append_rows_step k41 (Rr := k41.K _) (w0 := w) w.heap.size (by rfl) (.tmp 26) (.tmp 28) 24 41 (.agg #[(.int .i64 0), (.int .i64 0), (.int .i64 0), (.int .i64 0), (.int .i64 0), (.int .i64 0)]) 48 rfl Try.underlying24 info41 rfl (by decide) (by omega) v26 ([] ++ l0.take t333.toNat) [(⟨(⟨a1_0, a1_1, a1_2, a1_3⟩ : S37), (⟨a1_4, a1_5⟩ : S39)⟩ : S41)] _ _ _ (fun k_ => k_ ≠ gb332 ∧ k_ ≠ gb6) (fun _ => False) rfl rfl HO.out (spec_l06Insert.row1 BK6.out) (fun x cs h => by obtain rfl := k41_open h; exact k41_mkM _ _ _ x) (fun _ hk => hk.elim) (fun k_ hk => ⟨by have := blk_lt BK332.out; omega, by have := blk_lt BK6.out; omega⟩) HB.out (below_size HB.out) (by simp only [List.nil_append, List.length_append, List.length_nil, List.length_cons, List.length_take, List.length_drop]; omega) ?_
    intro v29 w1 ho hb hg hat
    have n0_ := asd (blk_grown BK332.out hg (Kd.R_away HO.out (fun _ h => h.1)))
    have n1_ := asd (blk_grown BK6.out hg (Kd.R_away HO.out (fun _ h => h.2)))
    have n2_ := Aside0.mk hb
    have n3_ := Aside0.mk ho
    clear BK332 HB ho hb hg hat BK6 HO
    have BK332 := n0_
    have HB := n2_
    have HO := n3_
    have BK6 := n1_
    clear n1_
    clear n0_ n2_ n3_
    refine hK.out _ _ ⟨bcl BK332 0, bcl BK332 1, bcl BK332 2, bcl BK332 3, bcl BK332 4, bcl BK332 5⟩ (fun hHeld => ?_)
    clear hK K
    refine norm_ (a' := ?_) ?_ ?_
    rotate_left
    ·show Act.put _ (some 29) _ = _
     simp only [Act.put, sA, sB, sC, i64_w, i32_w]
     rfl
    refine ro 11 (some 33) (bT 13 12) HT_ (fun K hK => ?_)
    refine Kd.R_append_rows_step k41 (Rr := k41.K _) (w0 := w) w.heap.size (by rfl) (.tmp 29) (.tmp 32) 24 41 (.agg #[(.int .i64 0), (.int .i64 0), (.int .i64 0), (.int .i64 0), (.int .i64 0), (.int .i64 0)]) 48 rfl Try.underlying24 info41 rfl (by decide) (by omega) v29 ([] ++ l0.take t333.toNat ++ [(⟨(⟨a1_0, a1_1, a1_2, a1_3⟩ : S37), (⟨a1_4, a1_5⟩ : S39)⟩ : S41)]) (l0.drop t333.toNat) _ _ _ (fun k_ => k_ ≠ gb332 ∧ k_ ≠ gb6) (fun _ => False) rfl rfl HO.out (rd_ _ HB.out) (fun x cs h => by obtain rfl := k41_open h; exact k41_mkM _ _ _ x) (fun _ hk => hk.elim) (fun k_ hk => ⟨by have := blk_lt BK332.out; omega, by have := blk_lt BK6.out; omega⟩) HB.out (below_size HB.out) (by simp only [List.nil_append, List.length_append, List.length_nil, List.length_cons, List.length_take, List.length_drop]; omega) ?_
    intro v33 w1 ho hb hg hat
    have n0_ := asd (blk_grown BK332.out hg (Kd.R_away HO.out (fun _ h => h.1)))
    have n1_ := asd (blk_grown BK6.out hg (Kd.R_away HO.out (fun _ h => h.2)))
    have n2_ := Aside0.mk hb
    have n3_ := Aside0.mk ho
    clear BK332 HB ho hb hg hat BK6 HO
    have BK332 := n0_
    have HB := n2_
    have HO := n3_
    have BK6 := n1_
    clear n1_
    clear n0_ n2_ n3_
    refine hK.out _ _ ⟨bcl BK332 0, bcl BK332 1, bcl BK332 2, bcl BK332 3, bcl BK332 4, bcl BK332 5⟩ (fun hHeld => ?_)
    clear hK K
    refine norm_ (a' := ?_) ?_ ?_
    rotate_left
    ·show Act.put _ (some 33) _ = _
     simp only [Act.put, sA, sB, sC, i64_w, i32_w]
     rfl
    refine pure_ (i := 12) (N := some 4) (v := ?_) (a' := ?_) (bT 13 13) rfl rfl (any_of HT_.out (by kernel_rfl)) (fun _ _ _ h => h) (Or.inl ⟨by rfl, ?_⟩) ?_ ?_
    rotate_left
    ·intro w'
     go_simp; with_reducible rfl
    rotate_left
    ·simp only [Act.put, sA, sB, sC, i64_w, i32_w]
     rfl
    refine done_ (done_of HT_.out (by kernel_rfl)) ?_
    try go_wp2
    all_goals (go_ret; obtain ⟨v2, he2, h2⟩ := fin _ _ (Kd.R_mono HO.out (fun _ _ => trivial)) HB.out; cases he2; exact ⟨_, rfl, h2⟩)
 ·have c4b0 : decide (t333 < (l0.length : Int)) = false := decide_eq_false c4
  have he : spec_l06Insert.at l0 (⟨(⟨a1_0, a1_1, a1_2, a1_3⟩ : S37), (⟨a1_4, a1_5⟩ : S39)⟩ : S41) t333.toNat = l0.take t333.toNat ++ [(⟨(⟨a1_0, a1_1, a1_2, a1_3⟩ : S37), (⟨a1_4, a1_5⟩ : S39)⟩ : S41)] ++ l0.drop t333.toNat := by unfold spec_l06Insert.at; rw [if_neg (by rw [Bool.and_eq_true]; rintro ⟨h, _⟩; have := of_decide_eq_true h; omega)]
  replace fin := fin he
  clear c4 he
  go_enter Try.func21, Try.ntmps21
  go_wp2_with (first | ((with_reducible refine gd 3 rfl ?_); refine bx #[.int .i64 a1_0, .int .i64 a1_1, .int .i64 a1_2, .int .i64 a1_3, .int .i64 a1_4, .int .i64 a1_5] 41 ?_; intro gb332 hg w15 BK332 hb; have GE332 := ngw0 hg HB; replace HB := bS0 HB hb; clear hb hg; obtain ⟨hcz16_0, hcz16_1, hcz16_2, hcz16_3, hcz16_4, hcz16_5, hfz16_0, hfz16_1, hfz16_2, hfz16_3, hfz16_4, hfz16_5⟩ := bz6 BK332) | (go_at_call 34; (with_reducible refine (spec_l06Place.calls _ _ _ _ _ _ _ _ _ _ _ _ ?side1 ?side2 A3.out).mono ?_); (case side1 => exact ks (Kd.C_below HR0.out HB.out)); (case side2 => exact HC0.out); rintro e w17 ⟨rfl, hb⟩; replace BK332 := bB BK332 hb; replace HB := bS1 HB GE332 hb; (try clear hb)))
  repeat (go_quiet (first | ((with_reducible refine gd 3 rfl ?_); refine bx #[.int .i64 a1_0, .int .i64 a1_1, .int .i64 a1_2, .int .i64 a1_3, .int .i64 a1_4, .int .i64 a1_5] 41 ?_; intro gb332 hg w15 BK332 hb; have GE332 := ngw0 hg HB; replace HB := bS0 HB hb; clear hb hg; obtain ⟨hcz16_0, hcz16_1, hcz16_2, hcz16_3, hcz16_4, hcz16_5, hfz16_0, hfz16_1, hfz16_2, hfz16_3, hfz16_4, hfz16_5⟩ := bz6 BK332) | (go_at_call 34; (with_reducible refine (spec_l06Place.calls _ _ _ _ _ _ _ _ _ _ _ _ ?side1 ?side2 A3.out).mono ?_); (case side1 => exact ks (Kd.C_below HR0.out HB.out)); (case side2 => exact HC0.out); rintro e w17 ⟨rfl, hb⟩; replace BK332 := bB BK332 hb; replace HB := bS1 HB GE332 hb; (try clear hb))); try go_wp2_with (first | ((with_reducible refine gd 3 rfl ?_); refine bx #[.int .i64 a1_0, .int .i64 a1_1, .int .i64 a1_2, .int .i64 a1_3, .int .i64 a1_4, .int .i64 a1_5] 41 ?_; intro gb332 hg w15 BK332 hb; have GE332 := ngw0 hg HB; replace HB := bS0 HB hb; clear hb hg; obtain ⟨hcz16_0, hcz16_1, hcz16_2, hcz16_3, hcz16_4, hcz16_5, hfz16_0, hfz16_1, hfz16_2, hfz16_3, hfz16_4, hfz16_5⟩ := bz6 BK332) | (go_at_call 34; (with_reducible refine (spec_l06Place.calls _ _ _ _ _ _ _ _ _ _ _ _ ?side1 ?side2 A3.out).mono ?_); (case side1 => exact ks (Kd.C_below HR0.out HB.out)); (case side2 => exact HC0.out); rintro e w17 ⟨rfl, hb⟩; replace BK332 := bB BK332 hb; replace HB := bS1 HB GE332 hb; (try clear hb))))
  obtain ⟨rt, rd_⟩ := reads
  refine start_ (n := 13) (S := fun w' => w'.cell? ⟨gb332, 0, none⟩ = some (.int .i64 a1_0) ∧ w'.cell? ⟨gb332, 1, none⟩ = some (.int .i64 a1_1) ∧ w'.cell? ⟨gb332, 2, none⟩ = some (.int .i64 a1_2) ∧ w'.cell? ⟨gb332, 3, none⟩ = some (.int .i64 a1_3) ∧ w'.cell? ⟨gb332, 4, none⟩ = some (.int .i64 a1_4) ∧ w'.cell? ⟨gb332, 5, none⟩ = some (.int .i64 a1_5)) (ds := []) (bT 13 0) (by kernel_rfl) rfl rfl ⟨(blk_cell (blk_drew (blk_drewN BK332.out nq)) 0).trans rfl, (blk_cell (blk_drew (blk_drewN BK332.out nq)) 1).trans rfl, (blk_cell (blk_drew (blk_drewN BK332.out nq)) 2).trans rfl, (blk_cell (blk_drew (blk_drewN BK332.out nq)) 3).trans rfl, (blk_cell (blk_drew (blk_drewN BK332.out nq)) 4).trans rfl, (blk_cell (blk_drew (blk_drewN BK332.out nq)) 5).trans rfl⟩ (fun hHeld => ?_)
  refine with_tabW spec_l06Insert.tab4 spec_l06Insert.bits4 (fun HT_ HW_ => ?_)
  have n0_ := asd (blk_drew (blk_drewN BK332.out nq))
  have n1_ := asd (below_drew (pw_below_drewN HB.out nq))
  clear BK332 HB
  have BK332 := n0_
  have HB := n1_
  clear n0_ n1_
  generalize (World.drewN _ nq).drew = w41 at BK332 HB hHeld ⊢
  refine pure_ (i := 1) (N := some 23) (v := ?_) (a' := ?_) (bs 13 2) rfl rfl (any_of HT_.out (by kernel_rfl)) (fun _ _ _ h => h) (Or.inl ⟨by rfl, ?_⟩) ?_ ?_
  rotate_left
  ·intro w'
   go_simp; with_reducible rfl
  rotate_left
  ·simp only [Act.put, sA, sB, sC, i64_w, i32_w]
   rfl
  refine pure_ (i := 2) (N := some 24) (v := ?_) (a' := ?_) (bs 13 6) rfl rfl (any_of HT_.out (by kernel_rfl)) (fun _ _ _ h => h) (Or.inl ⟨by rfl, ?_⟩) ?_ ?_
  rotate_left
  ·intro w'
   go_simp; with_reducible rfl
  rotate_left
  ·simp only [Act.put, sA, sB, sC, i64_w, i32_w]
   rfl
  refine pure_ (i := 3) (N := some 25) (v := ?_) (a' := ?_) (bs 13 14) rfl rfl (any_of HT_.out (by kernel_rfl)) (fun _ _ _ h => h) (Or.inl ⟨by rfl, ?_⟩) ?_ ?_
  rotate_left
  ·intro w'
   go_simp; with_reducible rfl
  rotate_left
  ·simp only [Act.put, sA, sB, sC, i64_w, i32_w]
   rfl
  refine ta 5 (some 27) (bs 13 46) HT_ HW_ hHeld ?_
  refine pure_ (i := 8) (N := some 30) (v := ?_) (a' := ?_) (bs 13 302) rfl rfl (any_of HT_.out (by kernel_rfl)) (fun _ _ _ h => h) (Or.inl ⟨by rfl, ?_⟩) ?_ ?_
  rotate_left
  ·intro w'
   go_simp; with_reducible rfl
  rotate_left
  ·simp only [Act.put, sA, sB, sC, i64_w, i32_w]
   rfl
  refine pure_ (i := 9) (N := some 31) (v := ?_) (a' := ?_) (bs 13 814) rfl rfl (any_of HT_.out (by kernel_rfl)) (fun _ _ _ h => h) (Or.inl ⟨by rfl, ?_⟩) ?_ ?_
  rotate_left
  ·intro w'
   go_simp; with_reducible rfl
  rotate_left
  ·simp only [Act.put, sA, sB, sC, i64_w, i32_w]
   rfl
  refine pure_ (i := 10) (N := some 32) (v := ?_) (a' := ?_) (bs 13 1838) rfl rfl (any_of HT_.out (by kernel_rfl)) (fun _ _ _ h => h) (Or.inl ⟨by rfl, ?_⟩) ?_ ?_
  rotate_left
  ·intro w'
   go_simp; with_reducible rfl
  rotate_left
  ·simp only [Act.put, sA, sB, sC, i64_w, i32_w]
   rfl
  refine two_ (i := 0) (j := 6) (Ni := some 22) (Nj := some 28) (bs 13 1839) #[false, true, true, true, false, true, true, false, true, true, true, false, false] rfl rfl rfl rfl (two_of HT_.out (by kernel_rfl)) (by decide) (by decide) ?_ ?_
  ·intro K hK
   refine Kd.R_lit_step k41 (w0 := w) w.heap.size 41 (by rfl) (N := 22) rfl (xs := ([] : List S41)) (inner := []) (ok := (fun k_ => k_ ≠ gb332)) (okp := fun _ => False) (by first | (go_simp; done) | (go_simp; rfl)) ⟨rfl, fun j p hp => by cases hp⟩ (fun _ h => h.elim) (Nat.ne_of_gt (blk_lt BK332.out)) HB.out (below_size HB.out) (by decide) ?_
   intro v22 w1 ho hb hg hat
   have n0_ := asd (blk_grown BK332.out hg (by simp))
   have n2_ := Aside0.mk hb
   have n3_ := Aside0.mk ho
   clear BK332 HB ho hb hg hat
   have BK332 := n0_
   have HB := n2_
   have HO := n3_
   clear n0_ n2_ n3_
   refine hK.out _ _ ⟨bcl BK332 0, bcl BK332 1, bcl BK332 2, bcl BK332 3, bcl BK332 4, bcl BK332 5⟩ (fun hHeld => ?_)
   clear hK K
   refine norm_ (a' := ?_) ?_ ?_
   rotate_left
   ·show Act.put _ (some 22) _ = _
    simp only [Act.put, sA, sB, sC, i64_w, i32_w]
    rfl
   refine two_ (i := 4) (j := 6) (Ni := some 26) (Nj := some 28) (bs 13 1855) #[true, true, true, true, false, true, true, false, true, true, true, false, false] rfl rfl rfl rfl (two_of HT_.out (by kernel_rfl)) (by decide) (by decide) ?_ ?_
   ·intro K hK
    refine Kd.R_append_rows_step k41 (Rr := k41.K _) (w0 := w) w.heap.size (by rfl) (.tmp 22) (.tmp 25) 24 41 (.agg #[(.int .i64 0), (.int .i64 0), (.int .i64 0), (.int .i64 0), (.int .i64 0), (.int .i64 0)]) 48 rfl Try.underlying24 info41 rfl (by decide) (by omega) v22 [] (l0.take t333.toNat) _ _ _ (fun k_ => k_ ≠ gb332) (fun _ => False) rfl rfl HO.out (rt _ HB.out) (fun x cs h => by obtain rfl := k41_open h; exact k41_mkM _ _ _ x) (fun _ hk => hk.elim) (fun k_ hk => (by have := blk_lt BK332.out; omega)) HB.out (below_size HB.out) (by simp only [List.nil_append, List.length_append, List.length_nil, List.length_cons, List.length_take, List.length_drop]; omega) ?_
    intro v26 w1 ho hb hg hat
    have n0_ := asd (blk_grown BK332.out hg (Kd.R_away HO.out (fun _ h => h)))
    have n2_ := Aside0.mk hb
    have n3_ := Aside0.mk ho
    clear BK332 HB ho hb hg hat HO
    have BK332 := n0_
    have HB := n2_
    have HO := n3_
    clear n0_ n2_ n3_
    refine hK.out _ _ ⟨bcl BK332 0, bcl BK332 1, bcl BK332 2, bcl BK332 3, bcl BK332 4, bcl BK332 5⟩ (fun hHeld => ?_)
    clear hK K
    refine norm_ (a' := ?_) ?_ ?_
    rotate_left
    ·show Act.put _ (some 26) _ = _
     simp only [Act.put, sA, sB, sC, i64_w, i32_w]
     rfl
    refine ro 6 (some 28) (bs 13 1919) HT_ (fun K hK => ?_)
    refine spec_l06Insert.lit1 (by rfl) (N := 28) rfl (cs := #[.int .i64 a1_0, .int .i64 a1_1, .int .i64 a1_2, .int .i64 a1_3, .int .i64 a1_4, .int .i64 a1_5]) (t := 41) (by first | (go_simp; done) | (go_simp; rfl)) ?_
    intro gb6 hg6 w1 hbox hb
    have n3_ := asd (Kd.R_below (Kd.R_mono (Kd.R_elderB HO.out gb6 (Nat.le_of_eq hg6.symm)) (fun _ h => h) : Kd.R k41 41 _ w.heap.size (fun k_ => k_ ≠ gb332 ∧ k_ ≠ gb6) _ _) hb)
    have n0_ := asd (blk_below BK332.out hb)
    have n1_ := asd (below_step HB.out hb)
    have n2_ := Aside0.mk hbox
    have GE6 := asd (by have := blk_lt BK332.out; omega : gb332 ≠ gb6)
    clear BK332 HB hbox hb hg6 HO
    have BK332 := n0_
    have HB := n1_
    have BK6 := n2_
    have HO := n3_
    clear n3_
    clear n0_ n1_ n2_
    refine hK.out _ _ ⟨bcl BK332 0, bcl BK332 1, bcl BK332 2, bcl BK332 3, bcl BK332 4, bcl BK332 5⟩ (fun hHeld => ?_)
    clear hK K
    refine norm_ (a' := ?_) ?_ ?_
    rotate_left
    ·show Act.put _ (some 28) _ = _
     simp only [Act.put, sA, sB, sC, i64_w, i32_w]
     rfl
    refine ro 7 (some 29) (bT 13 11) HT_ (fun K hK => ?_)
    refine Kd.R_append_rows_step k41 (Rr := k41.K _) (w0 := w) w.heap.size (by rfl) (.tmp 26) (.tmp 28) 24 41 (.agg #[(.int .i64 0), (.int .i64 0), (.int .i64 0), (.int .i64 0), (.int .i64 0), (.int .i64 0)]) 48 rfl Try.underlying24 info41 rfl (by decide) (by omega) v26 ([] ++ l0.take t333.toNat) [(⟨(⟨a1_0, a1_1, a1_2, a1_3⟩ : S37), (⟨a1_4, a1_5⟩ : S39)⟩ : S41)] _ _ _ (fun k_ => k_ ≠ gb332 ∧ k_ ≠ gb6) (fun _ => False) rfl rfl HO.out (spec_l06Insert.row1 BK6.out) (fun x cs h => by obtain rfl := k41_open h; exact k41_mkM _ _ _ x) (fun _ hk => hk.elim) (fun k_ hk => ⟨by have := blk_lt BK332.out; omega, by have := blk_lt BK6.out; omega⟩) HB.out (below_size HB.out) (by simp only [List.nil_append, List.length_append, List.length_nil, List.length_cons, List.length_take, List.length_drop]; omega) ?_
    intro v29 w1 ho hb hg hat
    have n0_ := asd (blk_grown BK332.out hg (Kd.R_away HO.out (fun _ h => h.1)))
    have n1_ := asd (blk_grown BK6.out hg (Kd.R_away HO.out (fun _ h => h.2)))
    have n2_ := Aside0.mk hb
    have n3_ := Aside0.mk ho
    clear BK332 HB ho hb hg hat BK6 HO
    have BK332 := n0_
    have HB := n2_
    have HO := n3_
    have BK6 := n1_
    clear n1_
    clear n0_ n2_ n3_
    refine hK.out _ _ ⟨bcl BK332 0, bcl BK332 1, bcl BK332 2, bcl BK332 3, bcl BK332 4, bcl BK332 5⟩ (fun hHeld => ?_)
    clear hK K
    refine norm_ (a' := ?_) ?_ ?_
    rotate_left
    ·show Act.put _ (some 29) _ = _
     simp only [Act.put, sA, sB, sC, i64_w, i32_w]
     rfl
    refine ro 11 (some 33) (bT 13 12) HT_ (fun K hK => ?_)
    refine Kd.R_append_rows_step k41 (Rr := k41.K _) (w0 := w) w.heap.size (by rfl) (.tmp 29) (.tmp 32) 24 41 (.agg #[(.int .i64 0), (.int .i64 0), (.int .i64 0), (.int .i64 0), (.int .i64 0), (.int .i64 0)]) 48 rfl Try.underlying24 info41 rfl (by decide) (by omega) v29 ([] ++ l0.take t333.toNat ++ [(⟨(⟨a1_0, a1_1, a1_2, a1_3⟩ : S37), (⟨a1_4, a1_5⟩ : S39)⟩ : S41)]) (l0.drop t333.toNat) _ _ _ (fun k_ => k_ ≠ gb332 ∧ k_ ≠ gb6) (fun _ => False) rfl rfl HO.out (rd_ _ HB.out) (fun x cs h => by obtain rfl := k41_open h; exact k41_mkM _ _ _ x) (fun _ hk => hk.elim) (fun k_ hk => ⟨by have := blk_lt BK332.out; omega, by have := blk_lt BK6.out; omega⟩) HB.out (below_size HB.out) (by simp only [List.nil_append, List.length_append, List.length_nil, List.length_cons, List.length_take, List.length_drop]; omega) ?_
    intro v33 w1 ho hb hg hat
    have n0_ := asd (blk_grown BK332.out hg (Kd.R_away HO.out (fun _ h => h.1)))
    have n1_ := asd (blk_grown BK6.out hg (Kd.R_away HO.out (fun _ h => h.2)))
    have n2_ := Aside0.mk hb
    have n3_ := Aside0.mk ho
    clear BK332 HB ho hb hg hat BK6 HO
    have BK332 := n0_
    have HB := n2_
    have HO := n3_
    have BK6 := n1_
    clear n1_
    clear n0_ n2_ n3_
    refine hK.out _ _ ⟨bcl BK332 0, bcl BK332 1, bcl BK332 2, bcl BK332 3, bcl BK332 4, bcl BK332 5⟩ (fun hHeld => ?_)
    clear hK K
    refine norm_ (a' := ?_) ?_ ?_
    rotate_left
    ·show Act.put _ (some 33) _ = _
     simp only [Act.put, sA, sB, sC, i64_w, i32_w]
     rfl
    refine pure_ (i := 12) (N := some 4) (v := ?_) (a' := ?_) (bT 13 13) rfl rfl (any_of HT_.out (by kernel_rfl)) (fun _ _ _ h => h) (Or.inl ⟨by rfl, ?_⟩) ?_ ?_
    rotate_left
    ·intro w'
     go_simp; with_reducible rfl
    rotate_left
    ·simp only [Act.put, sA, sB, sC, i64_w, i32_w]
     rfl
    refine done_ (done_of HT_.out (by kernel_rfl)) ?_
    try go_wp2
    all_goals (go_ret; obtain ⟨v2, he2, h2⟩ := fin _ _ (Kd.R_mono HO.out (fun _ _ => trivial)) HB.out; cases he2; exact ⟨_, rfl, h2⟩)
   ·intro K hK
    refine spec_l06Insert.lit1 (by rfl) (N := 28) rfl (cs := #[.int .i64 a1_0, .int .i64 a1_1, .int .i64 a1_2, .int .i64 a1_3, .int .i64 a1_4, .int .i64 a1_5]) (t := 41) (by first | (go_simp; done) | (go_simp; rfl)) ?_
    intro gb6 hg6 w1 hbox hb
    have n3_ := asd (Kd.R_below (Kd.R_mono (Kd.R_elderB HO.out gb6 (Nat.le_of_eq hg6.symm)) (fun _ h => h) : Kd.R k41 41 _ w.heap.size (fun k_ => k_ ≠ gb332 ∧ k_ ≠ gb6) _ _) hb)
    have n0_ := asd (blk_below BK332.out hb)
    have n1_ := asd (below_step HB.out hb)
    have n2_ := Aside0.mk hbox
    have GE6 := asd (by have := blk_lt BK332.out; omega : gb332 ≠ gb6)
    clear BK332 HB hbox hb hg6 HO
    have BK332 := n0_
    have HB := n1_
    have BK6 := n2_
    have HO := n3_
    clear n3_
    clear n0_ n1_ n2_
    refine hK.out _ _ ⟨bcl BK332 0, bcl BK332 1, bcl BK332 2, bcl BK332 3, bcl BK332 4, bcl BK332 5⟩ (fun hHeld => ?_)
    clear hK K
    refine norm_ (a' := ?_) ?_ ?_
    rotate_left
    ·show Act.put _ (some 28) _ = _
     simp only [Act.put, sA, sB, sC, i64_w, i32_w]
     rfl
    refine ro 4 (some 26) (bs 13 1919) HT_ (fun K hK => ?_)
    refine Kd.R_append_rows_step k41 (Rr := k41.K _) (w0 := w) w.heap.size (by rfl) (.tmp 22) (.tmp 25) 24 41 (.agg #[(.int .i64 0), (.int .i64 0), (.int .i64 0), (.int .i64 0), (.int .i64 0), (.int .i64 0)]) 48 rfl Try.underlying24 info41 rfl (by decide) (by omega) v22 [] (l0.take t333.toNat) _ _ _ (fun k_ => k_ ≠ gb332 ∧ k_ ≠ gb6) (fun _ => False) rfl rfl HO.out (rt _ HB.out) (fun x cs h => by obtain rfl := k41_open h; exact k41_mkM _ _ _ x) (fun _ hk => hk.elim) (fun k_ hk => ⟨by have := blk_lt BK332.out; omega, by have := blk_lt BK6.out; omega⟩) HB.out (below_size HB.out) (by simp only [List.nil_append, List.length_append, List.length_nil, List.length_cons, List.length_take, List.length_drop]; omega) ?_
    intro v26 w1 ho hb hg hat
    have n0_ := asd (blk_grown BK332.out hg (Kd.R_away HO.out (fun _ h => h.1)))
    have n1_ := asd (blk_grown BK6.out hg (Kd.R_away HO.out (fun _ h => h.2)))
    have n2_ := Aside0.mk hb
    have n3_ := Aside0.mk ho
    clear BK332 HB ho hb hg hat BK6 HO
    have BK332 := n0_
    have HB := n2_
    have HO := n3_
    have BK6 := n1_
    clear n1_
    clear n0_ n2_ n3_
    refine hK.out _ _ ⟨bcl BK332 0, bcl BK332 1, bcl BK332 2, bcl BK332 3, bcl BK332 4, bcl BK332 5⟩ (fun hHeld => ?_)
    clear hK K
    refine norm_ (a' := ?_) ?_ ?_
    rotate_left
    ·show Act.put _ (some 26) _ = _
     simp only [Act.put, sA, sB, sC, i64_w, i32_w]
     rfl
    refine ro 7 (some 29) (bT 13 11) HT_ (fun K hK => ?_)
    refine Kd.R_append_rows_step k41 (Rr := k41.K _) (w0 := w) w.heap.size (by rfl) (.tmp 26) (.tmp 28) 24 41 (.agg #[(.int .i64 0), (.int .i64 0), (.int .i64 0), (.int .i64 0), (.int .i64 0), (.int .i64 0)]) 48 rfl Try.underlying24 info41 rfl (by decide) (by omega) v26 ([] ++ l0.take t333.toNat) [(⟨(⟨a1_0, a1_1, a1_2, a1_3⟩ : S37), (⟨a1_4, a1_5⟩ : S39)⟩ : S41)] _ _ _ (fun k_ => k_ ≠ gb332 ∧ k_ ≠ gb6) (fun _ => False) rfl rfl HO.out (spec_l06Insert.row1 BK6.out) (fun x cs h => by obtain rfl := k41_open h; exact k41_mkM _ _ _ x) (fun _ hk => hk.elim) (fun k_ hk => ⟨by have := blk_lt BK332.out; omega, by have := blk_lt BK6.out; omega⟩) HB.out (below_size HB.out) (by simp only [List.nil_append, List.length_append, List.length_nil, List.length_cons, List.length_take, List.length_drop]; omega) ?_
    intro v29 w1 ho hb hg hat
    have n0_ := asd (blk_grown BK332.out hg (Kd.R_away HO.out (fun _ h => h.1)))
    have n1_ := asd (blk_grown BK6.out hg (Kd.R_away HO.out (fun _ h => h.2)))
    have n2_ := Aside0.mk hb
    have n3_ := Aside0.mk ho
    clear BK332 HB ho hb hg hat BK6 HO
    have BK332 := n0_
    have HB := n2_
    have HO := n3_
    have BK6 := n1_
    clear n1_
    clear n0_ n2_ n3_
    refine hK.out _ _ ⟨bcl BK332 0, bcl BK332 1, bcl BK332 2, bcl BK332 3, bcl BK332 4, bcl BK332 5⟩ (fun hHeld => ?_)
    clear hK K
    refine norm_ (a' := ?_) ?_ ?_
    rotate_left
    ·show Act.put _ (some 29) _ = _
     simp only [Act.put, sA, sB, sC, i64_w, i32_w]
     rfl
    refine ro 11 (some 33) (bT 13 12) HT_ (fun K hK => ?_)
    refine Kd.R_append_rows_step k41 (Rr := k41.K _) (w0 := w) w.heap.size (by rfl) (.tmp 29) (.tmp 32) 24 41 (.agg #[(.int .i64 0), (.int .i64 0), (.int .i64 0), (.int .i64 0), (.int .i64 0), (.int .i64 0)]) 48 rfl Try.underlying24 info41 rfl (by decide) (by omega) v29 ([] ++ l0.take t333.toNat ++ [(⟨(⟨a1_0, a1_1, a1_2, a1_3⟩ : S37), (⟨a1_4, a1_5⟩ : S39)⟩ : S41)]) (l0.drop t333.toNat) _ _ _ (fun k_ => k_ ≠ gb332 ∧ k_ ≠ gb6) (fun _ => False) rfl rfl HO.out (rd_ _ HB.out) (fun x cs h => by obtain rfl := k41_open h; exact k41_mkM _ _ _ x) (fun _ hk => hk.elim) (fun k_ hk => ⟨by have := blk_lt BK332.out; omega, by have := blk_lt BK6.out; omega⟩) HB.out (below_size HB.out) (by simp only [List.nil_append, List.length_append, List.length_nil, List.length_cons, List.length_take, List.length_drop]; omega) ?_
    intro v33 w1 ho hb hg hat
    have n0_ := asd (blk_grown BK332.out hg (Kd.R_away HO.out (fun _ h => h.1)))
    have n1_ := asd (blk_grown BK6.out hg (Kd.R_away HO.out (fun _ h => h.2)))
    have n2_ := Aside0.mk hb
    have n3_ := Aside0.mk ho
    clear BK332 HB ho hb hg hat BK6 HO
    have BK332 := n0_
    have HB := n2_
    have HO := n3_
    have BK6 := n1_
    clear n1_
    clear n0_ n2_ n3_
    refine hK.out _ _ ⟨bcl BK332 0, bcl BK332 1, bcl BK332 2, bcl BK332 3, bcl BK332 4, bcl BK332 5⟩ (fun hHeld => ?_)
    clear hK K
    refine norm_ (a' := ?_) ?_ ?_
    rotate_left
    ·show Act.put _ (some 33) _ = _
     simp only [Act.put, sA, sB, sC, i64_w, i32_w]
     rfl
    refine pure_ (i := 12) (N := some 4) (v := ?_) (a' := ?_) (bT 13 13) rfl rfl (any_of HT_.out (by kernel_rfl)) (fun _ _ _ h => h) (Or.inl ⟨by rfl, ?_⟩) ?_ ?_
    rotate_left
    ·intro w'
     go_simp; with_reducible rfl
    rotate_left
    ·simp only [Act.put, sA, sB, sC, i64_w, i32_w]
     rfl
    refine done_ (done_of HT_.out (by kernel_rfl)) ?_
    try go_wp2
    all_goals (go_ret; obtain ⟨v2, he2, h2⟩ := fin _ _ (Kd.R_mono HO.out (fun _ _ => trivial)) HB.out; cases he2; exact ⟨_, rfl, h2⟩)
  ·intro K hK
   refine spec_l06Insert.lit1 (by rfl) (N := 28) rfl (cs := #[.int .i64 a1_0, .int .i64 a1_1, .int .i64 a1_2, .int .i64 a1_3, .int .i64 a1_4, .int .i64 a1_5]) (t := 41) (by first | (go_simp; done) | (go_simp; rfl)) ?_
   intro gb6 hg6 w1 hbox hb
   have n0_ := asd (blk_below BK332.out hb)
   have n1_ := asd (below_step HB.out hb)
   have n2_ := Aside0.mk hbox
   have GE6 := asd (by have := blk_lt BK332.out; omega : gb332 ≠ gb6)
   clear BK332 HB hbox hb hg6
   have BK332 := n0_
   have HB := n1_
   have BK6 := n2_
   clear n0_ n1_ n2_
   refine hK.out _ _ ⟨bcl BK332 0, bcl BK332 1, bcl BK332 2, bcl BK332 3, bcl BK332 4, bcl BK332 5⟩ (fun hHeld => ?_)
   clear hK K
   refine norm_ (a' := ?_) ?_ ?_
   rotate_left
   ·show Act.put _ (some 28) _ = _
    simp only [Act.put, sA, sB, sC, i64_w, i32_w]
    rfl
   refine ro 0 (some 22) (bs 13 1903) HT_ (fun K hK => ?_)
   refine Kd.R_lit_step k41 (w0 := w) w.heap.size 41 (by rfl) (N := 22) rfl (xs := ([] : List S41)) (inner := []) (ok := (fun k_ => k_ ≠ gb332 ∧ k_ ≠ gb6)) (okp := fun _ => False) (by first | (go_simp; done) | (go_simp; rfl)) ⟨rfl, fun j p hp => by cases hp⟩ (fun _ h => h.elim) (by have h1 := blk_lt BK332.out; have h2 := blk_lt BK6.out; exact ⟨Nat.ne_of_gt h1, Nat.ne_of_gt h2⟩) HB.out (below_size HB.out) (by decide) ?_
   intro v22 w1 ho hb hg hat
   have n0_ := asd (blk_grown BK332.out hg (by simp))
   have n1_ := asd (blk_grown BK6.out hg (by simp))
   have n2_ := Aside0.mk hb
   have n3_ := Aside0.mk ho
   clear BK332 HB ho hb hg hat BK6
   have BK332 := n0_
   have HB := n2_
   have HO := n3_
   have BK6 := n1_
   clear n1_
   clear n0_ n2_ n3_
   refine hK.out _ _ ⟨bcl BK332 0, bcl BK332 1, bcl BK332 2, bcl BK332 3, bcl BK332 4, bcl BK332 5⟩ (fun hHeld => ?_)
   clear hK K
   refine norm_ (a' := ?_) ?_ ?_
   rotate_left
   ·show Act.put _ (some 22) _ = _
    simp only [Act.put, sA, sB, sC, i64_w, i32_w]
    rfl
   refine ro 4 (some 26) (bs 13 1919) HT_ (fun K hK => ?_)
   refine Kd.R_append_rows_step k41 (Rr := k41.K _) (w0 := w) w.heap.size (by rfl) (.tmp 22) (.tmp 25) 24 41 (.agg #[(.int .i64 0), (.int .i64 0), (.int .i64 0), (.int .i64 0), (.int .i64 0), (.int .i64 0)]) 48 rfl Try.underlying24 info41 rfl (by decide) (by omega) v22 [] (l0.take t333.toNat) _ _ _ (fun k_ => k_ ≠ gb332 ∧ k_ ≠ gb6) (fun _ => False) rfl rfl HO.out (rt _ HB.out) (fun x cs h => by obtain rfl := k41_open h; exact k41_mkM _ _ _ x) (fun _ hk => hk.elim) (fun k_ hk => ⟨by have := blk_lt BK332.out; omega, by have := blk_lt BK6.out; omega⟩) HB.out (below_size HB.out) (by simp only [List.nil_append, List.length_append, List.length_nil, List.length_cons, List.length_take, List.length_drop]; omega) ?_
   intro v26 w1 ho hb hg hat
   have n0_ := asd (blk_grown BK332.out hg (Kd.R_away HO.out (fun _ h => h.1)))
   have n1_ := asd (blk_grown BK6.out hg (Kd.R_away HO.out (fun _ h => h.2)))
   have n2_ := Aside0.mk hb
   have n3_ := Aside0.mk ho
   clear BK332 HB ho hb hg hat BK6 HO
   have BK332 := n0_
   have HB := n2_
   have HO := n3_
   have BK6 := n1_
   clear n1_
   clear n0_ n2_ n3_
   refine hK.out _ _ ⟨bcl BK332 0, bcl BK332 1, bcl BK332 2, bcl BK332 3, bcl BK332 4, bcl BK332 5⟩ (fun hHeld => ?_)
   clear hK K
   refine norm_ (a' := ?_) ?_ ?_
   rotate_left
   ·show Act.put _ (some 26) _ = _
    simp only [Act.put, sA, sB, sC, i64_w, i32_w]
    rfl
   refine ro 7 (some 29) (bT 13 11) HT_ (fun K hK => ?_)
   refine Kd.R_append_rows_step k41 (Rr := k41.K _) (w0 := w) w.heap.size (by rfl) (.tmp 26) (.tmp 28) 24 41 (.agg #[(.int .i64 0), (.int .i64 0), (.int .i64 0), (.int .i64 0), (.int .i64 0), (.int .i64 0)]) 48 rfl Try.underlying24 info41 rfl (by decide) (by omega) v26 ([] ++ l0.take t333.toNat) [(⟨(⟨a1_0, a1_1, a1_2, a1_3⟩ : S37), (⟨a1_4, a1_5⟩ : S39)⟩ : S41)] _ _ _ (fun k_ => k_ ≠ gb332 ∧ k_ ≠ gb6) (fun _ => False) rfl rfl HO.out (spec_l06Insert.row1 BK6.out) (fun x cs h => by obtain rfl := k41_open h; exact k41_mkM _ _ _ x) (fun _ hk => hk.elim) (fun k_ hk => ⟨by have := blk_lt BK332.out; omega, by have := blk_lt BK6.out; omega⟩) HB.out (below_size HB.out) (by simp only [List.nil_append, List.length_append, List.length_nil, List.length_cons, List.length_take, List.length_drop]; omega) ?_
   intro v29 w1 ho hb hg hat
   have n0_ := asd (blk_grown BK332.out hg (Kd.R_away HO.out (fun _ h => h.1)))
   have n1_ := asd (blk_grown BK6.out hg (Kd.R_away HO.out (fun _ h => h.2)))
   have n2_ := Aside0.mk hb
   have n3_ := Aside0.mk ho
   clear BK332 HB ho hb hg hat BK6 HO
   have BK332 := n0_
   have HB := n2_
   have HO := n3_
   have BK6 := n1_
   clear n1_
   clear n0_ n2_ n3_
   refine hK.out _ _ ⟨bcl BK332 0, bcl BK332 1, bcl BK332 2, bcl BK332 3, bcl BK332 4, bcl BK332 5⟩ (fun hHeld => ?_)
   clear hK K
   refine norm_ (a' := ?_) ?_ ?_
   rotate_left
   ·show Act.put _ (some 29) _ = _
    simp only [Act.put, sA, sB, sC, i64_w, i32_w]
    rfl
   refine ro 11 (some 33) (bT 13 12) HT_ (fun K hK => ?_)
   refine Kd.R_append_rows_step k41 (Rr := k41.K _) (w0 := w) w.heap.size (by rfl) (.tmp 29) (.tmp 32) 24 41 (.agg #[(.int .i64 0), (.int .i64 0), (.int .i64 0), (.int .i64 0), (.int .i64 0), (.int .i64 0)]) 48 rfl Try.underlying24 info41 rfl (by decide) (by omega) v29 ([] ++ l0.take t333.toNat ++ [(⟨(⟨a1_0, a1_1, a1_2, a1_3⟩ : S37), (⟨a1_4, a1_5⟩ : S39)⟩ : S41)]) (l0.drop t333.toNat) _ _ _ (fun k_ => k_ ≠ gb332 ∧ k_ ≠ gb6) (fun _ => False) rfl rfl HO.out (rd_ _ HB.out) (fun x cs h => by obtain rfl := k41_open h; exact k41_mkM _ _ _ x) (fun _ hk => hk.elim) (fun k_ hk => ⟨by have := blk_lt BK332.out; omega, by have := blk_lt BK6.out; omega⟩) HB.out (below_size HB.out) (by simp only [List.nil_append, List.length_append, List.length_nil, List.length_cons, List.length_take, List.length_drop]; omega) ?_
   intro v33 w1 ho hb hg hat
   have n0_ := asd (blk_grown BK332.out hg (Kd.R_away HO.out (fun _ h => h.1)))
   have n1_ := asd (blk_grown BK6.out hg (Kd.R_away HO.out (fun _ h => h.2)))
   have n2_ := Aside0.mk hb
   have n3_ := Aside0.mk ho
   clear BK332 HB ho hb hg hat BK6 HO
   have BK332 := n0_
   have HB := n2_
   have HO := n3_
   have BK6 := n1_
   clear n1_
   clear n0_ n2_ n3_
   refine hK.out _ _ ⟨bcl BK332 0, bcl BK332 1, bcl BK332 2, bcl BK332 3, bcl BK332 4, bcl BK332 5⟩ (fun hHeld => ?_)
   clear hK K
   refine norm_ (a' := ?_) ?_ ?_
   rotate_left
   ·show Act.put _ (some 33) _ = _
    simp only [Act.put, sA, sB, sC, i64_w, i32_w]
    rfl
   refine pure_ (i := 12) (N := some 4) (v := ?_) (a' := ?_) (bT 13 13) rfl rfl (any_of HT_.out (by kernel_rfl)) (fun _ _ _ h => h) (Or.inl ⟨by rfl, ?_⟩) ?_ ?_
   rotate_left
   ·intro w'
    go_simp; with_reducible rfl
   rotate_left
   ·simp only [Act.put, sA, sB, sC, i64_w, i32_w]
    rfl
   refine done_ (done_of HT_.out (by kernel_rfl)) ?_
   try go_wp2
   all_goals (go_ret; obtain ⟨v2, he2, h2⟩ := fin _ _ (Kd.R_mono HO.out (fun _ _ => trivial)) HB.out; cases he2; exact ⟨_, rfl, h2⟩)
/-- The place that is looked up, with rounds enough for every list that fits. -/
@[irreducible] def spec_l06Insert.pl (l : List S41) (x : S41) : Option Int := spec_l06Place.f 2000000 l x.f0.f0 x.f0.f1 x.f0.f2 x.f0.f3 x.f1.f0 x.f1.f1
@[irreducible] def spec_l06Insert.ok (l : List S41) (x : S41) : Bool := match spec_l06Insert.pl l x with | some t => decide (0 ≤ t ∧ t ≤ (l.length : Int)) | none => false
/-- The list with x put in. -/
@[irreducible] def spec_l06Insert.ins (l : List S41) (x : S41) : List S41 := spec_l06Insert.at l x ((spec_l06Insert.pl l x).getD 0).toNat
theorem spec_l06Insert.ins_calls (l0 : List S41) (x : S41) (hl : l0.length < 2932031007402) (hk : spec_l06Insert.ok l0 x = true) (w : World) (base : Nat) (ok : Nat → Prop) (v : Value) (HR : Kd.R k41 41 w base ok v l0) (hbase : base ≤ w.heap.size) (hfresh : ∀ q, w.heap.size ≤ q → ok q) :
  Calls Try.prog 21 #[v, .agg #[.int .i64 x.f0.f0, .int .i64 x.f0.f1, .int .i64 x.f0.f2, .int .i64 x.f0.f3, .int .i64 x.f1.f0, .int .i64 x.f1.f1]] w fun e w' => ∃ v1, e = .returned v1 ∧ Kd.R k41 41 w' base ok v1 (spec_l06Insert.ins l0 x) ∧ Below w.heap.size w w' ∧ (v1.ownBlock = v.ownBlock ∨ ∃ b, v1.ownBlock = some b ∧ w.heap.size ≤ b) := by
 unfold spec_l06Insert.ok at hk
 unfold spec_l06Insert.ins
 cases e : spec_l06Insert.pl l0 x with
 | none => rw [e] at hk; exact Bool.noConfusion hk
 | some t =>
  rw [e] at hk
  obtain ⟨h0, h1⟩ := of_decide_eq_true hk
  have e' := e
  unfold spec_l06Insert.pl at e'
  exact spec_l06Insert.calls 2000000 l0 _ _ _ _ _ _ t h0 (by omega) hl e' w base ok v HR hbase hfresh
section
variable {ops : Array Oper} {a : Act} {Q : Exit → Act → World → Prop}
/-- A call of it in a region that draws its order. -/
theorem spec_l06Insert.step {oi : Oper} {K : Act → World → Prop} {w0 W : World} (base : Nat) (hw : Region.wanted oi (yielded ops a.tmps) = true) (s y : Operand) {ts : Array TypeId} (hop : oi.op = .call { callee := .value (.func 21), args := #[s, y], argTypes := ts }) (v : Value) (xs : List S41) (p : S41) (ok : Nat → Prop) (hs : a.eval s = v) (hy : a.eval y = .agg #[.int .i64 p.f0.f0, .int .i64 p.f0.f1, .int .i64 p.f0.f2, .int .i64 p.f0.f3, .int .i64 p.f1.f0, .int .i64 p.f1.f1])
  (hfresh : ∀ k, W.heap.size ≤ k → ok k) (HO : Kd.R k41 41 W base ok v xs) (HB : Below base w0 W) (hbase : base ≤ W.heap.size) (hl : xs.length < 2932031007402 ∧ spec_l06Insert.ok xs p = true)
  (h : ∀ v1 w1, Kd.R k41 41 w1 base ok v1 (spec_l06Insert.ins xs p) → Below base w0 w1 → W.grownBy w1 v.ownBlock → (v1.ownBlock = v.ownBlock ∨ ∃ b, v1.ownBlock = some b ∧ W.heap.size ≤ b) → K (a.put oi.dst v1) w1) :
  if Region.wanted oi (yielded ops a.tmps) = true then Oper.wp Try.prog oi a W K Q else K (a.put oi.dst undef) W := by
 refine goes_ Try.func21 (by kernel_rfl) rfl _ hw rfl hop (by simp only [List.map_toArray, List.map_cons, List.map_nil, hs, hy]; rfl) ?_
 refine (spec_l06Insert.ins_calls xs p hl.1 hl.2 W base ok v HO hbase hfresh).mono ?_
 rintro e w1 ⟨v1, rfl, h1, h2, h3⟩
 exact ⟨v1, rfl, h v1 w1 h1 (below_then HB hbase h2) ⟨h2.os, h2.tape, h2.output, h2.size, fun k hk _ => h2.block k hk⟩ h3⟩
/-- The same in a plain region. -/
theorem spec_l06Insert.event {rest : List Oper} {oi : Oper} {w0 W : World} (base : Nat) (N : Option Tmp) (hd : oi.dst = N) (hg : oi.guard = none) (s y : Operand) {ts : Array TypeId} (hop : oi.op = .call { callee := .value (.func 21), args := #[s, y], argTypes := ts }) (v : Value) (xs : List S41) (p : S41) (ok : Nat → Prop) (hs : a.eval s = v) (hy : a.eval y = .agg #[.int .i64 p.f0.f0, .int .i64 p.f0.f1, .int .i64 p.f0.f2, .int .i64 p.f0.f3, .int .i64 p.f1.f0, .int .i64 p.f1.f1])
  (hfresh : ∀ k, W.heap.size ≤ k → ok k) (HO : Kd.R k41 41 W base ok v xs) (HB : Below base w0 W) (hbase : base ≤ W.heap.size) (hl : xs.length < 2932031007402 ∧ spec_l06Insert.ok xs p = true)
  (h : ∀ v1 w1, Kd.R k41 41 w1 base ok v1 (spec_l06Insert.ins xs p) → Below base w0 w1 → W.grownBy w1 v.ownBlock → (v1.ownBlock = v.ownBlock ∨ ∃ b, v1.ownBlock = some b ∧ W.heap.size ≤ b) → wpList Try.prog ops Q rest (a.put N v1) w1) :
  wpList Try.prog ops Q (oi :: rest) a W := by
 refine goesL_ N hd hg Try.func21 (by kernel_rfl) rfl _ hop (by simp only [List.map_toArray, List.map_cons, List.map_nil, hs, hy]; rfl) ?_
 refine (spec_l06Insert.ins_calls xs p hl.1 hl.2 W base ok v HO hbase hfresh).mono ?_
 rintro e w1 ⟨v1, rfl, h1, h2, h3⟩
 exact ⟨v1, rfl, h v1 w1 h1 (below_then HB hbase h2) ⟨h2.os, h2.tape, h2.output, h2.size, fun k hk _ => h2.block k hk⟩ h3⟩
end
end Go.Proofs.Ytdodghjnlekgeaa.PA
