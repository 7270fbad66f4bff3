/- Walks written by program: each Go function that the law reaches comes to the plain function beside it. -/
import Derived.Test.YtcchmdodifkloaaPAx0
import Derived.Test.YtcchmdodifkloaaPAx2
import Derived.Test.YtcchmdodifkloaaPAx3
import Derived.Test.YtcchmdodifkloaaPAx11
namespace Go.Proofs.Ytcchmdodifkloaa.PA
open Go.RowKit Go.Proofs.YtcchmdodifkloaaW.PrintWords Go.Proofs.YtcchmdodifkloaaW.PrintLast Go.Proofs.YtcchmdodifkloaaW.PrintMore
attribute [local go_sem] max2_int min2_int max_two min_two max_three min_three max_four min_four   -- for this text's walks alone
set_option linter.unusedVariables false
set_option linter.unusedSimpArgs false

/-! ### impl_Lattice_basis: function 110 -/
def impl_Lattice_basis.f (a0_0 : Int) (a0_1 : Int) (a0_2 : Int) : Option (Int × Int × Int × Int) := some (a0_0, 0, a0_1, a0_2)
def impl_Lattice_basis.T1 : Bool × List (List Nat × List Nat) := (true, [([], []), ([0], [0]), ([1], [1]), ([], []), ([3], [3]), ([], []), ([5], [5]), ([4, 6], [4, 6]), ([2, 0, 1, 2], [2]), ([7, 8, 0, 1, 2, 3, 4, 5, 6, 7, 8], [7])])
def impl_Lattice_basis.B1 : List Nat := [0, 1, 3, 0, 8, 0, 32, 120, 7, 511]
theorem impl_Lattice_basis.tab1 : rtab .any (opsOf Try.f110 1) = impl_Lattice_basis.T1 := by kernel_rfl
theorem impl_Lattice_basis.bits1 : waitsOk impl_Lattice_basis.T1.2 impl_Lattice_basis.B1 = true := by kernel_rfl
set_option maxHeartbeats 8000000 in
set_option maxRecDepth 100000 in
theorem impl_Lattice_basis.calls (a0_0 : Int) (a0_1 : Int) (a0_2 : Int) (r1 : Int) (r2 : Int) (r3 : Int) (r4 : Int) (w : World) (h : impl_Lattice_basis.f a0_0 a0_1 a0_2 = some (r1, r2, r3, r4)) :
  Calls Try.prog 110 #[.agg #[.int .i64 a0_0, .int .i64 a0_1, .int .i64 a0_2]] w fun e w' => e = .returned (.tuple #[.agg #[.int .i64 r1, .int .i64 r2], .agg #[.int .i64 r3, .int .i64 r4]]) ∧ Below w.heap.size w w' := by
 have hu27 := Try.underlying27
 have hu53 := Try.underlying53
 have HB := asd (Below.refl w.heap.size w)
 have H : (some (a0_0, 0, a0_1, a0_2)) = some (r1, r2, r3, r4) := h
 clear h
 simp only [Option.some.injEq, Prod.mk.injEq] at H
 obtain ⟨rfl, rfl, rfl, rfl⟩ := H
 go_enter Try.func110, Try.ntmps110
 try go_wp2_with (first | ((with_reducible refine gd 1 rfl ?_); refine bx #[.int .i64 a0_0, .int .i64 a0_1, .int .i64 a0_2] 27 ?_; intro gb354 hg w2 BK354 hb; have GE354 := ngw0 hg HB; replace HB := bS0 HB hb; clear hb hg) | ((with_reducible refine gd 2 rfl ?_); refine bx #[.int .i64 0, .int .i64 0] 53 ?_; intro gb355 hg w3 BK355 hb; have GE355 := ngw1 hg HB GE354; replace HB := bS1 HB GE354 hb; have NB354_355 := nlt hg BK354; have NB355_354 := nsy (nlt hg BK354); replace BK354 := bB BK354 hb; clear hb hg) | ((with_reducible refine gd 3 rfl ?_); refine bx #[.int .i64 0, .int .i64 0] 53 ?_; intro gb356 hg w4 BK356 hb; have GE356 := ngw2 hg HB GE354 GE355; replace HB := bS2 HB GE354 GE355 hb; have NB354_356 := nlt hg BK354; have NB356_354 := nsy (nlt hg BK354); replace BK354 := bB BK354 hb; have NB355_356 := nlt hg BK355; have NB356_355 := nsy (nlt hg BK355); replace BK355 := bB BK355 hb; clear hb hg))
 replace BK354 := asd (blk_drew BK354.out)
 replace BK355 := asd (blk_drew BK355.out)
 replace BK356 := asd (blk_drew BK356.out)
 replace HB := asd (below_drew1 HB.out)
 refine sh 10 (eb3 BK354) (fun hHeld => ?_); refine with_tabW impl_Lattice_basis.tab1 impl_Lattice_basis.bits1 (fun HT_ HW_ => ?_)
 generalize w4.drew = w5 at BK354 BK355 BK356 HB hHeld ⊢
 refine pu 0 (some 4) (bt 10 1) HT_ ?_
 refine pu 3 (some 7) (bs 10 9) HT_ ?_
 refine pu 5 (some 9) (bs 10 41) HT_ ?_
 refine ta 1 (some 5) (bs 10 43) HT_ HW_ hHeld ?_
 refine pu 2 (some 6) (bs 10 47) HT_ ?_
 refine ta 4 (some 8) (bt 10 6) HT_ HW_ hHeld ?_
 refine ta 6 (some 10) (bt 10 7) HT_ HW_ hHeld ?_
 refine pu 7 (some 11) (bt 10 8) HT_ ?_
 refine ro 8 (none) (bt 10 9) HT_ (fun K hK => ?_)
 have hs6 : w5.cell? ⟨gb355, 0, none⟩ = some (.int .i64 0) := bcl BK355 0
 have hfs6 := blk_frozen BK355.out 0
 have hns6_0 := NB354_355.out
 have hns6_2 := NB356_355.out
 have hms6_0 := NB355_354.out
 have hms6_2 := NB355_356.out
 have hs7 : w5.cell? ⟨gb355, 1, none⟩ = some (.int .i64 0) := bcl BK355 1
 have hfs7 := blk_frozen BK355.out 1
 have hns7_0 := NB354_355.out
 have hns7_2 := NB356_355.out
 have hms7_0 := NB355_354.out
 have hms7_2 := NB355_356.out
 refine skip_ (w1 := ?_) (by rfl) rfl ?_ ?_
 rotate_left
 ·go_simp
  rfl
 refine hK.out _ _ ⟨(cf NB354_355 ((cf NB354_355 (hHeld.1)))), (cf NB354_355 ((cf NB354_355 (hHeld.2.1)))), (cf NB354_355 ((cf NB354_355 (hHeld.2.2))))⟩ (fun hHeld => ?_)
 clear hK K
 refine ro 9 (none) (bt 10 10) HT_ (fun K hK => ?_)
 have hs8 : w5.cell? ⟨gb356, 0, none⟩ = some (.int .i64 0) := bcl BK356 0
 have hfs8 := blk_frozen BK356.out 0
 have hns8_0 := NB354_356.out
 have hns8_1 := NB355_356.out
 have hms8_0 := NB356_354.out
 have hms8_1 := NB356_355.out
 have hs9 : w5.cell? ⟨gb356, 1, none⟩ = some (.int .i64 0) := bcl BK356 1
 have hfs9 := blk_frozen BK356.out 1
 have hns9_0 := NB354_356.out
 have hns9_1 := NB355_356.out
 have hms9_0 := NB356_354.out
 have hms9_1 := NB356_355.out
 refine skip_ (w1 := ?_) (by rfl) rfl ?_ ?_
 rotate_left
 ·go_simp
  rfl
 refine hK.out _ _ ⟨(cf NB354_356 ((cf NB354_356 (hHeld.1)))), (cf NB354_356 ((cf NB354_356 (hHeld.2.1)))), (cf NB354_356 ((cf NB354_356 (hHeld.2.2))))⟩ (fun hHeld => ?_)
 clear hK K
 refine done_ (done_of HT_.out (by kernel_rfl)) ?_
 try go_wp2
 refine bodyPost_ret (results_cc rfl _ _ gb355 gb356 53 53 #[.int .i64 a0_0, .int .i64 0] #[.int .i64 a0_1, .int .i64 a0_2] (0, 0) (0, 0) _ _ rfl (bq1 BK355 NB355_356) Try.underlying53 rfl (by kernel_rfl) rfl (bq1 BK356 NB356_355) Try.underlying53 rfl (by kernel_rfl)) rfl ?_
 exact er (bbw3 HB GE354 GE355 GE356)
/-! ### impl_Mat_121: function 121 -/
/-- The first index at which p holds, or -1. -/
def impl_Mat_121.f (p : S51 → Bool) (l : List S51) : Int := match l.findIdx? p with | some i => i | none => -1
theorem impl_Mat_121.rd_get (l : List S51) (j : Nat) (h : j < l.length) : rd_T51 l (j : Int) = l[j] := by
 unfold rd_T51; rw [Int.toNat_natCast]; simp [List.getD, h]
theorem impl_Mat_121.hit (p : S51 → Bool) (l : List S51) (x : Int) (h0 : 0 ≤ x) (hx : x < l.length) (h : p (rd_T51 l x) = true) (hb : ∀ j : Nat, (j : Int) < x → p (rd_T51 l (j : Int)) = false) : impl_Mat_121.f p l = x := by
 obtain ⟨k, rfl⟩ := Int.eq_ofNat_of_zero_le h0
 have hk : k < l.length := by omega
 rw [impl_Mat_121.rd_get l k hk] at h
 unfold impl_Mat_121.f
 have : l.findIdx? p = some k := by
  rw [List.findIdx?_eq_some_iff_getElem]
  refine ⟨hk, h, fun j hj => ?_⟩
  have := hb j (by omega)
  rw [impl_Mat_121.rd_get l j (by omega)] at this
  simpa using this
 rw [this]
theorem impl_Mat_121.miss (p : S51 → Bool) (l : List S51) (hb : ∀ j : Nat, (j : Int) < l.length → p (rd_T51 l (j : Int)) = false) : impl_Mat_121.f p l = -1 := by
 unfold impl_Mat_121.f
 have : l.findIdx? p = none := by
  rw [List.findIdx?_eq_none_iff]
  intro x hx
  obtain ⟨j, hj, rfl⟩ := List.getElem_of_mem hx
  have := hb j (by omega)
  rw [impl_Mat_121.rd_get l j hj] at this
  exact this
 rw [this]
set_option maxHeartbeats 2000000 in
theorem impl_Mat_121.calls_some (p : S51 → Bool) (g : Nat) (lb : Array Value) (eg : ∀ args w, (callFunc g args).run Try.prog w = .ok (.enter g args) w) (ad : Addr) (c : Nat) (l : List S51) (w : World) (hr : Kd.C k51 w (some ad) l.length l)
  (hp : ∀ (x : S51) (W : World), Below w.heap.size w W → Calls Try.prog g (#[.agg #[.int .i64 x.f0, .int .i64 x.f1, .int .i64 x.f2, .int .i64 x.f3]] ++ lb) W fun e w' => e = .returned (.bool (p x)) ∧ Below w.heap.size w w') :
  Calls Try.prog 121 #[.slice (some ad) l.length c, .func (.func g) #[] lb] w fun e w' => e = .returned (.int .i64 (impl_Mat_121.f p l)) ∧ Below w.heap.size w w' := by
 have hu33 := Try.underlying51
 have hbig := Kd.C_max hr
 have HR := Aside0.mk hr
 have HP := Aside0.mk hp
 clear hr hp
 have hbig' : l.length ≤ 9223372036854775807 := hbig
 have HBIG := Aside0.mk hbig'
 clear hbig hbig'
 go_enter Try.func121, Try.ntmps121
 go_wp2
 go_loopg [5, 8] l.length (fun gg _ s8 wr => ∃ x : Int, s8 = .int .i64 x ∧ Aside0 (0 ≤ x ∧ x ≤ l.length ∧ (l.length : Int) - x ≤ gg) ∧ Aside0 (Below w.heap.size w wr) ∧ Aside0 (∀ j : Nat, (j : Int) < x → p (rd_T51 l (j : Int)) = false))
 case atStart => exact ⟨0, rfl, ⟨by omega⟩, ⟨Below.refl _ w⟩, ⟨fun j hj => absurd hj (by omega)⟩⟩
 case round =>
  obtain ⟨x, rfl, HX, BW, AA⟩ := hrel
  by_cases c4 : x < (l.length : Int)
  ·have c4b0 : decide (x < (l.length : Int)) = true := decide_eq_true c4
   have c5b0 : decide (0 ≤ x) = true := decide_eq_true HX.out.1
   have hcall := HP.out (rd_T51 l x) wr BW.out
   obtain ⟨ad', e', hx0, hx1, hx2, hx3⟩ := at_T51 HR.out x HX.out.1 c4
   cases e'
   replace hx0 := (BW.out.cell (World.block_lt_of_cell? w _ hx0)).trans hx0
   replace hx1 := (BW.out.cell (World.block_lt_of_cell? w _ hx1)).trans hx1
   replace hx2 := (BW.out.cell (World.block_lt_of_cell? w _ hx2)).trans hx2
   replace hx3 := (BW.out.cell (World.block_lt_of_cell? w _ hx3)).trans hx3
   have C4 := Aside0.mk c4
   clear c4
   generalize hy : rd_T51 l x = y at hcall hx0 hx1 hx2 hx3
   have HY := Aside0.mk hy
   clear hy
   have p5 : 0 ≤ x := HX.out.1
   have p215 := eq_true p5
   have q215 : (x < (l.length : Int)) = True := eq_true C4.out
   clear p5
   cases hq : p y with
   | true =>
    rw [hq] at hcall
    have HQ := Aside0.mk hq
    clear hq
    go_wp2_with (go_at_fn g; refine hcall.mono ?_; rintro e w' ⟨rfl, hb'⟩)
    go_ret
    refine ⟨?_, hb'⟩
    rw [impl_Mat_121.hit p l x HX.out.1 C4.out (by rw [HY.out]; exact HQ.out) AA.out]
    rfl
   | false =>
    rw [hq] at hcall
    have HQ := Aside0.mk hq
    clear hq
    go_wp2_with (go_at_fn g; refine hcall.mono ?_; rintro e w' ⟨rfl, hb'⟩)
    have hw : wrap64 (x + 1) = x + 1 := by
     have h1 := HX.out; have h2 := HBIG.out; have h3 := C4.out
     unfold wrap64; omega
    go_roundg ((l.length : Int) - (x + 1)).toNat
    case measure => have h1 := HX.out; have h3 := C4.out; omega
    case rel =>
     refine ⟨wrap64 (x + 1), rfl, ⟨?_⟩, ⟨hb'⟩, ⟨fun j hj => ?_⟩⟩
     ·have h1 := HX.out; have h3 := C4.out; rw [hw]; omega
     ·rw [hw] at hj
      by_cases e : (j : Int) = x
      ·rw [e, HY.out]; exact HQ.out
      ·exact AA.out j (by omega)
  ·have c4b0 : decide (x < (l.length : Int)) = false := decide_eq_false c4
   have hxe : x = l.length := by have := HX.out; omega
   have C4 := Aside0.mk hxe
   clear c4 hxe
   go_wp2
   go_ret
   refine ⟨?_, BW.out⟩
   rw [impl_Mat_121.miss p l (by rw [← C4.out]; exact AA.out)]
   rfl
set_option maxHeartbeats 2000000 in
theorem impl_Mat_121.calls_empty (p : S51 → Bool) (A : Option Addr) (c : Nat) (fv : Value) (w : World) :
  Calls Try.prog 121 #[.slice A 0 c, fv] w fun e w' => e = .returned (.int .i64 (impl_Mat_121.f p [])) ∧ Below w.heap.size w w' := by
 go_enter Try.func121, Try.ntmps121
 go_wp2
 go_loopg [5, 8] 0 (fun _ _ s8 wr => s8 = .int .i64 0 ∧ wr = w)
 case atStart => exact ⟨rfl, rfl⟩
 case round =>
  obtain ⟨rfl, rfl⟩ := hrel
  go_wp2
  go_ret
  exact ⟨rfl, Below.refl _ _⟩
theorem impl_Mat_121.calls (p : S51 → Bool) (g : Nat) (lb : Array Value) (eg : ∀ args w, (callFunc g args).run Try.prog w = .ok (.enter g args) w) (A : Option Addr) (c : Nat) (l : List S51) (w : World) (hr : Kd.C k51 w A l.length l)
  (hp : ∀ (x : S51) (W : World), Below w.heap.size w W → Calls Try.prog g (#[.agg #[.int .i64 x.f0, .int .i64 x.f1, .int .i64 x.f2, .int .i64 x.f3]] ++ lb) W fun e w' => e = .returned (.bool (p x)) ∧ Below w.heap.size w w') :
  Calls Try.prog 121 #[.slice A l.length c, .func (.func g) #[] lb] w fun e w' => e = .returned (.int .i64 (impl_Mat_121.f p l)) ∧ Below w.heap.size w w' := by
 cases l with
 | nil => exact impl_Mat_121.calls_empty p A c _ w
 | cons x xs =>
  obtain ⟨ad, rfl, _⟩ := hr.2.2 (by simp)
  exact impl_Mat_121.calls_some p g lb eg ad c (x :: xs) w hr hp
/-! ### impl_Mat_111: function 111 -/
/-- What the loop holds. -/
def impl_Mat_111.Inv (p : S51 → Bool) (l : List S51) (i j : Int) (m : List S51) : Prop :=
 m.length = l.length ∧ m.take i.toNat = (l.take j.toNat).filter (fun x => !p x) ∧ ∀ t : Nat, j ≤ t → rd_T51 m (t : Int) = rd_T51 l (t : Int)
theorem impl_Mat_111.rd_get (l : List S51) (j : Nat) (h : j < l.length) : rd_T51 l (j : Int) = l[j] := by
 unfold rd_T51; rw [Int.toNat_natCast]; simp [List.getD, h]
theorem impl_Mat_111.inv_start (p : S51 → Bool) (l : List S51) (k : Nat) (hk : k < l.length) (h : p l[k] = true) (hb : ∀ (j : Nat) (hj : j < k), p (l[j]'(Nat.lt_trans hj hk)) = false) : impl_Mat_111.Inv p l (k : Int) ((k : Int) + 1) l := by
 refine ⟨rfl, ?_, fun t _ => rfl⟩
 have e : ((k : Int) + 1).toNat = k + 1 := by omega
 rw [Int.toNat_natCast, e, List.take_succ_eq_append_getElem hk, List.filter_append]
 have e2 : (l.take k).filter (fun x => !p x) = l.take k := by
  rw [List.filter_eq_self]
  intro x hx
  obtain ⟨j, hj, rfl⟩ := List.getElem_of_mem hx
  have hj' : j < k := by rw [List.length_take] at hj; omega
  rw [List.getElem_take, hb j hj']; rfl
 rw [e2]; simp [h]
theorem impl_Mat_111.inv_keep (p : S51 → Bool) (l m : List S51) (i j : Int) (h0 : 0 ≤ i) (hij : i < j) (hj : j < l.length) (h : impl_Mat_111.Inv p l i j m) (hp : p (rd_T51 m j) = false) : impl_Mat_111.Inv p l (i + 1) (j + 1) (m.set i.toNat (rd_T51 m j)) := by
 obtain ⟨h1, h2, h3⟩ := h
 obtain ⟨i, rfl⟩ := Int.eq_ofNat_of_zero_le h0
 obtain ⟨j, rfl⟩ := Int.eq_ofNat_of_zero_le (show 0 ≤ j by omega)
 have hjl : j < l.length := by omega
 have him : i < m.length := by omega
 have e1 : ((i : Int) + 1).toNat = i + 1 := by omega
 have e2 : ((j : Int) + 1).toNat = j + 1 := by omega
 have e3 := h3 j (by omega)
 rw [Int.toNat_natCast] at h2 ⊢
 rw [Int.toNat_natCast] at h2
 refine ⟨by simpa using h1, ?_, fun t ht => ?_⟩
 ·rw [e1, e2, List.take_succ_eq_append_getElem hjl, List.filter_append, ← h2, List.take_succ_eq_append_getElem (by simpa using him)]
  rw [e3, impl_Mat_111.rd_get l j hjl] at hp ⊢
  congr 1
  ·rw [List.take_set_of_le (by omega)]
  ·simp [hp]
 ·have := h3 t (by omega)
  unfold rd_T51 at this ⊢
  rw [Int.toNat_natCast] at this ⊢
  simp only [List.getD] at this ⊢
  rw [List.getElem?_set_ne (by omega)]
  exact this
theorem impl_Mat_111.inv_skip (p : S51 → Bool) (l m : List S51) (i j : Int) (h0 : 0 ≤ i) (hij : i < j) (hj : j < l.length) (h : impl_Mat_111.Inv p l i j m) (hp : p (rd_T51 m j) = true) : impl_Mat_111.Inv p l i (j + 1) m := by
 obtain ⟨h1, h2, h3⟩ := h
 obtain ⟨j, rfl⟩ := Int.eq_ofNat_of_zero_le (show 0 ≤ j by omega)
 have hjl : j < l.length := by omega
 have e2 : ((j : Int) + 1).toNat = j + 1 := by omega
 have e3 := h3 j (by omega)
 rw [Int.toNat_natCast] at h2
 refine ⟨h1, ?_, fun t ht => h3 t (by omega)⟩
 rw [e2, List.take_succ_eq_append_getElem hjl, List.filter_append, ← h2]
 rw [e3, impl_Mat_111.rd_get l j hjl] at hp
 simp [hp]
theorem impl_Mat_111.set_cells_append (b : Nat) : ∀ (xs ys : List Value) (o : Nat) (w : World), w.setCells b o (xs ++ ys) = (w.setCells b o xs).setCells b (o + xs.length) ys
 | [], _, _, _ => rfl
 | x :: xs, ys, o, w => by
  have := impl_Mat_111.set_cells_append b xs ys (o + 1) (w.setCell ⟨b, o, none⟩ x)
  rw [List.cons_append, World.setCells, World.setCells, this, List.length_cons]; congr 1; omega
theorem impl_Mat_111.zeros (n : Nat) : (Builtin.zeroCells #[.int .i64 0, .int .i64 0, .int .i64 0, .int .i64 0] n).toList = List.replicate (n * 4) (Value.int .i64 0) := by
 apply List.ext_getElem
 ·simp [Builtin.zeroCells]
 ·intro i h1 h2
  simp only [Builtin.zeroCells, Array.toList_map, Array.toList_range, List.getElem_map, List.getElem_range, List.getElem_replicate]
  have : i % 4 < 4 := Nat.mod_lt _ (by decide)
  have h4 : i % 4 = 0 ∨ i % 4 = 1 ∨ i % 4 = 2 ∨ i % 4 = 3 := by omega
  show (#[Value.int .i64 0, .int .i64 0, .int .i64 0, .int .i64 0] : Array Value)[i % 4]! = _
  rcases h4 with h | h | h | h <;> rw [h] <;> rfl
/-- The end of a row, made zero. -/
theorem impl_Mat_111.clear_row {g n cap base : Nat} {ok : Nat → Prop} (d : Nat) : ∀ (W : World) (i : Nat) (xs : List S51), Kd.R k51 51 W base ok (.slice (some ⟨g, 0, none⟩) n cap) xs → i + d = n →
  ∃ xs', xs'.take i = xs.take i ∧ xs'.length = xs.length ∧ Kd.R k51 51 (W.setCells g (i * 4) (List.replicate (d * 4) (.int .i64 0))) base ok (.slice (some ⟨g, 0, none⟩) n cap) xs' ∧ W.grownBy (W.setCells g (i * 4) (List.replicate (d * 4) (.int .i64 0))) (some g) := by
 induction d with
 | zero => intro W i xs h e; exact ⟨xs, rfl, rfl, h, ⟨rfl, rfl, rfl, Nat.le_refl _, fun _ _ _ => rfl⟩⟩
 | succ d ih =>
  intro W i xs h e
  have hn := (Kd.R_reads' h).1
  obtain ⟨ce, hcl, hM, hcc, hfr⟩ := Kd.R_elem h z51 (i : Int) (by omega) (by omega)
  have HP := Kd.R_seg h (i : Int) (by omega) (by omega) (seg := [.int .i64 0, .int .i64 0, .int .i64 0, .int .i64 0]) (j := 0) hcl hcc (show 4 ≤ 4 from by decide) (x' := z51) (by
   obtain rfl := k51_openM hM
   exact k51_mkM _ _ _ z51) (fun _ hk => hk)
  rw [Int.toNat_natCast] at HP
  obtain ⟨h1, h2⟩ := HP
  obtain ⟨xs', q1, q2, q3, q4⟩ := ih _ (i + 1) _ h1 (by omega)
  have e1 : List.replicate ((d + 1) * 4) (Value.int .i64 0) = [.int .i64 0, .int .i64 0, .int .i64 0, .int .i64 0] ++ List.replicate (d * 4) (.int .i64 0) := by
   rw [show (d + 1) * 4 = 4 + d * 4 by omega, ← List.replicate_append_replicate]; rfl
  have e2 : (W.setCells g (i * 4) (List.replicate ((d + 1) * 4) (.int .i64 0))) = ((W.setCells g (i * (k51).sz + 0) [.int .i64 0, .int .i64 0, .int .i64 0, .int .i64 0]).setCells g ((i + 1) * 4) (List.replicate (d * 4) (.int .i64 0))) := by
   rw [e1, impl_Mat_111.set_cells_append]; congr 1; show i * 4 + 4 = (i + 1) * 4; omega
  rw [e2]
  refine ⟨xs', ?_, by simpa using q2, q3, h2.trans q4⟩
  have := congrArg (List.take i) q1
  rw [List.take_take, List.take_take, Nat.min_eq_left (Nat.le_succ i)] at this
  rw [this, List.take_set_of_le (Nat.le_refl _)]
theorem impl_Mat_111.cells_of_row {g n cap base : Nat} {ok : Nat → Prop} {W : World} {xs : List S51} (h : Kd.R k51 51 W base ok (.slice (some ⟨g, 0, none⟩) n cap) xs) (t : Nat) (ht : t < n * 4) : (W.cell? ⟨g, t, none⟩).isSome = true ∧ W.frozen? ⟨g, t, none⟩ = false := by
 obtain ⟨ce, hcl, hM, hcc, hfr⟩ := Kd.R_elem h z51 ((t / 4 : Nat) : Int) (by omega) (by omega)
 rw [Int.toNat_natCast, show (k51).sz = 4 from rfl] at hcc hfr
 have e : t / 4 * 4 + t % 4 = t := by omega
 have hl : ce.length = 4 := hcl
 have hr : t % 4 < ce.length := by rw [hl]; omega
 have h1 := hcc (t % 4) _ (List.getElem?_eq_getElem hr)
 have h2 := hfr (t % 4)
 rw [e] at h1 h2
 exact ⟨by rw [h1]; rfl, h2⟩
theorem impl_Mat_111.zero_run (W : World) : (zeroValue 51).run Try.prog W = .ok (.agg #[.int .i64 0, .int .i64 0, .int .i64 0, .int .i64 0]) W := by
 have := info51
 cases h : Try.prog.info? 51 with
 | none => rw [h] at this; cases this
 | some i =>
  rw [h] at this
  simp only [Option.map_some, Option.some.injEq, Prod.mk.injEq] at this
  simp [zeroValue, typeInfo, h, this.1]
theorem impl_Mat_111.clear_run {g n c base : Nat} {ok : Nat → Prop} {W : World} {xs : List S51} (h : Kd.R k51 51 W base ok (.slice (some ⟨g, 0, none⟩) n c) xs) (i : Nat) (hi : i < n) (ty : TypeId) (c' : Nat) :
  (Builtin.clear_ #[44] ty #[.slice (some ⟨g, i * 4, none⟩) (n - i) c']).run Try.prog W = .ok (.tuple #[]) (W.setCells g (i * 4) (List.replicate ((n - i) * 4) (.int .i64 0))) := by
 have hst := run_storeCells_cells (P := Try.prog) g (i * 4) (List.replicate ((n - i) * 4) (.int .i64 0)) 0 W (fun j hj => (impl_Mat_111.cells_of_row h (i * 4 + 0 + j) (by rw [List.length_replicate] at hj; omega)).1) (fun j hj => (impl_Mat_111.cells_of_row h (i * 4 + 0 + j) (by rw [List.length_replicate] at hj; omega)).2) (by intro v hv; rw [List.eq_of_mem_replicate hv]; rfl)
 simp only [Nat.add_zero] at hst
 have hz := impl_Mat_111.zeros (n - i)
 obtain ⟨q, hq⟩ : ∃ q, n - i = q + 1 := ⟨n - i - 1, by omega⟩
 rw [hq] at hst hz ⊢
 simp [Builtin.clear_, run_underlying Try.underlying44, impl_Mat_111.zero_run, Value.cells, hz, hst]
set_option maxHeartbeats 4000000 in
set_option maxRecDepth 100000 in
theorem impl_Mat_111.calls (p : S51 → Bool) (g : Nat) (lb : Array Value) (eg : ∀ args w, (callFunc g args).run Try.prog w = .ok (.enter g args) w) (P0_ : Nat → Prop) (u0_ : Value) (l : List S51) (w0 w : World) (hB : Below w0.heap.size w0 w) (ho : Kd.R k51 51 w w0.heap.size P0_ u0_ l)
  (hp : ∀ (x : S51) (W : World), Below w0.heap.size w0 W → Kept w W P0_ → Calls Try.prog g (#[.agg #[.int .i64 x.f0, .int .i64 x.f1, .int .i64 x.f2, .int .i64 x.f3]] ++ lb) W fun e w' => e = .returned (.bool (p x)) ∧ Below W.heap.size W w') :
  Calls Try.prog 111 #[u0_, .func (.func g) #[] lb] w fun e w' => ∃ v', e = .returned v' ∧ Kd.R k51 51 w' w0.heap.size (fun k_ => P0_ k_ ∨ w.heap.size ≤ k_) v' (l.filter fun x => !p x) ∧ Below w0.heap.size w0 w' ∧ Kept w w' P0_ := by
 have hu33 := Try.underlying51
 obtain ⟨A0, c0, e0, hlc, hC⟩ := Kd.R_reads ho
 subst e0
 have HI := impl_Mat_121.calls p g lb eg A0 c0 l w hC (fun x W hb => (hp x W (below_then hB hB.size hb) (Kept.of_below hb _)).mono fun e w' ⟨he, hb'⟩ => ⟨he, below_then hb hb.size hb'⟩)
 have HO := asd (show Kd.R k51 51 w w0.heap.size (fun k_ => P0_ k_ ∨ w.heap.size ≤ k_) (.slice A0 l.length c0) l from Kd.R_mono ho (fun k_ hk => .inl hk))
 have HP := Aside0.mk hp
 have HB := Aside0.mk hB
 have HBIG := asd (show l.length ≤ 9223372036854775807 from Kd.C_max hC)
 unfold impl_Mat_121.f at HI
 clear ho hp hB hC hlc
 cases hf : l.findIdx? p with
 | none =>
  rw [hf] at HI
  have hall : (l.filter fun x => !p x) = l := by
   rw [List.filter_eq_self]
   intro x hx
   have := List.findIdx?_eq_none_iff.1 hf x hx
   simp [this]
  rw [hall]
  clear hf hall
  replace HI : Calls Try.prog 121 #[.slice A0 l.length c0, .func (.func g) #[] lb] w fun e w' => e = .returned (.int .i64 (-1)) ∧ Below w.heap.size w w' := HI
  go_enter Try.func111, Try.ntmps111
  go_wp2_with (go_at_call 121; refine HI.mono ?_; rintro e w' ⟨rfl, hb'⟩)
  go_ret
  exact ⟨_, rfl, Kd.R_below HO.out hb', below_then HB.out HB.out.size hb', Kept.of_below hb' _⟩
 | some k =>
  rw [hf] at HI
  obtain ⟨hk, hpk, hbk⟩ := List.findIdx?_eq_some_iff_getElem.1 hf
  have HS := asd (impl_Mat_111.inv_start p l k hk hpk (fun j hj => by simpa using hbk j hj))
  have HK := Aside0.mk hk
  clear hf hpk hbk
  replace HI : Calls Try.prog 121 #[.slice A0 l.length c0, .func (.func g) #[] lb] w fun e w' => e = .returned (.int .i64 (k : Int)) ∧ Below w.heap.size w w' := HI
  have hne1 : ((k : Int) == -1) = false := beq_eq_false_iff_ne.2 (by omega)
  obtain ⟨go, co, eo, gb, gl, cl, HG⟩ := Kd.R_form HO.out (by omega)
  injection eo with ea_ en_ ec_
  subst ea_
  subst ec_
  clear en_ gl HG cl
  have HKW := asd (show wrap64 ((k : Int) + 1) = (k : Int) + 1 by have := HBIG.out; unfold wrap64; omega)
  clear hk
  go_enter Try.func111, Try.ntmps111
  go_wp2_with (go_at_call 121; refine HI.mono ?_; rintro e w' ⟨rfl, hb'⟩)
  go_loopg [5, 6, 7] l.length (fun gg s5 s6 _ wr => ∃ (i j : Int) (m : List S51), s5 = .int .i64 i ∧ s6 = .int .i64 j ∧ Aside0 (0 ≤ i ∧ i < j ∧ j ≤ l.length ∧ (l.length : Int) - j ≤ gg) ∧ Aside0 (impl_Mat_111.Inv p l i j m) ∧ Aside0 (Kd.R k51 51 wr w0.heap.size (fun k_ => P0_ k_ ∨ w.heap.size ≤ k_) (.slice (some ⟨go, 0, none⟩) l.length c0) m) ∧ Aside0 (Kept w wr P0_) ∧ Aside0 (Below w0.heap.size w0 wr))
  case atStart => exact ⟨k, wrap64 ((k : Int) + 1), l, rfl, rfl, ⟨by have := HK.out; rw [HKW.out]; omega⟩, ⟨by rw [HKW.out]; exact HS.out⟩, ⟨Kd.R_below HO.out hb'⟩, ⟨Kept.of_below hb' _⟩, ⟨below_then HB.out HB.out.size hb'⟩⟩
  case round =>
   clear HI
   obtain ⟨i, j, m, rfl, rfl, HX, HV, HR, HKP, HBW⟩ := hrel
   by_cases c4 : j < (l.length : Int)
   ·have c4b0 : decide (j < (l.length : Int)) = true := decide_eq_true c4
    have c5b0 : decide (0 ≤ j) = true := decide_eq_true (by have := HX.out; omega)
    obtain ⟨ce, hcl, hM, hcc, hfr⟩ := Kd.R_elem HR.out z51 j (by have := HX.out; omega) c4
    obtain rfl := k51_openM hM
    have hx0 : wr.cell? ⟨go, j.toNat * 4, none⟩ = some (.int .i64 ((rd_T51 m j).f0)) := hcc 0 _ rfl
    have hx1 : wr.cell? ⟨go, j.toNat * 4 + 1, none⟩ = some (.int .i64 ((rd_T51 m j).f1)) := hcc 1 _ rfl
    have hx2 : wr.cell? ⟨go, j.toNat * 4 + 2, none⟩ = some (.int .i64 ((rd_T51 m j).f2)) := hcc 2 _ rfl
    have hx3 : wr.cell? ⟨go, j.toNat * 4 + 3, none⟩ = some (.int .i64 ((rd_T51 m j).f3)) := hcc 3 _ rfl
    clear hcl hcc hfr hM
    have C4 := Aside0.mk c4
    have p215 : (0 ≤ j) = True := eq_true (by have := HX.out; omega)
    have q215 : (j < (l.length : Int)) = True := eq_true c4
    clear c4
    generalize hy : rd_T51 m j = y at hx0 hx1 hx2 hx3
    have HY := Aside0.mk hy
    clear hy
    have hI : 0 ≤ i ∧ i < (l.length : Int) := by have h1 := HX.out; have h2 := C4.out; omega
    have p300 : (0 ≤ i) = True := eq_true hI.1
    have q300 : (i < (l.length : Int)) = True := eq_true hI.2
    have c6b0 : decide (0 ≤ i) = true := decide_eq_true hI.1
    have c7b0 : decide (i < (l.length : Int)) = true := decide_eq_true hI.2
    have HI := Aside0.mk hI
    clear hI
    have hcall := HP.out y (wr.alloc (.cells #[.int .i64 y.f0, .int .i64 y.f1, .int .i64 y.f2, .int .i64 y.f3] 51)) (below_alloc HBW.out _) (Kept.alloc HKP.out _)
    cases hq : p y with
    | true =>
     rw [hq] at hcall
     have HQ := Aside0.mk hq
     clear hq
     go_wp2_with (go_at_fn g; refine hcall.mono ?_; rintro e w2 ⟨rfl, hb2⟩)
     go_roundg ((l.length : Int) - (j + 1)).toNat
     case measure => have h1 := HX.out; have h3 := C4.out; omega
     case rel =>
      have hw : wrap64 (j + 1) = j + 1 := by
       have h1 := HX.out; have h2 := HBIG.out; have h3 := C4.out
       unfold wrap64; omega
      have hb1 := Kept.below (Kept.alloc HKP.out (.cells #[.int .i64 y.f0, .int .i64 y.f1, .int .i64 y.f2, .int .i64 y.f3] 51)) hb2
      have hbb := below_then (below_alloc HBW.out (.cells #[.int .i64 y.f0, .int .i64 y.f1, .int .i64 y.f2, .int .i64 y.f3] 51)) (below_alloc HBW.out _).size hb2
      refine ⟨i, wrap64 (j + 1), m, rfl, rfl, ⟨?_⟩, ⟨?_⟩, ⟨Kd.R_below (Kd.R_alloc HR.out _) hb2⟩, ⟨hb1⟩, ⟨hbb⟩⟩
      ·have h1 := HX.out; have h3 := C4.out; rw [hw]; omega
      ·rw [hw]; exact impl_Mat_111.inv_skip p l m i j HX.out.1 HX.out.2.1 C4.out HV.out (by rw [HY.out]; exact HQ.out)
    | false =>
     rw [hq] at hcall
     have HQ := Aside0.mk hq
     clear hq
     go_wp2_with (go_at_fn g; refine hcall.mono ?_; rintro e w2 ⟨rfl, hb2⟩; have hz0 : w2.cell? ⟨wr.heap.size, 0, none⟩ = some (.int .i64 y.f0) := (hb2.cell (p := ⟨wr.heap.size, 0, none⟩) (by simp)).trans (by simp); have hz1 : w2.cell? ⟨wr.heap.size, 1, none⟩ = some (.int .i64 y.f1) := (hb2.cell (p := ⟨wr.heap.size, 1, none⟩) (by simp)).trans (by simp); have hz2 : w2.cell? ⟨wr.heap.size, 2, none⟩ = some (.int .i64 y.f2) := (hb2.cell (p := ⟨wr.heap.size, 2, none⟩) (by simp)).trans (by simp); have hz3 : w2.cell? ⟨wr.heap.size, 3, none⟩ = some (.int .i64 y.f3) := (hb2.cell (p := ⟨wr.heap.size, 3, none⟩) (by simp)).trans (by simp); have HR2 := asd (Kd.R_below (Kd.R_alloc HR.out (.cells #[.int .i64 y.f0, .int .i64 y.f1, .int .i64 y.f2, .int .i64 y.f3] 51)) hb2); obtain ⟨ce2, hcl2, hM2, hcc2, hfr2⟩ := Kd.R_elem HR2.out z51 i HI.out.1 HI.out.2; obtain rfl := k51_openM hM2; have hS2 := Kd.R_seg HR2.out i HI.out.1 HI.out.2 (seg := [.int .i64 y.f0, .int .i64 y.f1, .int .i64 y.f2, .int .i64 y.f3]) (j := 0) hcl2 hcc2 (show 4 ≤ 4 from by decide) (x' := y) (k51_mkM _ _ _ y) (fun _ hk => hk); have HS2 := Aside0.mk hS2; clear hS2; have hu0 := hcc2 0 _ rfl; have hu1 := hcc2 1 _ rfl; have hu2 := hcc2 2 _ rfl; have hu3 := hcc2 3 _ rfl; have hv0 := hfr2 0; have hv1 := hfr2 1; have hv2 := hfr2 2; have hv3 := hfr2 3; simp only [show (k51).sz = 4 from rfl, Nat.add_zero] at hu0 hu1 hu2 hu3 hv0 hv1 hv2 hv3; clear hcl2 hcc2 hfr2 hM2)
     go_roundg ((l.length : Int) - (j + 1)).toNat
     case measure => have h1 := HX.out; have h3 := C4.out; omega
     case rel =>
      have hw : wrap64 (j + 1) = j + 1 := by
       have h1 := HX.out; have h2 := HBIG.out; have h3 := C4.out
       unfold wrap64; omega
      have hw2 : wrap64 (i + 1) = i + 1 := by
       have h1 := HX.out; have h2 := HBIG.out; have h3 := C4.out
       unfold wrap64; omega
      have hb1 := Kept.below (Kept.alloc HKP.out (.cells #[.int .i64 y.f0, .int .i64 y.f1, .int .i64 y.f2, .int .i64 y.f3] 51)) hb2
      have hbb := below_then (below_alloc HBW.out (.cells #[.int .i64 y.f0, .int .i64 y.f1, .int .i64 y.f2, .int .i64 y.f3] 51)) (below_alloc HBW.out _).size hb2
      refine ⟨wrap64 (i + 1), wrap64 (j + 1), m.set i.toNat y, rfl, rfl, ⟨?_⟩, ⟨?_⟩, ⟨HS2.out.1⟩, ⟨Kept.of_grown HS2.out.2 hb1 (fun k_ e_ => HR2.out.1 k_ e_)⟩, ⟨?_⟩⟩
      ·have h1 := HX.out; have h3 := C4.out; rw [hw, hw2]; omega
      ·have := impl_Mat_111.inv_keep p l m i j HX.out.1 HX.out.2.1 C4.out HV.out (by rw [HY.out]; exact HQ.out)
       rw [hw, hw2]; rw [HY.out] at this; exact this
      ·exact below_set (below_set (below_set (below_set hbb gb) gb) gb) gb
   ·have c4b0 : decide (j < (l.length : Int)) = false := decide_eq_false c4
    have hje : j = l.length := by have := HX.out; omega
    obtain ⟨i, rfl⟩ := Int.eq_ofNat_of_zero_le HX.out.1
    have hil : i < l.length := by have := HX.out; omega
    have HJ := Aside0.mk hje
    have HIL := Aside0.mk hil
    have hlc := (Kd.R_reads' HR.out).2.1
    have hcl : ∀ ty, (Builtin.clear_ #[44] ty #[.slice (some ⟨go, i * 4, none⟩) (l.length - i) (c0 - i)]).run Try.prog wr = .ok (.tuple #[]) (wr.setCells go (i * 4) (List.replicate ((l.length - i) * 4) (.int .i64 0))) := fun ty => impl_Mat_111.clear_run HR.out i hil ty _
    clear c4 hje
    go_wp2
    go_ret
    obtain ⟨xs', q1, q2, q3, q4⟩ := impl_Mat_111.clear_row (l.length - i) wr i m HR.out (by have := HIL.out; omega)
    have hv := HV.out
    have hm := hv.1
    have hR := Kd.R_take q3 (m := i) (by rw [q2, hm]; have := HIL.out; omega)
    have hfin : xs'.take i = l.filter fun x => !p x := by
     have h2 := hv.2.1
     rw [Int.toNat_natCast, HJ.out, Int.toNat_natCast, List.take_length] at h2
     rw [q1, h2]
    rw [hfin] at hR
    exact ⟨_, rfl, hR, HBW.out.grown q4 HBW.out.size (fun k_ e_ => by injection e_ with e_; subst e_; exact gb), Kept.of_grown q4 HKP.out (fun k_ e_ => HR.out.1 k_ e_)⟩
/-! ### impl_norm: function 122 -/
def impl_norm.f (a0 : Int) (a1_0 : Int) (a1_1 : Int) : Option (Int) := some (wrap64 ((wrap64 ((wrap64 (a1_0 * a1_0)) + (wrap64 ((wrap64 (a0 * a1_0)) * a1_1)))) + (wrap64 (a1_1 * a1_1))))
set_option maxHeartbeats 8000000 in
set_option maxRecDepth 100000 in
theorem impl_norm.calls (a0 : Int) (a1_0 : Int) (a1_1 : Int) (r : Int) (w : World) (h : impl_norm.f a0 a1_0 a1_1 = some r) :
  Calls Try.prog 122 #[.int .i64 a0, .agg #[.int .i64 a1_0, .int .i64 a1_1]] w fun e w' => e = .returned (.int .i64 r) ∧ Below w.heap.size w w' := by
 have hu53 := Try.underlying53
 have HB := asd (Below.refl w.heap.size w)
 have H : (some (wrap64 ((wrap64 ((wrap64 (a1_0 * a1_0)) + (wrap64 ((wrap64 (a0 * a1_0)) * a1_1)))) + (wrap64 (a1_1 * a1_1))))) = some r := h
 clear h
 obtain rfl := Option.some.inj H
 go_enter Try.func122, Try.ntmps122
 go_wp2_with (first | ((with_reducible refine gd 3 rfl ?_); refine bx #[.int .i64 a1_0, .int .i64 a1_1] 53 ?_; intro gb357 hg w3 BK357 hb; have GE357 := ngw0 hg HB; replace HB := bS0 HB hb; clear hb hg; obtain ⟨hcz4_0, hcz4_1, hfz4_0, hfz4_1⟩ := bz2 BK357))
 go_ret
 exact er (bbw1 HB GE357)

attribute [local go_sem high] eqA53
/-! ### impl_pointMats: function 112 -/
def impl_pointMats.l0 : Nat → Int → List (S51) → Int → Option ((List (S51)))
 | 0, _, _, _ => none
 | k + 1, x0, x3, x10 => if x10 < 81 then ((impl_Mat_apply.f (wrap64 ((wrap64 (Int.tdiv x10 27)) - 1)) (wrap64 ((Int.tmod (wrap64 (Int.tdiv x10 9)) 3) - 1)) (wrap64 ((Int.tmod (wrap64 (Int.tdiv x10 3)) 3) - 1)) (wrap64 ((Int.tmod x10 3) - 1)) 1 0).bind fun bt362 => ((impl_Mat_apply.f (wrap64 ((wrap64 (Int.tdiv x10 27)) - 1)) (wrap64 ((Int.tmod (wrap64 (Int.tdiv x10 9)) 3) - 1)) (wrap64 ((Int.tmod (wrap64 (Int.tdiv x10 3)) 3) - 1)) (wrap64 ((Int.tmod x10 3) - 1)) 0 1).bind fun bt364 => ((impl_Mat_apply.f (wrap64 ((wrap64 (Int.tdiv x10 27)) - 1)) (wrap64 ((Int.tmod (wrap64 (Int.tdiv x10 9)) 3) - 1)) (wrap64 ((Int.tmod (wrap64 (Int.tdiv x10 3)) 3) - 1)) (wrap64 ((Int.tmod x10 3) - 1)) 1 1).bind fun bt366 => ((impl_norm.f x0 bt362.1 bt362.2).bind fun t371 => (if t371 = 1 then ((impl_norm.f x0 bt364.1 bt364.2).bind fun t372 => (if t372 = 1 then ((impl_norm.f x0 bt366.1 bt366.2).bind fun t373 => (if t373 = (wrap64 (2 + x0)) then (if x3.length < 4398046511104 then (impl_pointMats.l0 k x0 (x3 ++ [(⟨wrap64 ((wrap64 (Int.tdiv x10 27)) - 1), wrap64 ((Int.tmod (wrap64 (Int.tdiv x10 9)) 3) - 1), wrap64 ((Int.tmod (wrap64 (Int.tdiv x10 3)) 3) - 1), wrap64 ((Int.tmod x10 3) - 1)⟩ : S51)]) (wrap64 (x10 + 1))) else (none)) else (impl_pointMats.l0 k x0 x3 (wrap64 (x10 + 1))))) else (impl_pointMats.l0 k x0 x3 (wrap64 (x10 + 1))))) else (impl_pointMats.l0 k x0 x3 (wrap64 (x10 + 1)))))))) else (some x3)
def impl_pointMats.f (k : Nat) (a0 : Int) : Option ((List (S51))) := impl_pointMats.l0 k a0 (([] : List (S51))) 0
def impl_pointMats.T6 : Bool × List (List Nat × List Nat) := (true, [([], []), ([], []), ([0, 1], [0, 1]), ([], []), ([], []), ([3, 4, 2], [3, 4]), ([], []), ([], []), ([6, 7, 5], [6, 7]), ([], []), ([], []), ([], []), ([9, 2, 8, 0, 1, 2, 9, 10, 11], [2, 9]), ([10, 5, 12, 0, 1, 2, 3, 4, 5, 9, 10, 11, 12], [5, 10]), ([11, 8, 13, 0, 1, 2, 3, 4, 5, 6, 7, 8, 9, 10, 11, 12, 13], [8, 11])])
def impl_pointMats.B6 : List Nat := [0, 0, 3, 0, 0, 31, 0, 0, 255, 0, 0, 0, 4095, 8191, 16383]
theorem impl_pointMats.tab6 : rtab .any (opsOf Try.f112 6) = impl_pointMats.T6 := by kernel_rfl
theorem impl_pointMats.bits6 : waitsOk impl_pointMats.T6.2 impl_pointMats.B6 = true := by kernel_rfl
set_option maxHeartbeats 8000000 in
set_option maxRecDepth 100000 in
theorem impl_pointMats.calls (k : Nat) (a0 : Int) (r : List (S51)) (w : World) (h : impl_pointMats.f k a0 = some r) :
  Calls Try.prog 112 #[.int .i64 a0] w fun e w' => ∃ v0_ : Value, e = .returned (v0_) ∧ Kd.R k51 51 w' w.heap.size (fun _ => True) v0_ r ∧ Below w.heap.size w w' := by
 have hu51 := Try.underlying51
 have hu53 := Try.underlying53
 have HB := asd (Below.refl w.heap.size w)
 have H : (impl_pointMats.l0 k a0 (([] : List (S51))) 0) = some r := h
 clear h
 obtain ⟨y358, hy358⟩ : ∃ y_ : List (S51), y_ = (([] : List (S51))) := ⟨_, rfl⟩
 replace H : (impl_pointMats.l0 k a0 y358 0) = some r := by first | (rw [hy358]; with_reducible exact H) | (have H2_ := (Option.bind_some _ _).symm.trans H; rw [hy358]; with_reducible exact H2_) | (have H2_ := (Option.bind_some _ _).symm.trans H; with_reducible exact H2_) | with_reducible exact H | (rw [hy358]; exact H) | exact H
 have Ny358 := Aside0.mk hy358
 clear hy358
 have H' := Aside0.mk H
 clear H
 go_enter Try.func112, Try.ntmps112
 go_wp2_with (first | ((with_reducible refine gd 9 rfl ?_); refine Kd.R_lit k51 _ 51 ?hg (N := 9) ?hd (xs := ([] : List (S51))) (inner := []) (ok := fun _ => True) (okp := fun _ => True) ?hr ?hp (fun _ hk => hk) trivial (Below.refl _ _) (Nat.le_refl _) (by simp) ?_; (case hd => rfl); (case hg => rfl); (case hr => first | (go_simp; done) | (go_simp; rfl)); (case hp => exact (Reps.none _ _)); intro v359 w2 ho3 hb hg_ hnew_; clear hg_ hnew_; (first | rw [← Ny358.out] at ho3 | (simp only [Int.reduceToNat] at ho3; rw [← Ny358.out] at ho3)); have HO360 := asd (Kd.R_lower ho3 (bsz0 HB)); replace HB := bS0 HB hb; clear hb ho3))
 go_loopg [3, 10] k (fun kq v3 v10 w' => ∃ (x3_1 : List (S51)) (x10_1 : Int), v10 = .int .i64 x10_1 ∧ Aside0 (impl_pointMats.l0 kq a0 x3_1 x10_1 = some r) ∧ Aside0 (kq ≤ k) ∧ Aside0 (Kd.R k51 51 w' w.heap.size (fun _ => True) v3 x3_1) ∧ Aside0 (Below w.heap.size w w'))
 case atStart => exact ⟨(y358), (0), (by first | rfl | (simp; done) | (simp [*]; done)), H', ⟨Nat.le_refl _⟩, ⟨by (with_reducible repeat (first | apply Kd.R_alloc | apply Kd.R_drewN | apply Kd.R_drew)); exact HO360.out⟩, ⟨bbw0 HB⟩⟩
 case round =>
  clear H'
  try clear c1
  try clear p2
  obtain ⟨x3_1, x10_1, rfl, HA, HK1, HO_3, HB⟩ := hrel
  cases gk with
  | zero => exact absurd HA.out (by simp [impl_pointMats.l0])
  | succ k1 =>
   have H := HA.out
   clear HA
   simp only [impl_pointMats.l0] at H
   by_cases c4 : x10_1 < 81
   ·rw [if_pos c4] at H
    have c4b0 := decide_eq_true c4
    clear c4
    obtain ⟨⟨t362, t363⟩, A5, H⟩ := ob H
    try dsimp only at H
    obtain ⟨⟨t364, t365⟩, A6, H⟩ := ob H
    try dsimp only at H
    obtain ⟨⟨t366, t367⟩, A7, H⟩ := ob H
    try dsimp only at H
    have Hq_ := Aside0.mk H
    clear H
    try go_wp2_with (first | ((with_reducible refine gd 5 rfl ?_); refine bx #[.int .i64 0, .int .i64 0, .int .i64 0, .int .i64 0] 51 ?_; intro gb361 hg w15 BK361 hb; replace HO_3 := asd (Kd.R_below (Kd.R_elderB (kr HO_3) gb361 (Nat.le_of_eq hg.symm)) hb); have GE361 := ngw0 hg HB; replace HB := bS0 HB hb; clear hb hg; obtain ⟨hcz16_0, hcz16_1, hcz16_2, hcz16_3, hfz16_0, hfz16_1, hfz16_2, hfz16_3⟩ := bz4 BK361))
    obtain ⟨w17, h_w17⟩ : ∃ w_, ((((w15.setCell ⟨gb361, 0, none⟩ (.int .i64 (wrap64 ((wrap64 (Int.tdiv x10_1 27)) - 1)))).setCell ⟨gb361, 1, none⟩ (.int .i64 (wrap64 ((Int.tmod (wrap64 (Int.tdiv x10_1 9)) 3) - 1)))).setCell ⟨gb361, 2, none⟩ (.int .i64 (wrap64 ((Int.tmod (wrap64 (Int.tdiv x10_1 3)) 3) - 1)))).setCell ⟨gb361, 3, none⟩ (.int .i64 (wrap64 ((Int.tmod x10_1 3) - 1)))) = w_ := ⟨_, rfl⟩
    replace HO_3 : Aside0 (Kd.R k51 51 w17 w.heap.size (fun k_ => k_ ≠ gb361) u3 x3_1) := by rw [← h_w17]; exact ⟨by (with_reducible repeat (first | apply Kd.R_alloc | apply Kd.R_drewN | apply Kd.R_drew)); exact Kd.R_mono (rw4 (Kd.R_mono HO_3.out (fun k_ hk => (⟨hk, hk.2⟩ : _ ∧ k_ ≠ gb361)))) (fun _ hk => hk.1.2)⟩
    replace BK361 : Aside0 (w17.heap[gb361]? = some (.cells #[.int .i64 (wrap64 ((wrap64 (Int.tdiv x10_1 27)) - 1)), .int .i64 (wrap64 ((Int.tmod (wrap64 (Int.tdiv x10_1 9)) 3) - 1)), .int .i64 (wrap64 ((Int.tmod (wrap64 (Int.tdiv x10_1 3)) 3) - 1)), .int .i64 (wrap64 ((Int.tmod x10_1 3) - 1))] 51 (0, 0))) := by rw [← h_w17]; exact ⟨bq0 BK361⟩
    replace HB : Aside0 (Below w.heap.size w w17) := by rw [← h_w17]; exact ⟨bbw1 HB GE361⟩
    (try rw [h_w17]); clear h_w17
    replace HO_3 := asd (Kd.R_drew HO_3.out)
    replace BK361 := asd (blk_drew BK361.out)
    replace HB := asd (below_drew1 HB.out)
    refine start_ (n := 15) (S := fun w' => True) (ds := []) (bt 15 0) (by kernel_rfl) rfl rfl trivial (fun hHeld => ?_); refine with_tabW impl_pointMats.tab6 impl_pointMats.bits6 (fun HT_ HW_ => ?_)
    generalize w17.drew = w18 at HO_3 BK361 HB hHeld ⊢
    refine inv_at [0, 1, 2, 3, 4, 5, 6, 7, 8, 9, 10, 11, 12, 13, 14] (fun a0_ b a w' => ∃ (gb368 : Nat) (gb369 : Nat) (gb370 : Nat) (m9_ : Value) (m10_ : Value) (m11_ : Value), a = putSel a0_ b [(0, 28, .agg #[.int .i64 (wrap64 ((wrap64 (Int.tdiv x10_1 27)) - 1)), .int .i64 (wrap64 ((Int.tmod (wrap64 (Int.tdiv x10_1 9)) 3) - 1)), .int .i64 (wrap64 ((Int.tmod (wrap64 (Int.tdiv x10_1 3)) 3) - 1)), .int .i64 (wrap64 ((Int.tmod x10_1 3) - 1))]), (1, 29, .agg #[.int .i64 1, .int .i64 0]), (2, 30, .agg #[.int .i64 t362, .int .i64 t363]), (3, 31, .agg #[.int .i64 (wrap64 ((wrap64 (Int.tdiv x10_1 27)) - 1)), .int .i64 (wrap64 ((Int.tmod (wrap64 (Int.tdiv x10_1 9)) 3) - 1)), .int .i64 (wrap64 ((Int.tmod (wrap64 (Int.tdiv x10_1 3)) 3) - 1)), .int .i64 (wrap64 ((Int.tmod x10_1 3) - 1))]), (4, 32, .agg #[.int .i64 0, .int .i64 1]), (5, 33, .agg #[.int .i64 t364, .int .i64 t365]), (6, 34, .agg #[.int .i64 (wrap64 ((wrap64 (Int.tdiv x10_1 27)) - 1)), .int .i64 (wrap64 ((Int.tmod (wrap64 (Int.tdiv x10_1 9)) 3) - 1)), .int .i64 (wrap64 ((Int.tmod (wrap64 (Int.tdiv x10_1 3)) 3) - 1)), .int .i64 (wrap64 ((Int.tmod x10_1 3) - 1))]), (7, 35, .agg #[.int .i64 1, .int .i64 1]), (8, 36, .agg #[.int .i64 t366, .int .i64 t367]), (9, 6, m9_), (10, 7, m10_), (11, 8, m11_)] ∧ (Kd.R k51 51 w' w.heap.size (fun k_ => k_ ≠ gb361) u3 x3_1) ∧ (w'.heap[gb361]? = some (.cells #[.int .i64 (wrap64 ((wrap64 (Int.tdiv x10_1 27)) - 1)), .int .i64 (wrap64 ((Int.tmod (wrap64 (Int.tdiv x10_1 9)) 3) - 1)), .int .i64 (wrap64 ((Int.tmod (wrap64 (Int.tdiv x10_1 3)) 3) - 1)), .int .i64 (wrap64 ((Int.tmod x10_1 3) - 1))] 51 (0, 0))) ∧ (Below w.heap.size w w') ∧ (b 9 = true → b 10 = true → gb369 ≠ gb368) ∧ (b 9 = true → b 10 = true → gb368 ≠ gb369) ∧ (b 9 = true → b 11 = true → gb370 ≠ gb368) ∧ (b 9 = true → b 11 = true → gb368 ≠ gb370) ∧ (b 10 = true → b 11 = true → gb370 ≠ gb369) ∧ (b 10 = true → b 11 = true → gb369 ≠ gb370) ∧ (b 9 = true → b 12 = false → w'.heap[gb368]? = some (.cells #[.int .i64 0, .int .i64 0] 53 (0, 0))) ∧ (b 9 = true → w.heap.size ≤ gb368) ∧ (b 9 = true → w.heap.size ≤ gb368) ∧ (b 9 = true → gb361 ≠ gb368) ∧ (b 9 = true → gb368 ≠ gb361) ∧ (b 10 = true → b 13 = false → w'.heap[gb369]? = some (.cells #[.int .i64 0, .int .i64 0] 53 (0, 0))) ∧ (b 10 = true → w.heap.size ≤ gb369) ∧ (b 10 = true → w.heap.size ≤ gb369) ∧ (b 10 = true → gb361 ≠ gb369) ∧ (b 10 = true → gb369 ≠ gb361) ∧ (b 11 = true → b 14 = false → w'.heap[gb370]? = some (.cells #[.int .i64 0, .int .i64 0] 53 (0, 0))) ∧ (b 11 = true → w.heap.size ≤ gb370) ∧ (b 11 = true → w.heap.size ≤ gb370) ∧ (b 11 = true → gb361 ≠ gb370) ∧ (b 11 = true → gb370 ≠ gb361) ∧ (b 12 = true → w'.heap[gb368]? = some (.cells #[.int .i64 t362, .int .i64 t363] 53 (0, 0))) ∧ (b 13 = true → w'.heap[gb369]? = some (.cells #[.int .i64 t364, .int .i64 t365] 53 (0, 0))) ∧ (b 14 = true → w'.heap[gb370]? = some (.cells #[.int .i64 t366, .int .i64 t367] 53 (0, 0))) ∧ (b 9 = true → (m9_ : Value) = .pointer (some ⟨gb368, 0, none⟩)) ∧ (b 10 = true → (m10_ : Value) = .pointer (some ⟨gb369, 0, none⟩)) ∧ (b 11 = true → (m11_ : Value) = .pointer (some ⟨gb370, 0, none⟩))) HT_.out HW_.out (by kernel_rfl) (by kernel_rfl) ?_ ?_ ?_
    ·exact ⟨0, 0, 0, .bool false, .bool false, .bool false, by simp only [putSel, Bool.false_eq_true, if_false], HO_3.out, BK361.out, HB.out, fun h_ => absurd h_ (by decide), fun h_ => absurd h_ (by decide), fun h_ => absurd h_ (by decide), fun h_ => absurd h_ (by decide), fun h_ => absurd h_ (by decide), fun h_ => absurd h_ (by decide), fun h_ => absurd h_ (by decide), fun h_ => absurd h_ (by decide), fun h_ => absurd h_ (by decide), fun h_ => absurd h_ (by decide), fun h_ => absurd h_ (by decide), fun h_ => absurd h_ (by decide), fun h_ => absurd h_ (by decide), fun h_ => absurd h_ (by decide), fun h_ => absurd h_ (by decide), fun h_ => absurd h_ (by decide), fun h_ => absurd h_ (by decide), fun h_ => absurd h_ (by decide), fun h_ => absurd h_ (by decide), fun h_ => absurd h_ (by decide), fun h_ => absurd h_ (by decide), fun h_ => absurd h_ (by decide), fun h_ => absurd h_ (by decide), fun h_ => absurd h_ (by decide), fun h_ => absurd h_ (by decide), fun h_ => absurd h_ (by decide), fun h_ => absurd h_ (by decide)⟩
    ·skip
     clear BK361 HB HO_3
     refine steps_cons ?_ ?_
     ·rintro b a w' ⟨gb368, gb369, gb370, m9_, m10_, m11_, ha, Q_HO_3, Q_BK361, Q_HB, Q_NB369_368, Q_NB368_369, Q_NB370_368, Q_NB368_370, Q_NB370_369, Q_NB369_370, Q_BK368, Q_GW368, Q_GE368, Q_NB361_368, Q_NB368_361, Q_BK369, Q_GW369, Q_GE369, Q_NB361_369, Q_NB369_361, Q_BK370, Q_GW370, Q_GE370, Q_NB361_370, Q_NB370_361, Q_BK368_e12, Q_BK369_e13, Q_BK370_e14, Q_X9_, Q_X10_, Q_X11_⟩ hb_ hon hoff
      refine ⟨_, rfl, fun K hK => ?_⟩
      have e5 : a.tmps[5]? = some (.pointer (some ⟨gb361, 0, none⟩)) := by rw [ha]; exact (putSel_off rfl).trans rfl
      replace ha := Aside0.mk ha
      have HO_3 := Aside0.mk Q_HO_3
      have BK361 := Aside0.mk Q_BK361
      have HB := Aside0.mk Q_HB
      have hc0_ : w'.cell? ⟨gb361, 0, none⟩ = some (.int .i64 (wrap64 ((wrap64 (Int.tdiv x10_1 27)) - 1))) := bcl BK361 0
      have hc1_ : w'.cell? ⟨gb361, 1, none⟩ = some (.int .i64 (wrap64 ((Int.tmod (wrap64 (Int.tdiv x10_1 9)) 3) - 1))) := bcl BK361 1
      have hc2_ : w'.cell? ⟨gb361, 2, none⟩ = some (.int .i64 (wrap64 ((Int.tmod (wrap64 (Int.tdiv x10_1 3)) 3) - 1))) := bcl BK361 2
      have hc3_ : w'.cell? ⟨gb361, 3, none⟩ = some (.int .i64 (wrap64 ((Int.tmod x10_1 3) - 1))) := bcl BK361 3
      refine value_ (w1 := w') (v := .agg #[.int .i64 (wrap64 ((wrap64 (Int.tdiv x10_1 27)) - 1)), .int .i64 (wrap64 ((Int.tmod (wrap64 (Int.tdiv x10_1 9)) 3) - 1)), .int .i64 (wrap64 ((Int.tmod (wrap64 (Int.tdiv x10_1 3)) 3) - 1)), .int .i64 (wrap64 ((Int.tmod x10_1 3) - 1))]) (by rfl) rfl ?_ ?_
      ·go_simp
       (try simp only [i64_w])
       try rfl
      refine hK.out _ _ ⟨gb368, gb369, gb370, m9_, m10_, m11_, (by rw [ha.out]; exact putSel_upk 0 hb_ rfl rfl rfl), Q_HO_3, Q_BK361, Q_HB, Q_NB369_368, Q_NB368_369, Q_NB370_368, Q_NB368_370, Q_NB370_369, Q_NB369_370, Q_BK368, Q_GW368, Q_GE368, Q_NB361_368, Q_NB368_361, Q_BK369, Q_GW369, Q_GE369, Q_NB361_369, Q_NB369_361, Q_BK370, Q_GW370, Q_GE370, Q_NB361_370, Q_NB370_361, fun h0_ => absurd ((hoff 12 (by kernel_rfl)).symm.trans h0_) (by decide), fun h0_ => absurd ((hoff 13 (by kernel_rfl)).symm.trans h0_) (by decide), fun h0_ => absurd ((hoff 14 (by kernel_rfl)).symm.trans h0_) (by decide), Q_X9_, Q_X10_, Q_X11_⟩
     refine steps_cons ?_ ?_
     ·rintro b a w' ⟨gb368, gb369, gb370, m9_, m10_, m11_, ha, Q_HO_3, Q_BK361, Q_HB, Q_NB369_368, Q_NB368_369, Q_NB370_368, Q_NB368_370, Q_NB370_369, Q_NB369_370, Q_BK368, Q_GW368, Q_GE368, Q_NB361_368, Q_NB368_361, Q_BK369, Q_GW369, Q_GE369, Q_NB361_369, Q_NB369_361, Q_BK370, Q_GW370, Q_GE370, Q_NB361_370, Q_NB370_361, Q_BK368_e12, Q_BK369_e13, Q_BK370_e14, Q_X9_, Q_X10_, Q_X11_⟩ hb_ hon hoff
      refine ⟨_, rfl, fun K hK => ?_⟩
      replace ha := Aside0.mk ha
      have HO_3 := Aside0.mk Q_HO_3
      have BK361 := Aside0.mk Q_BK361
      have HB := Aside0.mk Q_HB
      refine value_ (w1 := w') (v := .agg #[.int .i64 1, .int .i64 0]) (by rfl) rfl ?_ ?_
      ·go_simp
       (try simp only [i64_w])
       try rfl
      refine hK.out _ _ ⟨gb368, gb369, gb370, m9_, m10_, m11_, (by rw [ha.out]; exact putSel_upk 1 hb_ rfl rfl rfl), Q_HO_3, Q_BK361, Q_HB, Q_NB369_368, Q_NB368_369, Q_NB370_368, Q_NB368_370, Q_NB370_369, Q_NB369_370, Q_BK368, Q_GW368, Q_GE368, Q_NB361_368, Q_NB368_361, Q_BK369, Q_GW369, Q_GE369, Q_NB361_369, Q_NB369_361, Q_BK370, Q_GW370, Q_GE370, Q_NB361_370, Q_NB370_361, fun h0_ => absurd ((hoff 12 (by kernel_rfl)).symm.trans h0_) (by decide), fun h0_ => absurd ((hoff 13 (by kernel_rfl)).symm.trans h0_) (by decide), fun h0_ => absurd ((hoff 14 (by kernel_rfl)).symm.trans h0_) (by decide), Q_X9_, Q_X10_, Q_X11_⟩
     refine steps_cons ?_ ?_
     ·rintro b a w' ⟨gb368, gb369, gb370, m9_, m10_, m11_, ha, Q_HO_3, Q_BK361, Q_HB, Q_NB369_368, Q_NB368_369, Q_NB370_368, Q_NB368_370, Q_NB370_369, Q_NB369_370, Q_BK368, Q_GW368, Q_GE368, Q_NB361_368, Q_NB368_361, Q_BK369, Q_GW369, Q_GE369, Q_NB361_369, Q_NB369_361, Q_BK370, Q_GW370, Q_GE370, Q_NB361_370, Q_NB370_361, Q_BK368_e12, Q_BK369_e13, Q_BK370_e14, Q_X9_, Q_X10_, Q_X11_⟩ hb_ hon hoff
      refine ⟨_, rfl, fun K hK => ?_⟩
      have e28 : a.tmps[28]? = some (.agg #[.int .i64 (wrap64 ((wrap64 (Int.tdiv x10_1 27)) - 1)), .int .i64 (wrap64 ((Int.tmod (wrap64 (Int.tdiv x10_1 9)) 3) - 1)), .int .i64 (wrap64 ((Int.tmod (wrap64 (Int.tdiv x10_1 3)) 3) - 1)), .int .i64 (wrap64 ((Int.tmod x10_1 3) - 1))]) := by rw [ha]; exact putSel_on (e := (0, 28, .agg #[.int .i64 (wrap64 ((wrap64 (Int.tdiv x10_1 27)) - 1)), .int .i64 (wrap64 ((Int.tmod (wrap64 (Int.tdiv x10_1 9)) 3) - 1)), .int .i64 (wrap64 ((Int.tmod (wrap64 (Int.tdiv x10_1 3)) 3) - 1)), .int .i64 (wrap64 ((Int.tmod x10_1 3) - 1))])) 0 rfl rfl (hon 0 (by kernel_rfl)) rfl
      have e29 : a.tmps[29]? = some (.agg #[.int .i64 1, .int .i64 0]) := by rw [ha]; exact putSel_on (e := (1, 29, .agg #[.int .i64 1, .int .i64 0])) 1 rfl rfl (hon 1 (by kernel_rfl)) rfl
      replace ha := Aside0.mk ha
      have HO_3 := Aside0.mk Q_HO_3
      have BK361 := Aside0.mk Q_BK361
      have HB := Aside0.mk Q_HB
      refine goes_ Try.func81 (by kernel_rfl) rfl #[.agg #[.int .i64 (wrap64 ((wrap64 (Int.tdiv x10_1 27)) - 1)), .int .i64 (wrap64 ((Int.tmod (wrap64 (Int.tdiv x10_1 9)) 3) - 1)), .int .i64 (wrap64 ((Int.tmod (wrap64 (Int.tdiv x10_1 3)) 3) - 1)), .int .i64 (wrap64 ((Int.tmod x10_1 3) - 1))], .agg #[.int .i64 1, .int .i64 0]] (by rfl) rfl rfl (by first | (simp only [List.map_toArray, List.map_cons, List.map_nil, Act.eval, Array.getD_eq_getD_getElem?, Option.getD_some, e28, e29]; done) | (simp only [List.map_toArray, List.map_cons, List.map_nil, Act.eval, Array.getD_eq_getD_getElem?, Option.getD_some, e28, e29]; rfl)) ?_
      with_reducible refine (impl_Mat_apply.calls _ _ _ _ _ _ _ _ _ A5.out).mono ?_
      rintro e w19 ⟨rfl, hb⟩
      refine ⟨_, rfl, ?_⟩
      have n0_ := asd (Kd.R_below (kr HO_3) hb)
      have n1_ := bB BK361 hb
      have n2_ := bS1 HB GE361 hb
      have z_BK368 := fun (h0_ : b 9 = true) (h1_ : b 12 = false) => (show w19.heap[gb368]? = some (.cells #[.int .i64 0, .int .i64 0] 53 (0, 0)) from by first | exact (blk_below (g := gb368) (o := .cells #[.int .i64 0, .int .i64 0] 53 (0, 0)) (by (with_reducible repeat (first | refine blk_drewN ?_ _ | refine blk_drew ?_ | refine blk_alloc ?_ _)); exact (Q_BK368 h0_ h1_)) hb))
      have z_BK369 := fun (h0_ : b 10 = true) (h1_ : b 13 = false) => (show w19.heap[gb369]? = some (.cells #[.int .i64 0, .int .i64 0] 53 (0, 0)) from by first | exact (blk_below (g := gb369) (o := .cells #[.int .i64 0, .int .i64 0] 53 (0, 0)) (by (with_reducible repeat (first | refine blk_drewN ?_ _ | refine blk_drew ?_ | refine blk_alloc ?_ _)); exact (Q_BK369 h0_ h1_)) hb))
      have z_BK370 := fun (h0_ : b 11 = true) (h1_ : b 14 = false) => (show w19.heap[gb370]? = some (.cells #[.int .i64 0, .int .i64 0] 53 (0, 0)) from by first | exact (blk_below (g := gb370) (o := .cells #[.int .i64 0, .int .i64 0] 53 (0, 0)) (by (with_reducible repeat (first | refine blk_drewN ?_ _ | refine blk_drew ?_ | refine blk_alloc ?_ _)); exact (Q_BK370 h0_ h1_)) hb))
      clear HO_3
      clear BK361
      clear HB
      have HO_3 := n0_
      have BK361 := n1_
      have HB := n2_
      clear n0_ n1_ n2_
      (try clear hb)
      (try clear hb2)
      (try clear hk)
      (try clear hi)
      refine hK.out _ _ ⟨gb368, gb369, gb370, m9_, m10_, m11_, (by rw [ha.out]; exact putSel_upk 2 hb_ rfl rfl rfl), (kr HO_3), (bkp BK361), (bbw1 HB GE361), Q_NB369_368, Q_NB368_369, Q_NB370_368, Q_NB368_370, Q_NB370_369, Q_NB369_370, z_BK368, Q_GW368, Q_GE368, Q_NB361_368, Q_NB368_361, z_BK369, Q_GW369, Q_GE369, Q_NB361_369, Q_NB369_361, z_BK370, Q_GW370, Q_GE370, Q_NB361_370, Q_NB370_361, fun h0_ => absurd ((hoff 12 (by kernel_rfl)).symm.trans h0_) (by decide), fun h0_ => absurd ((hoff 13 (by kernel_rfl)).symm.trans h0_) (by decide), fun h0_ => absurd ((hoff 14 (by kernel_rfl)).symm.trans h0_) (by decide), Q_X9_, Q_X10_, Q_X11_⟩
     refine steps_cons ?_ ?_
     ·rintro b a w' ⟨gb368, gb369, gb370, m9_, m10_, m11_, ha, Q_HO_3, Q_BK361, Q_HB, Q_NB369_368, Q_NB368_369, Q_NB370_368, Q_NB368_370, Q_NB370_369, Q_NB369_370, Q_BK368, Q_GW368, Q_GE368, Q_NB361_368, Q_NB368_361, Q_BK369, Q_GW369, Q_GE369, Q_NB361_369, Q_NB369_361, Q_BK370, Q_GW370, Q_GE370, Q_NB361_370, Q_NB370_361, Q_BK368_e12, Q_BK369_e13, Q_BK370_e14, Q_X9_, Q_X10_, Q_X11_⟩ hb_ hon hoff
      refine ⟨_, rfl, fun K hK => ?_⟩
      have e5 : a.tmps[5]? = some (.pointer (some ⟨gb361, 0, none⟩)) := by rw [ha]; exact (putSel_off rfl).trans rfl
      replace ha := Aside0.mk ha
      have HO_3 := Aside0.mk Q_HO_3
      have BK361 := Aside0.mk Q_BK361
      have HB := Aside0.mk Q_HB
      have hc0_ : w'.cell? ⟨gb361, 0, none⟩ = some (.int .i64 (wrap64 ((wrap64 (Int.tdiv x10_1 27)) - 1))) := bcl BK361 0
      have hc1_ : w'.cell? ⟨gb361, 1, none⟩ = some (.int .i64 (wrap64 ((Int.tmod (wrap64 (Int.tdiv x10_1 9)) 3) - 1))) := bcl BK361 1
      have hc2_ : w'.cell? ⟨gb361, 2, none⟩ = some (.int .i64 (wrap64 ((Int.tmod (wrap64 (Int.tdiv x10_1 3)) 3) - 1))) := bcl BK361 2
      have hc3_ : w'.cell? ⟨gb361, 3, none⟩ = some (.int .i64 (wrap64 ((Int.tmod x10_1 3) - 1))) := bcl BK361 3
      refine value_ (w1 := w') (v := .agg #[.int .i64 (wrap64 ((wrap64 (Int.tdiv x10_1 27)) - 1)), .int .i64 (wrap64 ((Int.tmod (wrap64 (Int.tdiv x10_1 9)) 3) - 1)), .int .i64 (wrap64 ((Int.tmod (wrap64 (Int.tdiv x10_1 3)) 3) - 1)), .int .i64 (wrap64 ((Int.tmod x10_1 3) - 1))]) (by rfl) rfl ?_ ?_
      ·go_simp
       (try simp only [i64_w])
       try rfl
      refine hK.out _ _ ⟨gb368, gb369, gb370, m9_, m10_, m11_, (by rw [ha.out]; exact putSel_upk 3 hb_ rfl rfl rfl), Q_HO_3, Q_BK361, Q_HB, Q_NB369_368, Q_NB368_369, Q_NB370_368, Q_NB368_370, Q_NB370_369, Q_NB369_370, Q_BK368, Q_GW368, Q_GE368, Q_NB361_368, Q_NB368_361, Q_BK369, Q_GW369, Q_GE369, Q_NB361_369, Q_NB369_361, Q_BK370, Q_GW370, Q_GE370, Q_NB361_370, Q_NB370_361, fun h0_ => absurd ((hoff 12 (by kernel_rfl)).symm.trans h0_) (by decide), fun h0_ => absurd ((hoff 13 (by kernel_rfl)).symm.trans h0_) (by decide), fun h0_ => absurd ((hoff 14 (by kernel_rfl)).symm.trans h0_) (by decide), Q_X9_, Q_X10_, Q_X11_⟩
     refine steps_cons ?_ ?_
     ·rintro b a w' ⟨gb368, gb369, gb370, m9_, m10_, m11_, ha, Q_HO_3, Q_BK361, Q_HB, Q_NB369_368, Q_NB368_369, Q_NB370_368, Q_NB368_370, Q_NB370_369, Q_NB369_370, Q_BK368, Q_GW368, Q_GE368, Q_NB361_368, Q_NB368_361, Q_BK369, Q_GW369, Q_GE369, Q_NB361_369, Q_NB369_361, Q_BK370, Q_GW370, Q_GE370, Q_NB361_370, Q_NB370_361, Q_BK368_e12, Q_BK369_e13, Q_BK370_e14, Q_X9_, Q_X10_, Q_X11_⟩ hb_ hon hoff
      refine ⟨_, rfl, fun K hK => ?_⟩
      replace ha := Aside0.mk ha
      have HO_3 := Aside0.mk Q_HO_3
      have BK361 := Aside0.mk Q_BK361
      have HB := Aside0.mk Q_HB
      refine value_ (w1 := w') (v := .agg #[.int .i64 0, .int .i64 1]) (by rfl) rfl ?_ ?_
      ·go_simp
       (try simp only [i64_w])
       try rfl
      refine hK.out _ _ ⟨gb368, gb369, gb370, m9_, m10_, m11_, (by rw [ha.out]; exact putSel_upk 4 hb_ rfl rfl rfl), Q_HO_3, Q_BK361, Q_HB, Q_NB369_368, Q_NB368_369, Q_NB370_368, Q_NB368_370, Q_NB370_369, Q_NB369_370, Q_BK368, Q_GW368, Q_GE368, Q_NB361_368, Q_NB368_361, Q_BK369, Q_GW369, Q_GE369, Q_NB361_369, Q_NB369_361, Q_BK370, Q_GW370, Q_GE370, Q_NB361_370, Q_NB370_361, fun h0_ => absurd ((hoff 12 (by kernel_rfl)).symm.trans h0_) (by decide), fun h0_ => absurd ((hoff 13 (by kernel_rfl)).symm.trans h0_) (by decide), fun h0_ => absurd ((hoff 14 (by kernel_rfl)).symm.trans h0_) (by decide), Q_X9_, Q_X10_, Q_X11_⟩
     refine steps_cons ?_ ?_
     ·rintro b a w' ⟨gb368, gb369, gb370, m9_, m10_, m11_, ha, Q_HO_3, Q_BK361, Q_HB, Q_NB369_368, Q_NB368_369, Q_NB370_368, Q_NB368_370, Q_NB370_369, Q_NB369_370, Q_BK368, Q_GW368, Q_GE368, Q_NB361_368, Q_NB368_361, Q_BK369, Q_GW369, Q_GE369, Q_NB361_369, Q_NB369_361, Q_BK370, Q_GW370, Q_GE370, Q_NB361_370, Q_NB370_361, Q_BK368_e12, Q_BK369_e13, Q_BK370_e14, Q_X9_, Q_X10_, Q_X11_⟩ hb_ hon hoff
      refine ⟨_, rfl, fun K hK => ?_⟩
      have e31 : a.tmps[31]? = some (.agg #[.int .i64 (wrap64 ((wrap64 (Int.tdiv x10_1 27)) - 1)), .int .i64 (wrap64 ((Int.tmod (wrap64 (Int.tdiv x10_1 9)) 3) - 1)), .int .i64 (wrap64 ((Int.tmod (wrap64 (Int.tdiv x10_1 3)) 3) - 1)), .int .i64 (wrap64 ((Int.tmod x10_1 3) - 1))]) := by rw [ha]; exact putSel_on (e := (3, 31, .agg #[.int .i64 (wrap64 ((wrap64 (Int.tdiv x10_1 27)) - 1)), .int .i64 (wrap64 ((Int.tmod (wrap64 (Int.tdiv x10_1 9)) 3) - 1)), .int .i64 (wrap64 ((Int.tmod (wrap64 (Int.tdiv x10_1 3)) 3) - 1)), .int .i64 (wrap64 ((Int.tmod x10_1 3) - 1))])) 3 rfl rfl (hon 3 (by kernel_rfl)) rfl
      have e32 : a.tmps[32]? = some (.agg #[.int .i64 0, .int .i64 1]) := by rw [ha]; exact putSel_on (e := (4, 32, .agg #[.int .i64 0, .int .i64 1])) 4 rfl rfl (hon 4 (by kernel_rfl)) rfl
      replace ha := Aside0.mk ha
      have HO_3 := Aside0.mk Q_HO_3
      have BK361 := Aside0.mk Q_BK361
      have HB := Aside0.mk Q_HB
      refine goes_ Try.func81 (by kernel_rfl) rfl #[.agg #[.int .i64 (wrap64 ((wrap64 (Int.tdiv x10_1 27)) - 1)), .int .i64 (wrap64 ((Int.tmod (wrap64 (Int.tdiv x10_1 9)) 3) - 1)), .int .i64 (wrap64 ((Int.tmod (wrap64 (Int.tdiv x10_1 3)) 3) - 1)), .int .i64 (wrap64 ((Int.tmod x10_1 3) - 1))], .agg #[.int .i64 0, .int .i64 1]] (by rfl) rfl rfl (by first | (simp only [List.map_toArray, List.map_cons, List.map_nil, Act.eval, Array.getD_eq_getD_getElem?, Option.getD_some, e31, e32]; done) | (simp only [List.map_toArray, List.map_cons, List.map_nil, Act.eval, Array.getD_eq_getD_getElem?, Option.getD_some, e31, e32]; rfl)) ?_
      with_reducible refine (impl_Mat_apply.calls _ _ _ _ _ _ _ _ _ A6.out).mono ?_
      rintro e w21 ⟨rfl, hb⟩
      refine ⟨_, rfl, ?_⟩
      have n0_ := asd (Kd.R_below (kr HO_3) hb)
      have n1_ := bB BK361 hb
      have n2_ := bS1 HB GE361 hb
      have z_BK368 := fun (h0_ : b 9 = true) (h1_ : b 12 = false) => (show w21.heap[gb368]? = some (.cells #[.int .i64 0, .int .i64 0] 53 (0, 0)) from by first | exact (blk_below (g := gb368) (o := .cells #[.int .i64 0, .int .i64 0] 53 (0, 0)) (by (with_reducible repeat (first | refine blk_drewN ?_ _ | refine blk_drew ?_ | refine blk_alloc ?_ _)); exact (Q_BK368 h0_ h1_)) hb))
      have z_BK369 := fun (h0_ : b 10 = true) (h1_ : b 13 = false) => (show w21.heap[gb369]? = some (.cells #[.int .i64 0, .int .i64 0] 53 (0, 0)) from by first | exact (blk_below (g := gb369) (o := .cells #[.int .i64 0, .int .i64 0] 53 (0, 0)) (by (with_reducible repeat (first | refine blk_drewN ?_ _ | refine blk_drew ?_ | refine blk_alloc ?_ _)); exact (Q_BK369 h0_ h1_)) hb))
      have z_BK370 := fun (h0_ : b 11 = true) (h1_ : b 14 = false) => (show w21.heap[gb370]? = some (.cells #[.int .i64 0, .int .i64 0] 53 (0, 0)) from by first | exact (blk_below (g := gb370) (o := .cells #[.int .i64 0, .int .i64 0] 53 (0, 0)) (by (with_reducible repeat (first | refine blk_drewN ?_ _ | refine blk_drew ?_ | refine blk_alloc ?_ _)); exact (Q_BK370 h0_ h1_)) hb))
      clear HO_3
      clear BK361
      clear HB
      have HO_3 := n0_
      have BK361 := n1_
      have HB := n2_
      clear n0_ n1_ n2_
      (try clear hb)
      (try clear hb2)
      (try clear hk)
      (try clear hi)
      refine hK.out _ _ ⟨gb368, gb369, gb370, m9_, m10_, m11_, (by rw [ha.out]; exact putSel_upk 5 hb_ rfl rfl rfl), (kr HO_3), (bkp BK361), (bbw1 HB GE361), Q_NB369_368, Q_NB368_369, Q_NB370_368, Q_NB368_370, Q_NB370_369, Q_NB369_370, z_BK368, Q_GW368, Q_GE368, Q_NB361_368, Q_NB368_361, z_BK369, Q_GW369, Q_GE369, Q_NB361_369, Q_NB369_361, z_BK370, Q_GW370, Q_GE370, Q_NB361_370, Q_NB370_361, fun h0_ => absurd ((hoff 12 (by kernel_rfl)).symm.trans h0_) (by decide), fun h0_ => absurd ((hoff 13 (by kernel_rfl)).symm.trans h0_) (by decide), fun h0_ => absurd ((hoff 14 (by kernel_rfl)).symm.trans h0_) (by decide), Q_X9_, Q_X10_, Q_X11_⟩
     refine steps_cons ?_ ?_
     ·rintro b a w' ⟨gb368, gb369, gb370, m9_, m10_, m11_, ha, Q_HO_3, Q_BK361, Q_HB, Q_NB369_368, Q_NB368_369, Q_NB370_368, Q_NB368_370, Q_NB370_369, Q_NB369_370, Q_BK368, Q_GW368, Q_GE368, Q_NB361_368, Q_NB368_361, Q_BK369, Q_GW369, Q_GE369, Q_NB361_369, Q_NB369_361, Q_BK370, Q_GW370, Q_GE370, Q_NB361_370, Q_NB370_361, Q_BK368_e12, Q_BK369_e13, Q_BK370_e14, Q_X9_, Q_X10_, Q_X11_⟩ hb_ hon hoff
      refine ⟨_, rfl, fun K hK => ?_⟩
      have e5 : a.tmps[5]? = some (.pointer (some ⟨gb361, 0, none⟩)) := by rw [ha]; exact (putSel_off rfl).trans rfl
      replace ha := Aside0.mk ha
      have HO_3 := Aside0.mk Q_HO_3
      have BK361 := Aside0.mk Q_BK361
      have HB := Aside0.mk Q_HB
      have hc0_ : w'.cell? ⟨gb361, 0, none⟩ = some (.int .i64 (wrap64 ((wrap64 (Int.tdiv x10_1 27)) - 1))) := bcl BK361 0
      have hc1_ : w'.cell? ⟨gb361, 1, none⟩ = some (.int .i64 (wrap64 ((Int.tmod (wrap64 (Int.tdiv x10_1 9)) 3) - 1))) := bcl BK361 1
      have hc2_ : w'.cell? ⟨gb361, 2, none⟩ = some (.int .i64 (wrap64 ((Int.tmod (wrap64 (Int.tdiv x10_1 3)) 3) - 1))) := bcl BK361 2
      have hc3_ : w'.cell? ⟨gb361, 3, none⟩ = some (.int .i64 (wrap64 ((Int.tmod x10_1 3) - 1))) := bcl BK361 3
      refine value_ (w1 := w') (v := .agg #[.int .i64 (wrap64 ((wrap64 (Int.tdiv x10_1 27)) - 1)), .int .i64 (wrap64 ((Int.tmod (wrap64 (Int.tdiv x10_1 9)) 3) - 1)), .int .i64 (wrap64 ((Int.tmod (wrap64 (Int.tdiv x10_1 3)) 3) - 1)), .int .i64 (wrap64 ((Int.tmod x10_1 3) - 1))]) (by rfl) rfl ?_ ?_
      ·go_simp
       (try simp only [i64_w])
       try rfl
      refine hK.out _ _ ⟨gb368, gb369, gb370, m9_, m10_, m11_, (by rw [ha.out]; exact putSel_upk 6 hb_ rfl rfl rfl), Q_HO_3, Q_BK361, Q_HB, Q_NB369_368, Q_NB368_369, Q_NB370_368, Q_NB368_370, Q_NB370_369, Q_NB369_370, Q_BK368, Q_GW368, Q_GE368, Q_NB361_368, Q_NB368_361, Q_BK369, Q_GW369, Q_GE369, Q_NB361_369, Q_NB369_361, Q_BK370, Q_GW370, Q_GE370, Q_NB361_370, Q_NB370_361, fun h0_ => absurd ((hoff 12 (by kernel_rfl)).symm.trans h0_) (by decide), fun h0_ => absurd ((hoff 13 (by kernel_rfl)).symm.trans h0_) (by decide), fun h0_ => absurd ((hoff 14 (by kernel_rfl)).symm.trans h0_) (by decide), Q_X9_, Q_X10_, Q_X11_⟩
     refine steps_cons ?_ ?_
     ·rintro b a w' ⟨gb368, gb369, gb370, m9_, m10_, m11_, ha, Q_HO_3, Q_BK361, Q_HB, Q_NB369_368, Q_NB368_369, Q_NB370_368, Q_NB368_370, Q_NB370_369, Q_NB369_370, Q_BK368, Q_GW368, Q_GE368, Q_NB361_368, Q_NB368_361, Q_BK369, Q_GW369, Q_GE369, Q_NB361_369, Q_NB369_361, Q_BK370, Q_GW370, Q_GE370, Q_NB361_370, Q_NB370_361, Q_BK368_e12, Q_BK369_e13, Q_BK370_e14, Q_X9_, Q_X10_, Q_X11_⟩ hb_ hon hoff
      refine ⟨_, rfl, fun K hK => ?_⟩
      replace ha := Aside0.mk ha
      have HO_3 := Aside0.mk Q_HO_3
      have BK361 := Aside0.mk Q_BK361
      have HB := Aside0.mk Q_HB
      refine value_ (w1 := w') (v := .agg #[.int .i64 1, .int .i64 1]) (by rfl) rfl ?_ ?_
      ·go_simp
       (try simp only [i64_w])
       try rfl
      refine hK.out _ _ ⟨gb368, gb369, gb370, m9_, m10_, m11_, (by rw [ha.out]; exact putSel_upk 7 hb_ rfl rfl rfl), Q_HO_3, Q_BK361, Q_HB, Q_NB369_368, Q_NB368_369, Q_NB370_368, Q_NB368_370, Q_NB370_369, Q_NB369_370, Q_BK368, Q_GW368, Q_GE368, Q_NB361_368, Q_NB368_361, Q_BK369, Q_GW369, Q_GE369, Q_NB361_369, Q_NB369_361, Q_BK370, Q_GW370, Q_GE370, Q_NB361_370, Q_NB370_361, fun h0_ => absurd ((hoff 12 (by kernel_rfl)).symm.trans h0_) (by decide), fun h0_ => absurd ((hoff 13 (by kernel_rfl)).symm.trans h0_) (by decide), fun h0_ => absurd ((hoff 14 (by kernel_rfl)).symm.trans h0_) (by decide), Q_X9_, Q_X10_, Q_X11_⟩
     refine steps_cons ?_ ?_
     ·rintro b a w' ⟨gb368, gb369, gb370, m9_, m10_, m11_, ha, Q_HO_3, Q_BK361, Q_HB, Q_NB369_368, Q_NB368_369, Q_NB370_368, Q_NB368_370, Q_NB370_369, Q_NB369_370, Q_BK368, Q_GW368, Q_GE368, Q_NB361_368, Q_NB368_361, Q_BK369, Q_GW369, Q_GE369, Q_NB361_369, Q_NB369_361, Q_BK370, Q_GW370, Q_GE370, Q_NB361_370, Q_NB370_361, Q_BK368_e12, Q_BK369_e13, Q_BK370_e14, Q_X9_, Q_X10_, Q_X11_⟩ hb_ hon hoff
      refine ⟨_, rfl, fun K hK => ?_⟩
      have e34 : a.tmps[34]? = some (.agg #[.int .i64 (wrap64 ((wrap64 (Int.tdiv x10_1 27)) - 1)), .int .i64 (wrap64 ((Int.tmod (wrap64 (Int.tdiv x10_1 9)) 3) - 1)), .int .i64 (wrap64 ((Int.tmod (wrap64 (Int.tdiv x10_1 3)) 3) - 1)), .int .i64 (wrap64 ((Int.tmod x10_1 3) - 1))]) := by rw [ha]; exact putSel_on (e := (6, 34, .agg #[.int .i64 (wrap64 ((wrap64 (Int.tdiv x10_1 27)) - 1)), .int .i64 (wrap64 ((Int.tmod (wrap64 (Int.tdiv x10_1 9)) 3) - 1)), .int .i64 (wrap64 ((Int.tmod (wrap64 (Int.tdiv x10_1 3)) 3) - 1)), .int .i64 (wrap64 ((Int.tmod x10_1 3) - 1))])) 6 rfl rfl (hon 6 (by kernel_rfl)) rfl
      have e35 : a.tmps[35]? = some (.agg #[.int .i64 1, .int .i64 1]) := by rw [ha]; exact putSel_on (e := (7, 35, .agg #[.int .i64 1, .int .i64 1])) 7 rfl rfl (hon 7 (by kernel_rfl)) rfl
      replace ha := Aside0.mk ha
      have HO_3 := Aside0.mk Q_HO_3
      have BK361 := Aside0.mk Q_BK361
      have HB := Aside0.mk Q_HB
      refine goes_ Try.func81 (by kernel_rfl) rfl #[.agg #[.int .i64 (wrap64 ((wrap64 (Int.tdiv x10_1 27)) - 1)), .int .i64 (wrap64 ((Int.tmod (wrap64 (Int.tdiv x10_1 9)) 3) - 1)), .int .i64 (wrap64 ((Int.tmod (wrap64 (Int.tdiv x10_1 3)) 3) - 1)), .int .i64 (wrap64 ((Int.tmod x10_1 3) - 1))], .agg #[.int .i64 1, .int .i64 1]] (by rfl) rfl rfl (by first | (simp only [List.map_toArray, List.map_cons, List.map_nil, Act.eval, Array.getD_eq_getD_getElem?, Option.getD_some, e34, e35]; done) | (simp only [List.map_toArray, List.map_cons, List.map_nil, Act.eval, Array.getD_eq_getD_getElem?, Option.getD_some, e34, e35]; rfl)) ?_
      with_reducible refine (impl_Mat_apply.calls _ _ _ _ _ _ _ _ _ A7.out).mono ?_
      rintro e w22 ⟨rfl, hb⟩
      refine ⟨_, rfl, ?_⟩
      have n0_ := asd (Kd.R_below (kr HO_3) hb)
      have n1_ := bB BK361 hb
      have n2_ := bS1 HB GE361 hb
      have z_BK368 := fun (h0_ : b 9 = true) (h1_ : b 12 = false) => (show w22.heap[gb368]? = some (.cells #[.int .i64 0, .int .i64 0] 53 (0, 0)) from by first | exact (blk_below (g := gb368) (o := .cells #[.int .i64 0, .int .i64 0] 53 (0, 0)) (by (with_reducible repeat (first | refine blk_drewN ?_ _ | refine blk_drew ?_ | refine blk_alloc ?_ _)); exact (Q_BK368 h0_ h1_)) hb))
      have z_BK369 := fun (h0_ : b 10 = true) (h1_ : b 13 = false) => (show w22.heap[gb369]? = some (.cells #[.int .i64 0, .int .i64 0] 53 (0, 0)) from by first | exact (blk_below (g := gb369) (o := .cells #[.int .i64 0, .int .i64 0] 53 (0, 0)) (by (with_reducible repeat (first | refine blk_drewN ?_ _ | refine blk_drew ?_ | refine blk_alloc ?_ _)); exact (Q_BK369 h0_ h1_)) hb))
      have z_BK370 := fun (h0_ : b 11 = true) (h1_ : b 14 = false) => (show w22.heap[gb370]? = some (.cells #[.int .i64 0, .int .i64 0] 53 (0, 0)) from by first | exact (blk_below (g := gb370) (o := .cells #[.int .i64 0, .int .i64 0] 53 (0, 0)) (by (with_reducible repeat (first | refine blk_drewN ?_ _ | refine blk_drew ?_ | refine blk_alloc ?_ _)); exact (Q_BK370 h0_ h1_)) hb))
      clear HO_3
      clear BK361
      clear HB
      have HO_3 := n0_
      have BK361 := n1_
      have HB := n2_
      clear n0_ n1_ n2_
      (try clear hb)
      (try clear hb2)
      (try clear hk)
      (try clear hi)
      refine hK.out _ _ ⟨gb368, gb369, gb370, m9_, m10_, m11_, (by rw [ha.out]; exact putSel_upk 8 hb_ rfl rfl rfl), (kr HO_3), (bkp BK361), (bbw1 HB GE361), Q_NB369_368, Q_NB368_369, Q_NB370_368, Q_NB368_370, Q_NB370_369, Q_NB369_370, z_BK368, Q_GW368, Q_GE368, Q_NB361_368, Q_NB368_361, z_BK369, Q_GW369, Q_GE369, Q_NB361_369, Q_NB369_361, z_BK370, Q_GW370, Q_GE370, Q_NB361_370, Q_NB370_361, fun h0_ => absurd ((hoff 12 (by kernel_rfl)).symm.trans h0_) (by decide), fun h0_ => absurd ((hoff 13 (by kernel_rfl)).symm.trans h0_) (by decide), fun h0_ => absurd ((hoff 14 (by kernel_rfl)).symm.trans h0_) (by decide), Q_X9_, Q_X10_, Q_X11_⟩
     refine steps_cons ?_ ?_
     ·rintro b a w' ⟨gb368, gb369, gb370, m9_, m10_, m11_, ha, Q_HO_3, Q_BK361, Q_HB, Q_NB369_368, Q_NB368_369, Q_NB370_368, Q_NB368_370, Q_NB370_369, Q_NB369_370, Q_BK368, Q_GW368, Q_GE368, Q_NB361_368, Q_NB368_361, Q_BK369, Q_GW369, Q_GE369, Q_NB361_369, Q_NB369_361, Q_BK370, Q_GW370, Q_GE370, Q_NB361_370, Q_NB370_361, Q_BK368_e12, Q_BK369_e13, Q_BK370_e14, Q_X9_, Q_X10_, Q_X11_⟩ hb_ hon hoff
      refine ⟨_, rfl, fun K hK => ?_⟩
      replace ha := Aside0.mk ha
      have HO_3 := Aside0.mk Q_HO_3
      have BK361 := Aside0.mk Q_BK361
      have HB := Aside0.mk Q_HB
      refine box_step ?hg (N := 6) ?hd (cs := #[.int .i64 0, .int .i64 0]) (t := 53) ?hr ?_; (case hd => rfl); (case hg => rfl); (case hr => first | (go_simp; done) | (go_simp; rfl))
      intro gb368 hg w19 hbox hb
      have n0_ := asd (Kd.R_below (kr HO_3) hb)
      have n1_ := bB BK361 hb
      have n2_ := bS1 HB GE361 hb
      have n3_ := asd (hbox)
      have n4_ := ngw1 hg HB GE361
      have n5_ := ngw1 hg HB GE361
      have n6_ := nlt hg BK361
      have n7_ := nsy (nlt hg BK361)
      have z_NB369_368 := fun (h0_ : up b 9 9 = true) (h1_ : up b 9 10 = true) => (show gb369 ≠ gb368 from ((by rw [hg]; exact Nat.ne_of_lt (by cases hq_ : b 13 with | false => exact blk_lt (g := gb369) (Q_BK369 h1_ hq_) | true => exact blk_lt (g := gb369) (Q_BK369_e13 hq_)) : gb369 ≠ gb368)))
      have z_NB368_369 := fun (h0_ : up b 9 9 = true) (h1_ : up b 9 10 = true) => (show gb368 ≠ gb369 from ((by rw [hg]; exact Nat.ne_of_gt (by cases hq_ : b 13 with | false => exact blk_lt (g := gb369) (Q_BK369 h1_ hq_) | true => exact blk_lt (g := gb369) (Q_BK369_e13 hq_)) : gb368 ≠ gb369)))
      have z_NB370_368 := fun (h0_ : up b 9 9 = true) (h1_ : up b 9 11 = true) => (show gb370 ≠ gb368 from ((by rw [hg]; exact Nat.ne_of_lt (by cases hq_ : b 14 with | false => exact blk_lt (g := gb370) (Q_BK370 h1_ hq_) | true => exact blk_lt (g := gb370) (Q_BK370_e14 hq_)) : gb370 ≠ gb368)))
      have z_NB368_370 := fun (h0_ : up b 9 9 = true) (h1_ : up b 9 11 = true) => (show gb368 ≠ gb370 from ((by rw [hg]; exact Nat.ne_of_gt (by cases hq_ : b 14 with | false => exact blk_lt (g := gb370) (Q_BK370 h1_ hq_) | true => exact blk_lt (g := gb370) (Q_BK370_e14 hq_)) : gb368 ≠ gb370)))
      have z_BK369 := fun (h0_ : b 10 = true) (h1_ : b 13 = false) => (show w19.heap[gb369]? = some (.cells #[.int .i64 0, .int .i64 0] 53 (0, 0)) from by first | exact (blk_below (g := gb369) (o := .cells #[.int .i64 0, .int .i64 0] 53 (0, 0)) (by (with_reducible repeat (first | refine blk_drewN ?_ _ | refine blk_drew ?_ | refine blk_alloc ?_ _)); exact (Q_BK369 h0_ h1_)) hb))
      have z_BK370 := fun (h0_ : b 11 = true) (h1_ : b 14 = false) => (show w19.heap[gb370]? = some (.cells #[.int .i64 0, .int .i64 0] 53 (0, 0)) from by first | exact (blk_below (g := gb370) (o := .cells #[.int .i64 0, .int .i64 0] 53 (0, 0)) (by (with_reducible repeat (first | refine blk_drewN ?_ _ | refine blk_drew ?_ | refine blk_alloc ?_ _)); exact (Q_BK370 h0_ h1_)) hb))
      clear HO_3
      clear BK361
      clear HB
      have HO_3 := n0_
      have BK361 := n1_
      have HB := n2_
      have BK368 := n3_
      have GW368 := n4_
      have GE368 := n5_
      have NB361_368 := n6_
      have NB368_361 := n7_
      clear n0_ n1_ n2_ n3_ n4_ n5_ n6_ n7_
      clear hb hbox hg
      refine hK.out _ _ ⟨gb368, gb369, gb370, (.pointer (some ⟨gb368, 0, none⟩)), m10_, m11_, (by rw [ha.out]; exact putSel_upk 9 hb_ rfl rfl rfl), (kr HO_3), (bkp BK361), (bbw2 HB GE361 GE368), @z_NB369_368, @z_NB368_369, @z_NB370_368, @z_NB368_370, Q_NB370_369, Q_NB369_370, fun _ _ => (bkp BK368), fun _ => GW368.out, fun _ => GE368.out, fun _ => NB361_368.out, fun _ => NB368_361.out, z_BK369, Q_GW369, Q_GE369, Q_NB361_369, Q_NB369_361, z_BK370, Q_GW370, Q_GE370, Q_NB361_370, Q_NB370_361, fun h0_ => absurd ((hoff 12 (by kernel_rfl)).symm.trans h0_) (by decide), fun h0_ => absurd ((hoff 13 (by kernel_rfl)).symm.trans h0_) (by decide), fun h0_ => absurd ((hoff 14 (by kernel_rfl)).symm.trans h0_) (by decide), fun _ => rfl, Q_X10_, Q_X11_⟩
     refine steps_cons ?_ ?_
     ·rintro b a w' ⟨gb368, gb369, gb370, m9_, m10_, m11_, ha, Q_HO_3, Q_BK361, Q_HB, Q_NB369_368, Q_NB368_369, Q_NB370_368, Q_NB368_370, Q_NB370_369, Q_NB369_370, Q_BK368, Q_GW368, Q_GE368, Q_NB361_368, Q_NB368_361, Q_BK369, Q_GW369, Q_GE369, Q_NB361_369, Q_NB369_361, Q_BK370, Q_GW370, Q_GE370, Q_NB361_370, Q_NB370_361, Q_BK368_e12, Q_BK369_e13, Q_BK370_e14, Q_X9_, Q_X10_, Q_X11_⟩ hb_ hon hoff
      refine ⟨_, rfl, fun K hK => ?_⟩
      replace ha := Aside0.mk ha
      have HO_3 := Aside0.mk Q_HO_3
      have BK361 := Aside0.mk Q_BK361
      have HB := Aside0.mk Q_HB
      refine box_step ?hg (N := 7) ?hd (cs := #[.int .i64 0, .int .i64 0]) (t := 53) ?hr ?_; (case hd => rfl); (case hg => rfl); (case hr => first | (go_simp; done) | (go_simp; rfl))
      intro gb369 hg w19 hbox hb
      have n0_ := asd (Kd.R_below (kr HO_3) hb)
      have n1_ := bB BK361 hb
      have n2_ := bS1 HB GE361 hb
      have n3_ := asd (hbox)
      have n4_ := ngw1 hg HB GE361
      have n5_ := ngw1 hg HB GE361
      have n6_ := nlt hg BK361
      have n7_ := nsy (nlt hg BK361)
      have z_NB369_368 := fun (h0_ : up b 10 9 = true) (h1_ : up b 10 10 = true) => (show gb369 ≠ gb368 from ((by rw [hg]; exact Nat.ne_of_gt (by cases hq_ : b 12 with | false => exact blk_lt (g := gb368) (Q_BK368 h0_ hq_) | true => exact blk_lt (g := gb368) (Q_BK368_e12 hq_)) : gb369 ≠ gb368)))
      have z_NB368_369 := fun (h0_ : up b 10 9 = true) (h1_ : up b 10 10 = true) => (show gb368 ≠ gb369 from ((by rw [hg]; exact Nat.ne_of_lt (by cases hq_ : b 12 with | false => exact blk_lt (g := gb368) (Q_BK368 h0_ hq_) | true => exact blk_lt (g := gb368) (Q_BK368_e12 hq_)) : gb368 ≠ gb369)))
      have z_NB370_369 := fun (h0_ : up b 10 10 = true) (h1_ : up b 10 11 = true) => (show gb370 ≠ gb369 from ((by rw [hg]; exact Nat.ne_of_lt (by cases hq_ : b 14 with | false => exact blk_lt (g := gb370) (Q_BK370 h1_ hq_) | true => exact blk_lt (g := gb370) (Q_BK370_e14 hq_)) : gb370 ≠ gb369)))
      have z_NB369_370 := fun (h0_ : up b 10 10 = true) (h1_ : up b 10 11 = true) => (show gb369 ≠ gb370 from ((by rw [hg]; exact Nat.ne_of_gt (by cases hq_ : b 14 with | false => exact blk_lt (g := gb370) (Q_BK370 h1_ hq_) | true => exact blk_lt (g := gb370) (Q_BK370_e14 hq_)) : gb369 ≠ gb370)))
      have z_BK368 := fun (h0_ : b 9 = true) (h1_ : b 12 = false) => (show w19.heap[gb368]? = some (.cells #[.int .i64 0, .int .i64 0] 53 (0, 0)) from by first | exact (blk_below (g := gb368) (o := .cells #[.int .i64 0, .int .i64 0] 53 (0, 0)) (by (with_reducible repeat (first | refine blk_drewN ?_ _ | refine blk_drew ?_ | refine blk_alloc ?_ _)); exact (Q_BK368 h0_ h1_)) hb))
      have z_BK370 := fun (h0_ : b 11 = true) (h1_ : b 14 = false) => (show w19.heap[gb370]? = some (.cells #[.int .i64 0, .int .i64 0] 53 (0, 0)) from by first | exact (blk_below (g := gb370) (o := .cells #[.int .i64 0, .int .i64 0] 53 (0, 0)) (by (with_reducible repeat (first | refine blk_drewN ?_ _ | refine blk_drew ?_ | refine blk_alloc ?_ _)); exact (Q_BK370 h0_ h1_)) hb))
      clear HO_3
      clear BK361
      clear HB
      have HO_3 := n0_
      have BK361 := n1_
      have HB := n2_
      have BK369 := n3_
      have GW369 := n4_
      have GE369 := n5_
      have NB361_369 := n6_
      have NB369_361 := n7_
      clear n0_ n1_ n2_ n3_ n4_ n5_ n6_ n7_
      clear hb hbox hg
      refine hK.out _ _ ⟨gb368, gb369, gb370, m9_, (.pointer (some ⟨gb369, 0, none⟩)), m11_, (by rw [ha.out]; exact putSel_upk 10 hb_ rfl rfl rfl), (kr HO_3), (bkp BK361), (bbw2 HB GE361 GE369), @z_NB369_368, @z_NB368_369, Q_NB370_368, Q_NB368_370, @z_NB370_369, @z_NB369_370, z_BK368, Q_GW368, Q_GE368, Q_NB361_368, Q_NB368_361, fun _ _ => (bkp BK369), fun _ => GW369.out, fun _ => GE369.out, fun _ => NB361_369.out, fun _ => NB369_361.out, z_BK370, Q_GW370, Q_GE370, Q_NB361_370, Q_NB370_361, fun h0_ => absurd ((hoff 12 (by kernel_rfl)).symm.trans h0_) (by decide), fun h0_ => absurd ((hoff 13 (by kernel_rfl)).symm.trans h0_) (by decide), fun h0_ => absurd ((hoff 14 (by kernel_rfl)).symm.trans h0_) (by decide), Q_X9_, fun _ => rfl, Q_X11_⟩
     refine steps_cons ?_ ?_
     ·rintro b a w' ⟨gb368, gb369, gb370, m9_, m10_, m11_, ha, Q_HO_3, Q_BK361, Q_HB, Q_NB369_368, Q_NB368_369, Q_NB370_368, Q_NB368_370, Q_NB370_369, Q_NB369_370, Q_BK368, Q_GW368, Q_GE368, Q_NB361_368, Q_NB368_361, Q_BK369, Q_GW369, Q_GE369, Q_NB361_369, Q_NB369_361, Q_BK370, Q_GW370, Q_GE370, Q_NB361_370, Q_NB370_361, Q_BK368_e12, Q_BK369_e13, Q_BK370_e14, Q_X9_, Q_X10_, Q_X11_⟩ hb_ hon hoff
      refine ⟨_, rfl, fun K hK => ?_⟩
      replace ha := Aside0.mk ha
      have HO_3 := Aside0.mk Q_HO_3
      have BK361 := Aside0.mk Q_BK361
      have HB := Aside0.mk Q_HB
      refine box_step ?hg (N := 8) ?hd (cs := #[.int .i64 0, .int .i64 0]) (t := 53) ?hr ?_; (case hd => rfl); (case hg => rfl); (case hr => first | (go_simp; done) | (go_simp; rfl))
      intro gb370 hg w19 hbox hb
      have n0_ := asd (Kd.R_below (kr HO_3) hb)
      have n1_ := bB BK361 hb
      have n2_ := bS1 HB GE361 hb
      have n3_ := asd (hbox)
      have n4_ := ngw1 hg HB GE361
      have n5_ := ngw1 hg HB GE361
      have n6_ := nlt hg BK361
      have n7_ := nsy (nlt hg BK361)
      have z_NB370_368 := fun (h0_ : up b 11 9 = true) (h1_ : up b 11 11 = true) => (show gb370 ≠ gb368 from ((by rw [hg]; exact Nat.ne_of_gt (by cases hq_ : b 12 with | false => exact blk_lt (g := gb368) (Q_BK368 h0_ hq_) | true => exact blk_lt (g := gb368) (Q_BK368_e12 hq_)) : gb370 ≠ gb368)))
      have z_NB368_370 := fun (h0_ : up b 11 9 = true) (h1_ : up b 11 11 = true) => (show gb368 ≠ gb370 from ((by rw [hg]; exact Nat.ne_of_lt (by cases hq_ : b 12 with | false => exact blk_lt (g := gb368) (Q_BK368 h0_ hq_) | true => exact blk_lt (g := gb368) (Q_BK368_e12 hq_)) : gb368 ≠ gb370)))
      have z_NB370_369 := fun (h0_ : up b 11 10 = true) (h1_ : up b 11 11 = true) => (show gb370 ≠ gb369 from ((by rw [hg]; exact Nat.ne_of_gt (by cases hq_ : b 13 with | false => exact blk_lt (g := gb369) (Q_BK369 h0_ hq_) | true => exact blk_lt (g := gb369) (Q_BK369_e13 hq_)) : gb370 ≠ gb369)))
      have z_NB369_370 := fun (h0_ : up b 11 10 = true) (h1_ : up b 11 11 = true) => (show gb369 ≠ gb370 from ((by rw [hg]; exact Nat.ne_of_lt (by cases hq_ : b 13 with | false => exact blk_lt (g := gb369) (Q_BK369 h0_ hq_) | true => exact blk_lt (g := gb369) (Q_BK369_e13 hq_)) : gb369 ≠ gb370)))
      have z_BK368 := fun (h0_ : b 9 = true) (h1_ : b 12 = false) => (show w19.heap[gb368]? = some (.cells #[.int .i64 0, .int .i64 0] 53 (0, 0)) from by first | exact (blk_below (g := gb368) (o := .cells #[.int .i64 0, .int .i64 0] 53 (0, 0)) (by (with_reducible repeat (first | refine blk_drewN ?_ _ | refine blk_drew ?_ | refine blk_alloc ?_ _)); exact (Q_BK368 h0_ h1_)) hb))
      have z_BK369 := fun (h0_ : b 10 = true) (h1_ : b 13 = false) => (show w19.heap[gb369]? = some (.cells #[.int .i64 0, .int .i64 0] 53 (0, 0)) from by first | exact (blk_below (g := gb369) (o := .cells #[.int .i64 0, .int .i64 0] 53 (0, 0)) (by (with_reducible repeat (first | refine blk_drewN ?_ _ | refine blk_drew ?_ | refine blk_alloc ?_ _)); exact (Q_BK369 h0_ h1_)) hb))
      clear HO_3
      clear BK361
      clear HB
      have HO_3 := n0_
      have BK361 := n1_
      have HB := n2_
      have BK370 := n3_
      have GW370 := n4_
      have GE370 := n5_
      have NB361_370 := n6_
      have NB370_361 := n7_
      clear n0_ n1_ n2_ n3_ n4_ n5_ n6_ n7_
      clear hb hbox hg
      refine hK.out _ _ ⟨gb368, gb369, gb370, m9_, m10_, (.pointer (some ⟨gb370, 0, none⟩)), (by rw [ha.out]; exact putSel_upk 11 hb_ rfl rfl rfl), (kr HO_3), (bkp BK361), (bbw2 HB GE361 GE370), Q_NB369_368, Q_NB368_369, @z_NB370_368, @z_NB368_370, @z_NB370_369, @z_NB369_370, z_BK368, Q_GW368, Q_GE368, Q_NB361_368, Q_NB368_361, z_BK369, Q_GW369, Q_GE369, Q_NB361_369, Q_NB369_361, fun _ _ => (bkp BK370), fun _ => GW370.out, fun _ => GE370.out, fun _ => NB361_370.out, fun _ => NB370_361.out, fun h0_ => absurd ((hoff 12 (by kernel_rfl)).symm.trans h0_) (by decide), fun h0_ => absurd ((hoff 13 (by kernel_rfl)).symm.trans h0_) (by decide), fun h0_ => absurd ((hoff 14 (by kernel_rfl)).symm.trans h0_) (by decide), Q_X9_, Q_X10_, fun _ => rfl⟩
     refine steps_cons ?_ ?_
     ·rintro b a w' ⟨gb368, gb369, gb370, m9_, m10_, m11_, ha, Q_HO_3, Q_BK361, Q_HB, Q_NB369_368, Q_NB368_369, Q_NB370_368, Q_NB368_370, Q_NB370_369, Q_NB369_370, Q_BK368, Q_GW368, Q_GE368, Q_NB361_368, Q_NB368_361, Q_BK369, Q_GW369, Q_GE369, Q_NB361_369, Q_NB369_361, Q_BK370, Q_GW370, Q_GE370, Q_NB361_370, Q_NB370_361, Q_BK368_e12, Q_BK369_e13, Q_BK370_e14, Q_X9_, Q_X10_, Q_X11_⟩ hb_ hon hoff
      refine ⟨_, rfl, fun K hK => ?_⟩
      have e6 : a.tmps[6]? = some (m9_) := by rw [ha]; exact putSel_on (e := (9, 6, m9_)) 9 rfl rfl (hon 9 (by kernel_rfl)) rfl
      rw [Q_X9_ (hon 9 (by kernel_rfl))] at e6
      have e30 : a.tmps[30]? = some (.agg #[.int .i64 t362, .int .i64 t363]) := by rw [ha]; exact putSel_on (e := (2, 30, .agg #[.int .i64 t362, .int .i64 t363])) 2 rfl rfl (hon 2 (by kernel_rfl)) rfl
      replace ha := Aside0.mk ha
      have HO_3 := Aside0.mk Q_HO_3
      have BK361 := Aside0.mk Q_BK361
      have HB := Aside0.mk Q_HB
      have NB369_368 := asd (Q_NB369_368 (hon 9 (by kernel_rfl)) (hon 10 (by kernel_rfl)))
      have NB368_369 := asd (Q_NB368_369 (hon 9 (by kernel_rfl)) (hon 10 (by kernel_rfl)))
      have NB370_368 := asd (Q_NB370_368 (hon 9 (by kernel_rfl)) (hon 11 (by kernel_rfl)))
      have NB368_370 := asd (Q_NB368_370 (hon 9 (by kernel_rfl)) (hon 11 (by kernel_rfl)))
      have NB370_369 := asd (Q_NB370_369 (hon 10 (by kernel_rfl)) (hon 11 (by kernel_rfl)))
      have NB369_370 := asd (Q_NB369_370 (hon 10 (by kernel_rfl)) (hon 11 (by kernel_rfl)))
      have BK368 := asd (Q_BK368 (hon 9 (by kernel_rfl)) hb_)
      have GW368 := asd (Q_GW368 (hon 9 (by kernel_rfl)))
      have GE368 := asd (Q_GE368 (hon 9 (by kernel_rfl)))
      have NB361_368 := asd (Q_NB361_368 (hon 9 (by kernel_rfl)))
      have NB368_361 := asd (Q_NB368_361 (hon 9 (by kernel_rfl)))
      have BK369 := asd (Q_BK369 (hon 10 (by kernel_rfl)) (hoff 13 (by kernel_rfl)))
      have GW369 := asd (Q_GW369 (hon 10 (by kernel_rfl)))
      have GE369 := asd (Q_GE369 (hon 10 (by kernel_rfl)))
      have NB361_369 := asd (Q_NB361_369 (hon 10 (by kernel_rfl)))
      have NB369_361 := asd (Q_NB369_361 (hon 10 (by kernel_rfl)))
      have BK370 := asd (Q_BK370 (hon 11 (by kernel_rfl)) (hoff 14 (by kernel_rfl)))
      have GW370 := asd (Q_GW370 (hon 11 (by kernel_rfl)))
      have GE370 := asd (Q_GE370 (hon 11 (by kernel_rfl)))
      have NB361_370 := asd (Q_NB361_370 (hon 11 (by kernel_rfl)))
      have NB370_361 := asd (Q_NB370_361 (hon 11 (by kernel_rfl)))
      have hs26 : w'.cell? ⟨gb368, 0, none⟩ = some (.int .i64 0) := bcl BK368 0
      have hfs26 := blk_frozen BK368.out 0
      have hns26_0 := NB361_368.out
      have hns26_2 := NB369_368.out
      have hns26_3 := NB370_368.out
      have hms26_0 := NB368_361.out
      have hms26_2 := NB368_369.out
      have hms26_3 := NB368_370.out
      have hs27 : w'.cell? ⟨gb368, 1, none⟩ = some (.int .i64 0) := bcl BK368 1
      have hfs27 := blk_frozen BK368.out 1
      have hns27_0 := NB361_368.out
      have hns27_2 := NB369_368.out
      have hns27_3 := NB370_368.out
      have hms27_0 := NB368_361.out
      have hms27_2 := NB368_369.out
      have hms27_3 := NB368_370.out
      refine skip_ (w1 := ?_) (by rfl) rfl ?_ ?_
      rotate_left
      ·go_simp
       rfl
      refine hK.out _ _ ⟨gb368, gb369, gb370, m9_, m10_, m11_, (by rw [ha.out]; exact putSel_none (v := undef) rfl), (by (with_reducible repeat (first | apply Kd.R_alloc | apply Kd.R_drewN | apply Kd.R_drew)); exact Kd.R_mono (rw2 (Kd.R_types HO_3.out BK368.out (by decide))) (fun _ hk => hk.1)), (bq1 BK361 NB361_368), (bbw4 HB GE361 GE368 GE369 GE370), fun _ _ => NB369_368.out, fun _ _ => NB368_369.out, fun _ _ => NB370_368.out, fun _ _ => NB368_370.out, fun _ _ => NB370_369.out, fun _ _ => NB369_370.out, fun _ h1_ => absurd ((up_self b 12).symm.trans h1_) (by decide), fun _ => GW368.out, fun _ => GE368.out, fun _ => NB361_368.out, fun _ => NB368_361.out, fun _ _ => (bq1 BK369 NB369_368), fun _ => GW369.out, fun _ => GE369.out, fun _ => NB361_369.out, fun _ => NB369_361.out, fun _ _ => (bq1 BK370 NB370_368), fun _ => GW370.out, fun _ => GE370.out, fun _ => NB361_370.out, fun _ => NB370_361.out, fun _ => (bq0 BK368), fun h0_ => absurd ((hoff 13 (by kernel_rfl)).symm.trans h0_) (by decide), fun h0_ => absurd ((hoff 14 (by kernel_rfl)).symm.trans h0_) (by decide), Q_X9_, Q_X10_, Q_X11_⟩
     refine steps_cons ?_ ?_
     ·rintro b a w' ⟨gb368, gb369, gb370, m9_, m10_, m11_, ha, Q_HO_3, Q_BK361, Q_HB, Q_NB369_368, Q_NB368_369, Q_NB370_368, Q_NB368_370, Q_NB370_369, Q_NB369_370, Q_BK368, Q_GW368, Q_GE368, Q_NB361_368, Q_NB368_361, Q_BK369, Q_GW369, Q_GE369, Q_NB361_369, Q_NB369_361, Q_BK370, Q_GW370, Q_GE370, Q_NB361_370, Q_NB370_361, Q_BK368_e12, Q_BK369_e13, Q_BK370_e14, Q_X9_, Q_X10_, Q_X11_⟩ hb_ hon hoff
      refine ⟨_, rfl, fun K hK => ?_⟩
      have e7 : a.tmps[7]? = some (m10_) := by rw [ha]; exact putSel_on (e := (10, 7, m10_)) 10 rfl rfl (hon 10 (by kernel_rfl)) rfl
      rw [Q_X10_ (hon 10 (by kernel_rfl))] at e7
      have e33 : a.tmps[33]? = some (.agg #[.int .i64 t364, .int .i64 t365]) := by rw [ha]; exact putSel_on (e := (5, 33, .agg #[.int .i64 t364, .int .i64 t365])) 5 rfl rfl (hon 5 (by kernel_rfl)) rfl
      replace ha := Aside0.mk ha
      have HO_3 := Aside0.mk Q_HO_3
      have BK361 := Aside0.mk Q_BK361
      have HB := Aside0.mk Q_HB
      have NB369_368 := asd (Q_NB369_368 (hon 9 (by kernel_rfl)) (hon 10 (by kernel_rfl)))
      have NB368_369 := asd (Q_NB368_369 (hon 9 (by kernel_rfl)) (hon 10 (by kernel_rfl)))
      have NB370_368 := asd (Q_NB370_368 (hon 9 (by kernel_rfl)) (hon 11 (by kernel_rfl)))
      have NB368_370 := asd (Q_NB368_370 (hon 9 (by kernel_rfl)) (hon 11 (by kernel_rfl)))
      have NB370_369 := asd (Q_NB370_369 (hon 10 (by kernel_rfl)) (hon 11 (by kernel_rfl)))
      have NB369_370 := asd (Q_NB369_370 (hon 10 (by kernel_rfl)) (hon 11 (by kernel_rfl)))
      have GW368 := asd (Q_GW368 (hon 9 (by kernel_rfl)))
      have GE368 := asd (Q_GE368 (hon 9 (by kernel_rfl)))
      have NB361_368 := asd (Q_NB361_368 (hon 9 (by kernel_rfl)))
      have NB368_361 := asd (Q_NB368_361 (hon 9 (by kernel_rfl)))
      have BK369 := asd (Q_BK369 (hon 10 (by kernel_rfl)) hb_)
      have GW369 := asd (Q_GW369 (hon 10 (by kernel_rfl)))
      have GE369 := asd (Q_GE369 (hon 10 (by kernel_rfl)))
      have NB361_369 := asd (Q_NB361_369 (hon 10 (by kernel_rfl)))
      have NB369_361 := asd (Q_NB369_361 (hon 10 (by kernel_rfl)))
      have BK370 := asd (Q_BK370 (hon 11 (by kernel_rfl)) (hoff 14 (by kernel_rfl)))
      have GW370 := asd (Q_GW370 (hon 11 (by kernel_rfl)))
      have GE370 := asd (Q_GE370 (hon 11 (by kernel_rfl)))
      have NB361_370 := asd (Q_NB361_370 (hon 11 (by kernel_rfl)))
      have NB370_361 := asd (Q_NB370_361 (hon 11 (by kernel_rfl)))
      have BK368 := asd (Q_BK368_e12 (hon 12 (by kernel_rfl)))
      have hs28 : w'.cell? ⟨gb369, 0, none⟩ = some (.int .i64 0) := bcl BK369 0
      have hfs28 := blk_frozen BK369.out 0
      have hns28_0 := NB361_369.out
      have hns28_1 := NB368_369.out
      have hns28_3 := NB370_369.out
      have hms28_0 := NB369_361.out
      have hms28_1 := NB369_368.out
      have hms28_3 := NB369_370.out
      have hs29 : w'.cell? ⟨gb369, 1, none⟩ = some (.int .i64 0) := bcl BK369 1
      have hfs29 := blk_frozen BK369.out 1
      have hns29_0 := NB361_369.out
      have hns29_1 := NB368_369.out
      have hns29_3 := NB370_369.out
      have hms29_0 := NB369_361.out
      have hms29_1 := NB369_368.out
      have hms29_3 := NB369_370.out
      refine skip_ (w1 := ?_) (by rfl) rfl ?_ ?_
      rotate_left
      ·go_simp
       rfl
      refine hK.out _ _ ⟨gb368, gb369, gb370, m9_, m10_, m11_, (by rw [ha.out]; exact putSel_none (v := undef) rfl), (by (with_reducible repeat (first | apply Kd.R_alloc | apply Kd.R_drewN | apply Kd.R_drew)); exact Kd.R_mono (rw2 (Kd.R_types HO_3.out BK369.out (by decide))) (fun _ hk => hk.1)), (bq1 BK361 NB361_369), (bbw4 HB GE361 GE368 GE369 GE370), fun _ _ => NB369_368.out, fun _ _ => NB368_369.out, fun _ _ => NB370_368.out, fun _ _ => NB368_370.out, fun _ _ => NB370_369.out, fun _ _ => NB369_370.out, fun _ h1_ => absurd ((hon 12 (by kernel_rfl)).symm.trans h1_) (by decide), fun _ => GW368.out, fun _ => GE368.out, fun _ => NB361_368.out, fun _ => NB368_361.out, fun _ h1_ => absurd ((up_self b 13).symm.trans h1_) (by decide), fun _ => GW369.out, fun _ => GE369.out, fun _ => NB361_369.out, fun _ => NB369_361.out, fun _ _ => (bq1 BK370 NB370_369), fun _ => GW370.out, fun _ => GE370.out, fun _ => NB361_370.out, fun _ => NB370_361.out, fun _ => (bq1 BK368 NB368_369), fun _ => (bq0 BK369), fun h0_ => absurd ((hoff 14 (by kernel_rfl)).symm.trans h0_) (by decide), Q_X9_, Q_X10_, Q_X11_⟩
     refine steps_cons ?_ ?_
     ·rintro b a w' ⟨gb368, gb369, gb370, m9_, m10_, m11_, ha, Q_HO_3, Q_BK361, Q_HB, Q_NB369_368, Q_NB368_369, Q_NB370_368, Q_NB368_370, Q_NB370_369, Q_NB369_370, Q_BK368, Q_GW368, Q_GE368, Q_NB361_368, Q_NB368_361, Q_BK369, Q_GW369, Q_GE369, Q_NB361_369, Q_NB369_361, Q_BK370, Q_GW370, Q_GE370, Q_NB361_370, Q_NB370_361, Q_BK368_e12, Q_BK369_e13, Q_BK370_e14, Q_X9_, Q_X10_, Q_X11_⟩ hb_ hon hoff
      refine ⟨_, rfl, fun K hK => ?_⟩
      have e8 : a.tmps[8]? = some (m11_) := by rw [ha]; exact putSel_on (e := (11, 8, m11_)) 11 rfl rfl (hon 11 (by kernel_rfl)) rfl
      rw [Q_X11_ (hon 11 (by kernel_rfl))] at e8
      have e36 : a.tmps[36]? = some (.agg #[.int .i64 t366, .int .i64 t367]) := by rw [ha]; exact putSel_on (e := (8, 36, .agg #[.int .i64 t366, .int .i64 t367])) 8 rfl rfl (hon 8 (by kernel_rfl)) rfl
      replace ha := Aside0.mk ha
      have HO_3 := Aside0.mk Q_HO_3
      have BK361 := Aside0.mk Q_BK361
      have HB := Aside0.mk Q_HB
      have NB369_368 := asd (Q_NB369_368 (hon 9 (by kernel_rfl)) (hon 10 (by kernel_rfl)))
      have NB368_369 := asd (Q_NB368_369 (hon 9 (by kernel_rfl)) (hon 10 (by kernel_rfl)))
      have NB370_368 := asd (Q_NB370_368 (hon 9 (by kernel_rfl)) (hon 11 (by kernel_rfl)))
      have NB368_370 := asd (Q_NB368_370 (hon 9 (by kernel_rfl)) (hon 11 (by kernel_rfl)))
      have NB370_369 := asd (Q_NB370_369 (hon 10 (by kernel_rfl)) (hon 11 (by kernel_rfl)))
      have NB369_370 := asd (Q_NB369_370 (hon 10 (by kernel_rfl)) (hon 11 (by kernel_rfl)))
      have GW368 := asd (Q_GW368 (hon 9 (by kernel_rfl)))
      have GE368 := asd (Q_GE368 (hon 9 (by kernel_rfl)))
      have NB361_368 := asd (Q_NB361_368 (hon 9 (by kernel_rfl)))
      have NB368_361 := asd (Q_NB368_361 (hon 9 (by kernel_rfl)))
      have GW369 := asd (Q_GW369 (hon 10 (by kernel_rfl)))
      have GE369 := asd (Q_GE369 (hon 10 (by kernel_rfl)))
      have NB361_369 := asd (Q_NB361_369 (hon 10 (by kernel_rfl)))
      have NB369_361 := asd (Q_NB369_361 (hon 10 (by kernel_rfl)))
      have BK370 := asd (Q_BK370 (hon 11 (by kernel_rfl)) hb_)
      have GW370 := asd (Q_GW370 (hon 11 (by kernel_rfl)))
      have GE370 := asd (Q_GE370 (hon 11 (by kernel_rfl)))
      have NB361_370 := asd (Q_NB361_370 (hon 11 (by kernel_rfl)))
      have NB370_361 := asd (Q_NB370_361 (hon 11 (by kernel_rfl)))
      have BK368 := asd (Q_BK368_e12 (hon 12 (by kernel_rfl)))
      have BK369 := asd (Q_BK369_e13 (hon 13 (by kernel_rfl)))
      have hs30 : w'.cell? ⟨gb370, 0, none⟩ = some (.int .i64 0) := bcl BK370 0
      have hfs30 := blk_frozen BK370.out 0
      have hns30_0 := NB361_370.out
      have hns30_1 := NB368_370.out
      have hns30_2 := NB369_370.out
      have hms30_0 := NB370_361.out
      have hms30_1 := NB370_368.out
      have hms30_2 := NB370_369.out
      have hs31 : w'.cell? ⟨gb370, 1, none⟩ = some (.int .i64 0) := bcl BK370 1
      have hfs31 := blk_frozen BK370.out 1
      have hns31_0 := NB361_370.out
      have hns31_1 := NB368_370.out
      have hns31_2 := NB369_370.out
      have hms31_0 := NB370_361.out
      have hms31_1 := NB370_368.out
      have hms31_2 := NB370_369.out
      refine skip_ (w1 := ?_) (by rfl) rfl ?_ ?_
      rotate_left
      ·go_simp
       rfl
      refine hK.out _ _ ⟨gb368, gb369, gb370, m9_, m10_, m11_, (by rw [ha.out]; exact putSel_none (v := undef) rfl), (by (with_reducible repeat (first | apply Kd.R_alloc | apply Kd.R_drewN | apply Kd.R_drew)); exact Kd.R_mono (rw2 (Kd.R_types HO_3.out BK370.out (by decide))) (fun _ hk => hk.1)), (bq1 BK361 NB361_370), (bbw4 HB GE361 GE368 GE369 GE370), fun _ _ => NB369_368.out, fun _ _ => NB368_369.out, fun _ _ => NB370_368.out, fun _ _ => NB368_370.out, fun _ _ => NB370_369.out, fun _ _ => NB369_370.out, fun _ h1_ => absurd ((hon 12 (by kernel_rfl)).symm.trans h1_) (by decide), fun _ => GW368.out, fun _ => GE368.out, fun _ => NB361_368.out, fun _ => NB368_361.out, fun _ h1_ => absurd ((hon 13 (by kernel_rfl)).symm.trans h1_) (by decide), fun _ => GW369.out, fun _ => GE369.out, fun _ => NB361_369.out, fun _ => NB369_361.out, fun _ h1_ => absurd ((up_self b 14).symm.trans h1_) (by decide), fun _ => GW370.out, fun _ => GE370.out, fun _ => NB361_370.out, fun _ => NB370_361.out, fun _ => (bq1 BK368 NB368_370), fun _ => (bq1 BK369 NB369_370), fun _ => (bq0 BK370), Q_X9_, Q_X10_, Q_X11_⟩
     exact steps_nil
    rintro b a w31 hall ⟨gb368, gb369, gb370, m9_, m10_, m11_, ha, Q_HO_3, Q_BK361, Q_HB, Q_NB369_368, Q_NB368_369, Q_NB370_368, Q_NB368_370, Q_NB370_369, Q_NB369_370, Q_BK368, Q_GW368, Q_GE368, Q_NB361_368, Q_NB368_361, Q_BK369, Q_GW369, Q_GE369, Q_NB361_369, Q_NB369_361, Q_BK370, Q_GW370, Q_GE370, Q_NB361_370, Q_NB370_361, Q_BK368_e12, Q_BK369_e13, Q_BK370_e14, Q_X9_, Q_X10_, Q_X11_⟩
    clear BK361 HB HO_3
    have hb0_ := hall 0 (by kernel_rfl)
    have hb1_ := hall 1 (by kernel_rfl)
    have hb2_ := hall 2 (by kernel_rfl)
    have hb3_ := hall 3 (by kernel_rfl)
    have hb4_ := hall 4 (by kernel_rfl)
    have hb5_ := hall 5 (by kernel_rfl)
    have hb6_ := hall 6 (by kernel_rfl)
    have hb7_ := hall 7 (by kernel_rfl)
    have hb8_ := hall 8 (by kernel_rfl)
    have hb9_ := hall 9 (by kernel_rfl)
    have hb10_ := hall 10 (by kernel_rfl)
    have hb11_ := hall 11 (by kernel_rfl)
    have hb12_ := hall 12 (by kernel_rfl)
    have hb13_ := hall 13 (by kernel_rfl)
    have hb14_ := hall 14 (by kernel_rfl)
    subst ha
    obtain rfl := Q_X9_ hb9_
    obtain rfl := Q_X10_ hb10_
    obtain rfl := Q_X11_ hb11_
    simp only [putSel, hb0_, hb1_, hb2_, hb3_, hb4_, hb5_, hb6_, hb7_, hb8_, hb9_, hb10_, hb11_, hb12_, hb13_, hb14_, if_true, Act.put, sA, sB, sC]
    have HO_3 := Aside0.mk Q_HO_3
    clear Q_HO_3
    have BK361 := Aside0.mk Q_BK361
    clear Q_BK361
    have HB := Aside0.mk Q_HB
    clear Q_HB
    have NB369_368 := asd (Q_NB369_368 hb9_ hb10_)
    clear Q_NB369_368
    have NB368_369 := asd (Q_NB368_369 hb9_ hb10_)
    clear Q_NB368_369
    have NB370_368 := asd (Q_NB370_368 hb9_ hb11_)
    clear Q_NB370_368
    have NB368_370 := asd (Q_NB368_370 hb9_ hb11_)
    clear Q_NB368_370
    have NB370_369 := asd (Q_NB370_369 hb10_ hb11_)
    clear Q_NB370_369
    have NB369_370 := asd (Q_NB369_370 hb10_ hb11_)
    clear Q_NB369_370
    clear Q_BK368
    have GW368 := asd (Q_GW368 hb9_)
    clear Q_GW368
    have GE368 := asd (Q_GE368 hb9_)
    clear Q_GE368
    have NB361_368 := asd (Q_NB361_368 hb9_)
    clear Q_NB361_368
    have NB368_361 := asd (Q_NB368_361 hb9_)
    clear Q_NB368_361
    clear Q_BK369
    have GW369 := asd (Q_GW369 hb10_)
    clear Q_GW369
    have GE369 := asd (Q_GE369 hb10_)
    clear Q_GE369
    have NB361_369 := asd (Q_NB361_369 hb10_)
    clear Q_NB361_369
    have NB369_361 := asd (Q_NB369_361 hb10_)
    clear Q_NB369_361
    clear Q_BK370
    have GW370 := asd (Q_GW370 hb11_)
    clear Q_GW370
    have GE370 := asd (Q_GE370 hb11_)
    clear Q_GE370
    have NB361_370 := asd (Q_NB361_370 hb11_)
    clear Q_NB361_370
    have NB370_361 := asd (Q_NB370_361 hb11_)
    clear Q_NB370_361
    have BK368 := asd (Q_BK368_e12 hb12_)
    clear Q_BK368_e12
    have BK369 := asd (Q_BK369_e13 hb13_)
    clear Q_BK369_e13
    have BK370 := asd (Q_BK370_e14 hb14_)
    clear Q_BK370_e14
    clear hall hb0_ hb1_ hb2_ hb3_ hb4_ hb5_ hb6_ hb7_ hb8_ hb9_ hb10_ hb11_ hb12_ hb13_ hb14_
    have hnb32 := NB368_361.out
    have hnc32 := NB361_368.out
    have hnb33 := NB368_369.out
    have hnc33 := NB369_368.out
    have hnb34 := NB368_370.out
    have hnc34 := NB370_368.out
    obtain ⟨hcz35_0, hcz35_1, hfz35_0, hfz35_1⟩ := bz2 BK368
    have H := Hq_.out
    clear Hq_
    obtain ⟨t371, A8, H⟩ := ob H
    try dsimp only at H
    by_cases c9 : t371 = 1
    rw [if_pos c9] at H
    have c9b0 : (t371 == 1) = true := beq_iff_eq.mpr c9
    have c9b1 : (t371 != 1) = false := bne_eq_false_iff_eq.mpr c9
    clear c9
    obtain ⟨t372, A10, H⟩ := ob H
    try dsimp only at H
    by_cases c11 : t372 = 1
    rw [if_pos c11] at H
    have c11b0 : (t372 == 1) = true := beq_iff_eq.mpr c11
    have c11b1 : (t372 != 1) = false := bne_eq_false_iff_eq.mpr c11
    clear c11
    obtain ⟨t373, A12, H⟩ := ob H
    try dsimp only at H
    by_cases c13 : t373 = (wrap64 (2 + a0))
    rw [if_pos c13] at H
    have c13b0 : (t373 == (wrap64 (2 + a0))) = true := beq_iff_eq.mpr c13
    have c13b1 : (t373 != (wrap64 (2 + a0))) = false := bne_eq_false_iff_eq.mpr c13
    clear c13
    by_cases c14 : x3_1.length < 4398046511104
    rw [if_pos c14] at H
    have LMc14 := Aside0.mk c14
    clear c14
    obtain ⟨y374, hy374⟩ : ∃ y_ : List (S51), y_ = (x3_1 ++ [(⟨wrap64 ((wrap64 (Int.tdiv x10_1 27)) - 1), wrap64 ((Int.tmod (wrap64 (Int.tdiv x10_1 9)) 3) - 1), wrap64 ((Int.tmod (wrap64 (Int.tdiv x10_1 3)) 3) - 1), wrap64 ((Int.tmod x10_1 3) - 1)⟩ : S51)]) := ⟨_, rfl⟩
    replace H : (impl_pointMats.l0 k1 a0 y374 (wrap64 (x10_1 + 1))) = some r := by first | (rw [hy374]; with_reducible exact H) | (have H2_ := (Option.bind_some _ _).symm.trans H; rw [hy374]; with_reducible exact H2_) | (have H2_ := (Option.bind_some _ _).symm.trans H; with_reducible exact H2_) | with_reducible exact H | (rw [hy374]; exact H) | exact H
    have Ny374 := Aside0.mk hy374
    clear hy374
    have H' := Aside0.mk H
    clear H
    rotate_left
    ·rw [if_neg c14] at H
     exact absurd H (by simp)
    rw [if_neg c13] at H
    have c13b0 : (t373 == (wrap64 (2 + a0))) = false := beq_eq_false_iff_ne.mpr c13
    have c13b1 : (t373 != (wrap64 (2 + a0))) = true := bne_iff_ne.mpr c13
    have H' := Aside0.mk H
    clear H
    rotate_left
    rw [if_neg c11] at H
    have c11b0 : (t372 == 1) = false := beq_eq_false_iff_ne.mpr c11
    have c11b1 : (t372 != 1) = true := bne_iff_ne.mpr c11
    have H' := Aside0.mk H
    clear H
    rotate_left
    rw [if_neg c9] at H
    have c9b0 : (t371 == 1) = false := beq_eq_false_iff_ne.mpr c9
    have c9b1 : (t371 != 1) = true := bne_iff_ne.mpr c9
    have H' := Aside0.mk H
    clear H
    rotate_left
    try go_wp2_with (first | ((with_reducible refine gate_callee (f := 122) rfl ?_); refine gl 39 Try.func122 #[.int .i64 a0, .agg #[.int .i64 t362, .int .i64 t363]] ?_; (with_reducible refine (impl_norm.calls _ _ _ _ _ A8.out).mono ?_); rintro e w36 ⟨rfl, hb⟩; refine ⟨_, rfl, ?_⟩; replace HO_3 := asd (Kd.R_below (kr HO_3) hb); replace BK361 := bB BK361 hb; replace BK368 := bB BK368 hb; replace BK369 := bB BK369 hb; replace BK370 := bB BK370 hb; replace HB := bS4 HB GE361 GE368 GE369 GE370 hb; (try clear hb); have hnb37 := NB369_361.out; have hnc37 := NB361_369.out; have hnb38 := NB369_370.out; have hnc38 := NB370_369.out; obtain ⟨hcz39_0, hcz39_1, hfz39_0, hfz39_1⟩ := bz2 BK369) | (go_at_call 122; (with_reducible refine (impl_norm.calls _ _ _ _ _ A10.out).mono ?_); rintro e w40 ⟨rfl, hb⟩; replace HO_3 := asd (Kd.R_below (kr HO_3) hb); replace BK361 := bB BK361 hb; replace BK368 := bB BK368 hb; replace BK369 := bB BK369 hb; replace BK370 := bB BK370 hb; replace HB := bS4 HB GE361 GE368 GE369 GE370 hb; (try clear hb); have hnb41 := NB370_361.out; have hnc41 := NB361_370.out; obtain ⟨hcz42_0, hcz42_1, hfz42_0, hfz42_1⟩ := bz2 BK370) | (go_at_call 122; (with_reducible refine (impl_norm.calls _ _ _ _ _ A12.out).mono ?_); rintro e w43 ⟨rfl, hb⟩; replace HO_3 := asd (Kd.R_below (kr HO_3) hb); replace BK361 := bB BK361 hb; replace BK368 := bB BK368 hb; replace BK369 := bB BK369 hb; replace BK370 := bB BK370 hb; replace HB := bS4 HB GE361 GE368 GE369 GE370 hb; (try clear hb); obtain ⟨hcz44_0, hcz44_1, hcz44_2, hcz44_3, hfz44_0, hfz44_1, hfz44_2, hfz44_3⟩ := bz4 BK361) | ((with_reducible refine gate_builtin (b := .append) (xs := #[.tmp 55, .tmp 57]) rfl ?_); at_builtin; refine Kd.R_append k51 (w0 := w) w.heap.size rfl (.tmp 55) (.tmp 57) 44 51 (.agg #[(.int .i64 0), (.int .i64 0), (.int .i64 0), (.int .i64 0)]) 32 rfl Try.underlying44 info51 rfl (by decide) (by omega) u3 x3_1 (⟨wrap64 ((wrap64 (Int.tdiv x10_1 27)) - 1), wrap64 ((Int.tmod (wrap64 (Int.tdiv x10_1 9)) 3) - 1), wrap64 ((Int.tmod (wrap64 (Int.tdiv x10_1 3)) 3) - 1), wrap64 ((Int.tmod x10_1 3) - 1)⟩ : S51) [.int .i64 (wrap64 ((wrap64 (Int.tdiv x10_1 27)) - 1)), .int .i64 (wrap64 ((Int.tmod (wrap64 (Int.tdiv x10_1 9)) 3) - 1)), .int .i64 (wrap64 ((Int.tmod (wrap64 (Int.tdiv x10_1 3)) 3) - 1)), .int .i64 (wrap64 ((Int.tmod x10_1 3) - 1))] (fun k_ => k_ ≠ gb361) (fun _ => False) rfl rfl ?aP (fun _ hk => hk.elim) ?aF ?aO ?aB ?aS ?aL ?_; (case aP => exact k51_mkM _ _ _ (⟨wrap64 ((wrap64 (Int.tdiv x10_1 27)) - 1), wrap64 ((Int.tmod (wrap64 (Int.tdiv x10_1 9)) 3) - 1), wrap64 ((Int.tmod (wrap64 (Int.tdiv x10_1 3)) 3) - 1), wrap64 ((Int.tmod x10_1 3) - 1)⟩ : S51)); (case aB => exact (bbw4 HB GE361 GE368 GE369 GE370)); (case aF => exact (fun k_ hk => Kd.freshB (g := gb361) (o := .cells #[.int .i64 (wrap64 ((wrap64 (Int.tdiv x10_1 27)) - 1)), .int .i64 (wrap64 ((Int.tmod (wrap64 (Int.tdiv x10_1 9)) 3) - 1)), .int .i64 (wrap64 ((Int.tmod (wrap64 (Int.tdiv x10_1 3)) 3) - 1)), .int .i64 (wrap64 ((Int.tmod x10_1 3) - 1))] 51 (0, 0)) (bkp BK361) k_ hk)); (case aO => exact (kr HO_3)); (case aS => exact (bsz4 HB GE361 GE368 GE369 GE370)); (case aL => have := LMc14.out; omega); intro v375 w45 ho hb hg hat; rw [← Ny374.out] at ho; have n0_ := asd (blk_grown (g := gb361) (o := .cells #[.int .i64 (wrap64 ((wrap64 (Int.tdiv x10_1 27)) - 1)), .int .i64 (wrap64 ((Int.tmod (wrap64 (Int.tdiv x10_1 9)) 3) - 1)), .int .i64 (wrap64 ((Int.tmod (wrap64 (Int.tdiv x10_1 3)) 3) - 1)), .int .i64 (wrap64 ((Int.tmod x10_1 3) - 1))] 51 (0, 0)) (bkp BK361) hg (Kd.R_away HO_3.out (fun _ hk => hk))); have n1_ := asd (blk_grown (g := gb368) (o := .cells #[.int .i64 t362, .int .i64 t363] 53 (0, 0)) (bkp BK368) hg (Kd.R_ne HO_3.out BK368.out (by decide))); have n2_ := asd (blk_grown (g := gb369) (o := .cells #[.int .i64 t364, .int .i64 t365] 53 (0, 0)) (bkp BK369) hg (Kd.R_ne HO_3.out BK369.out (by decide))); have n3_ := asd (blk_grown (g := gb370) (o := .cells #[.int .i64 t366, .int .i64 t367] 53 (0, 0)) (bkp BK370) hg (Kd.R_ne HO_3.out BK370.out (by decide))); have n4_ := asd (hb); have n5_ := asd (ho); clear BK361; clear BK368; clear BK369; clear BK370; clear HB; clear HO_3; have BK361 := n0_; have BK368 := n1_; have BK369 := n2_; have BK370 := n3_; have HB := n4_; have HO376 := n5_; clear n0_ n1_ n2_ n3_ n4_ n5_; clear ho hb hg hat))
    rotate_left
    try go_wp2_with (first | ((with_reducible refine gate_callee (f := 122) rfl ?_); refine gl 39 Try.func122 #[.int .i64 a0, .agg #[.int .i64 t362, .int .i64 t363]] ?_; (with_reducible refine (impl_norm.calls _ _ _ _ _ A8.out).mono ?_); rintro e w67 ⟨rfl, hb⟩; refine ⟨_, rfl, ?_⟩; replace HO_3 := asd (Kd.R_below (kr HO_3) hb); replace BK361 := bB BK361 hb; replace BK368 := bB BK368 hb; replace BK369 := bB BK369 hb; replace BK370 := bB BK370 hb; replace HB := bS4 HB GE361 GE368 GE369 GE370 hb; (try clear hb); have hnb68 := NB369_361.out; have hnc68 := NB361_369.out; have hnb69 := NB369_370.out; have hnc69 := NB370_369.out; obtain ⟨hcz70_0, hcz70_1, hfz70_0, hfz70_1⟩ := bz2 BK369) | (go_at_call 122; (with_reducible refine (impl_norm.calls _ _ _ _ _ A10.out).mono ?_); rintro e w71 ⟨rfl, hb⟩; replace HO_3 := asd (Kd.R_below (kr HO_3) hb); replace BK361 := bB BK361 hb; replace BK368 := bB BK368 hb; replace BK369 := bB BK369 hb; replace BK370 := bB BK370 hb; replace HB := bS4 HB GE361 GE368 GE369 GE370 hb; (try clear hb); have hnb72 := NB370_361.out; have hnc72 := NB361_370.out; obtain ⟨hcz73_0, hcz73_1, hfz73_0, hfz73_1⟩ := bz2 BK370) | (go_at_call 122; (with_reducible refine (impl_norm.calls _ _ _ _ _ A12.out).mono ?_); rintro e w74 ⟨rfl, hb⟩; replace HO_3 := asd (Kd.R_below (kr HO_3) hb); replace BK361 := bB BK361 hb; replace BK368 := bB BK368 hb; replace BK369 := bB BK369 hb; replace BK370 := bB BK370 hb; replace HB := bS4 HB GE361 GE368 GE369 GE370 hb; (try clear hb)))
    rotate_left
    try go_wp2_with (first | ((with_reducible refine gate_callee (f := 122) rfl ?_); refine gl 39 Try.func122 #[.int .i64 a0, .agg #[.int .i64 t362, .int .i64 t363]] ?_; (with_reducible refine (impl_norm.calls _ _ _ _ _ A8.out).mono ?_); rintro e w96 ⟨rfl, hb⟩; refine ⟨_, rfl, ?_⟩; replace HO_3 := asd (Kd.R_below (kr HO_3) hb); replace BK361 := bB BK361 hb; replace BK368 := bB BK368 hb; replace BK369 := bB BK369 hb; replace BK370 := bB BK370 hb; replace HB := bS4 HB GE361 GE368 GE369 GE370 hb; (try clear hb); have hnb97 := NB369_361.out; have hnc97 := NB361_369.out; have hnb98 := NB369_370.out; have hnc98 := NB370_369.out; obtain ⟨hcz99_0, hcz99_1, hfz99_0, hfz99_1⟩ := bz2 BK369) | (go_at_call 122; (with_reducible refine (impl_norm.calls _ _ _ _ _ A10.out).mono ?_); rintro e w100 ⟨rfl, hb⟩; replace HO_3 := asd (Kd.R_below (kr HO_3) hb); replace BK361 := bB BK361 hb; replace BK368 := bB BK368 hb; replace BK369 := bB BK369 hb; replace BK370 := bB BK370 hb; replace HB := bS4 HB GE361 GE368 GE369 GE370 hb; (try clear hb)))
    rotate_left
    try go_wp2_with (first | ((with_reducible refine gate_callee (f := 122) rfl ?_); refine gl 39 Try.func122 #[.int .i64 a0, .agg #[.int .i64 t362, .int .i64 t363]] ?_; (with_reducible refine (impl_norm.calls _ _ _ _ _ A8.out).mono ?_); rintro e w122 ⟨rfl, hb⟩; refine ⟨_, rfl, ?_⟩; replace HO_3 := asd (Kd.R_below (kr HO_3) hb); replace BK361 := bB BK361 hb; replace BK368 := bB BK368 hb; replace BK369 := bB BK369 hb; replace BK370 := bB BK370 hb; replace HB := bS4 HB GE361 GE368 GE369 GE370 hb; (try clear hb)))
    rotate_left
    all_goals
     go_roundg k1
     case measure => have := HK1.out; omega
    ·case rel => exact ⟨(y374), (wrap64 (x10_1 + 1)), (by first | rfl | (simp; done) | (simp [*]; done)), H', ⟨by have := HK1.out; omega⟩, ⟨by (with_reducible repeat (first | apply Kd.R_alloc | apply Kd.R_drewN | apply Kd.R_drew)); exact Kd.R_mono HO376.out (fun _ hk => trivial)⟩, ⟨bbw4 HB GE361 GE368 GE369 GE370⟩⟩
    rotate_left 3
    all_goals
     case rel => exact ⟨(x3_1), (wrap64 (x10_1 + 1)), (by first | rfl | (simp; done) | (simp [*]; done)), H', ⟨by have := HK1.out; omega⟩, ⟨by (with_reducible repeat (first | apply Kd.R_alloc | apply Kd.R_drewN | apply Kd.R_drew)); exact Kd.R_mono HO_3.out (fun _ hk => trivial)⟩, ⟨bbw4 HB GE361 GE368 GE369 GE370⟩⟩
   ·rw [if_neg c4] at H
    have c4b0 := decide_eq_false c4
    clear c4
    obtain rfl := Option.some.inj H
    go_wp2
    go_ret
    exact ⟨_, by first | rfl | (simp [errW_none, errW_some] <;> rfl) | (simp [*, errW_none, errW_some] <;> rfl), by (with_reducible repeat (first | apply Kd.R_alloc | apply Kd.R_drewN | apply Kd.R_drew)); exact HO_3.out, bbw0 HB⟩
/-! ### impl_Lattice_has: function 114 -/
def impl_Lattice_has.f (a0_0 : Int) (a0_1 : Int) (a0_2 : Int) (a1_0 : Int) (a1_1 : Int) : Option (Bool) := (impl_Lattice_reduce.f a0_0 a0_1 a0_2 a1_0 a1_1).bind fun bt379 => (some (bt379.1 == 0 && (bt379.2 == 0)))
set_option maxHeartbeats 8000000 in
set_option maxRecDepth 100000 in
theorem impl_Lattice_has.calls (a0_0 : Int) (a0_1 : Int) (a0_2 : Int) (a1_0 : Int) (a1_1 : Int) (r : Bool) (w : World) (h : impl_Lattice_has.f a0_0 a0_1 a0_2 a1_0 a1_1 = some r) :
  Calls Try.prog 114 #[.agg #[.int .i64 a0_0, .int .i64 a0_1, .int .i64 a0_2], .agg #[.int .i64 a1_0, .int .i64 a1_1]] w fun e w' => e = .returned (.bool r) ∧ Below w.heap.size w w' := by
 have hu27 := Try.underlying27
 have hu53 := Try.underlying53
 have HB := asd (Below.refl w.heap.size w)
 have H : ((impl_Lattice_reduce.f a0_0 a0_1 a0_2 a1_0 a1_1).bind fun bt379 => (some (bt379.1 == 0 && (bt379.2 == 0)))) = some r := h
 clear h
 obtain ⟨⟨t379, t380⟩, A3, H⟩ := ob H
 try dsimp only at H
 obtain rfl := Option.some.inj H
 go_enter Try.func114, Try.ntmps114
 go_wp2_with (first | ((with_reducible refine gd 2 rfl ?_); refine bx #[.int .i64 a0_0, .int .i64 a0_1, .int .i64 a0_2] 27 ?_; intro gb377 hg w4 BK377 hb; have GE377 := ngw0 hg HB; replace HB := bS0 HB hb; clear hb hg) | ((with_reducible refine gd 3 rfl ?_); refine bx #[.int .i64 a1_0, .int .i64 a1_1] 53 ?_; intro gb378 hg w5 BK378 hb; have GE378 := ngw1 hg HB GE377; replace HB := bS1 HB GE377 hb; have NB377_378 := nlt hg BK377; have NB378_377 := nsy (nlt hg BK377); replace BK377 := bB BK377 hb; clear hb hg; have hnb6 := NB377_378.out; have hnc6 := NB378_377.out; obtain ⟨hcz7_0, hcz7_1, hcz7_2, hfz7_0, hfz7_1, hfz7_2⟩ := bz3 BK377; obtain ⟨hcz8_0, hcz8_1, hfz8_0, hfz8_1⟩ := bz2 BK378) | ((with_reducible refine gate_callee (f := 97) rfl ?_); refine gl 7 Try.func97 #[.agg #[.int .i64 a0_0, .int .i64 a0_1, .int .i64 a0_2], .agg #[.int .i64 a1_0, .int .i64 a1_1]] ?_; (with_reducible refine (impl_Lattice_reduce.calls _ _ _ _ _ _ _ _ A3.out).mono ?_); rintro e w9 ⟨rfl, hb⟩; refine ⟨_, rfl, ?_⟩; replace BK377 := bB BK377 hb; replace BK378 := bB BK378 hb; replace HB := bS2 HB GE377 GE378 hb; (try clear hb)))
 go_ret
 exact er (bbw2 HB GE377 GE378)

attribute [local go_sem high] eqA51
/-! ### impl_latticeMats: function 95 -/
def impl_latticeMats.app (m : S51) (x y : Int) : Int × Int := (impl_Mat_apply.f m.f0 m.f1 m.f2 m.f3 x y).getD (0, 0)
def impl_latticeMats.hasB (a b c : Int) (t : Int × Int) : Bool := (impl_Lattice_has.f a b c t.1 t.2).getD false
/-- Does a matrix map a lattice into itself? -/
def impl_latticeMats.keep (a b c : Int) (m : S51) : Bool := impl_latticeMats.hasB a b c (impl_latticeMats.app m a 0) && impl_latticeMats.hasB a b c (impl_latticeMats.app m b c)
theorem impl_latticeMats.app_eq (m : S51) (x y : Int) : impl_Mat_apply.f m.f0 m.f1 m.f2 m.f3 x y = some ((impl_latticeMats.app m x y).1, (impl_latticeMats.app m x y).2) := rfl
theorem impl_latticeMats.has_eq (a b c : Int) (ha : a ≠ 0) (hc : c ≠ 0) (t : Int × Int) : impl_Lattice_has.f a b c t.1 t.2 = some (impl_latticeMats.hasB a b c t) := by
 have : (impl_Lattice_has.f a b c t.1 t.2).isSome = true := by
  simp [impl_Lattice_has.f, impl_Lattice_reduce.f, impl_mod.f, ha, hc]
 obtain ⟨r, hr⟩ := Option.isSome_iff_exists.1 this
 unfold impl_latticeMats.hasB
 rw [hr]; rfl
def impl_latticeMats.f (k : Nat) (a0 : Int) (a1_0 : Int) (a1_1 : Int) (a1_2 : Int) : Option (List S51) := if a1_0 = 0 then none else (if a1_2 = 0 then none else ((impl_pointMats.f k a0).bind fun l => some (l.filter (impl_latticeMats.keep a1_0 a1_1 a1_2))))
abbrev impl_latticeMats.Held (W : World) (a b c : Int) (L U V B : Nat) (x : S51) (w' : World) : Prop := Below W.heap.size W w' ∧ w'.cell? ⟨L, 0, none⟩ = some (.int .i64 a) ∧ w'.cell? ⟨L, 1, none⟩ = some (.int .i64 b) ∧ w'.cell? ⟨L, 2, none⟩ = some (.int .i64 c) ∧ w'.cell? ⟨U, 0, none⟩ = some (.int .i64 a) ∧ w'.cell? ⟨U, 1, none⟩ = some (.int .i64 0) ∧ w'.cell? ⟨V, 0, none⟩ = some (.int .i64 b) ∧ w'.cell? ⟨V, 1, none⟩ = some (.int .i64 c) ∧ w'.cell? ⟨B, 0, none⟩ = some (.int .i64 x.f0) ∧ w'.cell? ⟨B, 1, none⟩ = some (.int .i64 x.f1) ∧ w'.cell? ⟨B, 2, none⟩ = some (.int .i64 x.f2) ∧ w'.cell? ⟨B, 3, none⟩ = some (.int .i64 x.f3)
theorem impl_latticeMats.held_below {W : World} {a b c : Int} {L U V B : Nat} {x : S51} {w w' : World} (h : impl_latticeMats.Held W a b c L U V B x w) (hb : Below w.heap.size w w') : impl_latticeMats.Held W a b c L U V B x w' := by
 obtain ⟨h0, s0, s1, s2, s3, s4, s5, s6, s7, s8, s9, s10⟩ := h
 exact ⟨below_then h0 h0.size hb, (hb.cell (World.block_lt_of_cell? w _ s0)).trans s0, (hb.cell (World.block_lt_of_cell? w _ s1)).trans s1, (hb.cell (World.block_lt_of_cell? w _ s2)).trans s2, (hb.cell (World.block_lt_of_cell? w _ s3)).trans s3, (hb.cell (World.block_lt_of_cell? w _ s4)).trans s4, (hb.cell (World.block_lt_of_cell? w _ s5)).trans s5, (hb.cell (World.block_lt_of_cell? w _ s6)).trans s6, (hb.cell (World.block_lt_of_cell? w _ s7)).trans s7, (hb.cell (World.block_lt_of_cell? w _ s8)).trans s8, (hb.cell (World.block_lt_of_cell? w _ s9)).trans s9, (hb.cell (World.block_lt_of_cell? w _ s10)).trans s10⟩
theorem impl_latticeMats.held_drew {W : World} {a b c : Int} {L U V B : Nat} {x : S51} {w : World} (h : impl_latticeMats.Held W a b c L U V B x w) : impl_latticeMats.Held W a b c L U V B x w.drew := ⟨below_drew1 h.1, h.2⟩
set_option maxHeartbeats 40000000 in
set_option maxRecDepth 100000 in
theorem impl_latticeMats.pred (a b c : Int) (L U V : Nat) (W : World) (hl0 : W.cell? ⟨L, 0, none⟩ = some (.int .i64 a)) (hl1 : W.cell? ⟨L, 1, none⟩ = some (.int .i64 b)) (hl2 : W.cell? ⟨L, 2, none⟩ = some (.int .i64 c)) (hu0 : W.cell? ⟨U, 0, none⟩ = some (.int .i64 a)) (hu1 : W.cell? ⟨U, 1, none⟩ = some (.int .i64 0)) (hv0 : W.cell? ⟨V, 0, none⟩ = some (.int .i64 b)) (hv1 : W.cell? ⟨V, 1, none⟩ = some (.int .i64 c)) (ha : a ≠ 0) (hc : c ≠ 0) (x : S51) :
  Calls Try.prog 113 (#[.agg #[.int .i64 x.f0, .int .i64 x.f1, .int .i64 x.f2, .int .i64 x.f3]] ++ #[.pointer (some ⟨L, 0, none⟩), .pointer (some ⟨U, 0, none⟩), .pointer (some ⟨V, 0, none⟩)]) W fun e w' => e = .returned (.bool (!(impl_latticeMats.keep a b c x))) ∧ Below W.heap.size W w' := by
 show Calls Try.prog 113 #[.agg #[.int .i64 x.f0, .int .i64 x.f1, .int .i64 x.f2, .int .i64 x.f3], .pointer (some ⟨L, 0, none⟩), .pointer (some ⟨U, 0, none⟩), .pointer (some ⟨V, 0, none⟩)] W _
 have hu33 := Try.underlying51
 have hu34 := Try.underlying53
 have hu31 := Try.underlying27
 have A1 := asd (impl_latticeMats.app_eq x a 0)
 have A2 := asd (impl_latticeMats.has_eq a b c ha hc (impl_latticeMats.app x a 0))
 have A3 := asd (impl_latticeMats.app_eq x b c)
 have A4 := asd (impl_latticeMats.has_eq a b c ha hc (impl_latticeMats.app x b c))
 unfold impl_latticeMats.keep
 generalize impl_latticeMats.app x a 0 = p1 at A1 A2 ⊢
 generalize impl_latticeMats.app x b c = p2 at A3 A4 ⊢
 generalize impl_latticeMats.hasB a b c p1 = r1 at A2 ⊢
 generalize impl_latticeMats.hasB a b c p2 = r2 at A4 ⊢
 have hb0 := below_alloc (Below.refl W.heap.size W) (.cells #[.int .i64 x.f0, .int .i64 x.f1, .int .i64 x.f2, .int .i64 x.f3] 51)
 have hS0 : impl_latticeMats.Held W a b c L U V W.heap.size x (W.alloc (.cells #[.int .i64 x.f0, .int .i64 x.f1, .int .i64 x.f2, .int .i64 x.f3] 51)) :=
  ⟨hb0, (hb0.cell (World.block_lt_of_cell? W _ hl0)).trans hl0, (hb0.cell (World.block_lt_of_cell? W _ hl1)).trans hl1, (hb0.cell (World.block_lt_of_cell? W _ hl2)).trans hl2, (hb0.cell (World.block_lt_of_cell? W _ hu0)).trans hu0, (hb0.cell (World.block_lt_of_cell? W _ hu1)).trans hu1, (hb0.cell (World.block_lt_of_cell? W _ hv0)).trans hv0, (hb0.cell (World.block_lt_of_cell? W _ hv1)).trans hv1, by simp, by simp, by simp, by simp⟩
 have C1 := asd (fun (w' : World) (h : impl_latticeMats.Held W a b c L U V W.heap.size x w') => (impl_Mat_apply.calls _ _ _ _ _ _ _ _ _ A1.out).mono (fun e w'' (he : _ ∧ _) => (⟨he.1, impl_latticeMats.held_below h he.2⟩ : _ ∧ impl_latticeMats.Held W a b c L U V W.heap.size x w'')))
 have C2 := asd (fun (w' : World) (h : impl_latticeMats.Held W a b c L U V W.heap.size x w') => (impl_Lattice_has.calls _ _ _ _ _ _ _ A2.out).mono (fun e w'' (he : _ ∧ _) => (⟨he.1, impl_latticeMats.held_below h he.2⟩ : _ ∧ impl_latticeMats.Held W a b c L U V W.heap.size x w'')))
 have C3 := asd (fun (w' : World) (h : impl_latticeMats.Held W a b c L U V W.heap.size x w') => (impl_Mat_apply.calls _ _ _ _ _ _ _ _ _ A3.out).mono (fun e w'' (he : _ ∧ _) => (⟨he.1, impl_latticeMats.held_below h he.2⟩ : _ ∧ impl_latticeMats.Held W a b c L U V W.heap.size x w'')))
 have C4 := asd (fun (w' : World) (h : impl_latticeMats.Held W a b c L U V W.heap.size x w') => (impl_Lattice_has.calls _ _ _ _ _ _ _ A4.out).mono (fun e w'' (he : _ ∧ _) => (⟨he.1, impl_latticeMats.held_below h he.2⟩ : _ ∧ impl_latticeMats.Held W a b c L U V W.heap.size x w'')))
 clear hl0 hl1 hl2 hu0 hu1 hv0 hv1 ha hc hb0
 have hS1 := hS0
 obtain ⟨sb, s0, s1, s2, s3, s4, s5, s6, s7, s8, s9, s10⟩ := hS0
 cases r1 with
 | false =>
  go_enter Try.func113, Try.ntmps113
  go_wp2
  refine wp_region_held_drew (S := (fun w' => Below W.heap.size W w' ∧ w'.cell? ⟨L, 0, none⟩ = some (.int .i64 a) ∧ w'.cell? ⟨L, 1, none⟩ = some (.int .i64 b) ∧ w'.cell? ⟨L, 2, none⟩ = some (.int .i64 c) ∧ w'.cell? ⟨U, 0, none⟩ = some (.int .i64 a) ∧ w'.cell? ⟨U, 1, none⟩ = some (.int .i64 0) ∧ w'.cell? ⟨V, 0, none⟩ = some (.int .i64 b) ∧ w'.cell? ⟨V, 1, none⟩ = some (.int .i64 c) ∧ w'.cell? ⟨W.heap.size, 0, none⟩ = some (.int .i64 x.f0) ∧ w'.cell? ⟨W.heap.size, 1, none⟩ = some (.int .i64 x.f1) ∧ w'.cell? ⟨W.heap.size, 2, none⟩ = some (.int .i64 x.f2) ∧ w'.cell? ⟨W.heap.size, 3, none⟩ = some (.int .i64 x.f3))) (by kernel_rfl) (impl_latticeMats.held_drew hS1) (fun hHeld => ?_)
  refine wpAnyH_take (i := 0) (v := ?_) rfl (by kernel_rfl) (by kernel_rfl) (by kernel_rfl) (fun _ _ _ h => h) (Or.inl ⟨by rfl, ?_⟩) (by assumption) ?_
  rotate_left
  ·intro w' hSw; (try dsimp only at hSw); go_simp; first | done | with_reducible rfl
  rotate_left
  try simp only [Act.put, sA, sB, sC]
  refine wpAnyH_take (i := 1) (v := ?_) rfl (by kernel_rfl) (by kernel_rfl) (by kernel_rfl) (fun _ _ _ h => h) (Or.inl ⟨by rfl, ?_⟩) (by assumption) ?_
  rotate_left
  ·intro w' hSw; (try dsimp only at hSw); go_simp; first | done | with_reducible rfl
  rotate_left
  try simp only [Act.put, sA, sB, sC]
  refine wpAnyH_take (i := 2) (v := ?_) rfl (by kernel_rfl) (by kernel_rfl) (by kernel_rfl) (fun _ _ _ h => h) (Or.inl ⟨by rfl, ?_⟩) (by assumption) ?_
  rotate_left
  ·intro w' hSw; (try dsimp only at hSw); go_simp; first | done | with_reducible rfl
  rotate_left
  try simp only [Act.put, sA, sB, sC]
  refine wpAnyH_ready (rs := [3]) (by kernel_rfl) (by simp) ?_
  refine AllReadyH.cons rfl (fun K hK => ?_) AllReadyH.nil
  go_simp
  go_at_call 81
  (with_reducible refine (C1.out _ ?_).mono ?_)
  (assumption)
  rintro e w' ⟨rfl, hS'⟩
  refine hK.out _ _ (hS') (fun hHeld => ?_)
  clear hK K
  try simp only [Act.put, sA, sB, sC]
  refine wpAnyH_ready (rs := [4]) (by kernel_rfl) (by simp) ?_
  refine AllReadyH.cons rfl (fun K hK => ?_) AllReadyH.nil
  go_simp
  go_at_call 114
  (with_reducible refine (C2.out _ ?_).mono ?_)
  (assumption)
  rintro e w' ⟨rfl, hS'⟩
  refine hK.out _ _ (hS') (fun hHeld => ?_)
  clear hK K
  try simp only [Act.put, sA, sB, sC]
  refine wpAnyH_take (i := 5) (oi := { dst := some 11, op := _, type := _, pos := _, after := _, guard := _ }) (v := ?_) rfl (by kernel_rfl) (by kernel_rfl) (by kernel_rfl) (fun _ _ _ h => h) (Or.inl ⟨by rfl, ?_⟩) (by assumption) ?_
  rotate_left
  ·intro w' hSw; (try dsimp only at hSw); go_simp; first | done | with_reducible rfl
  rotate_left
  try simp only [Act.put, sA, sB, sC]
  refine wpAnyH_take (i := 6) (oi := { dst := some 12, op := _, type := _, pos := _, after := _, guard := _ }) (v := ?_) rfl (by kernel_rfl) (by kernel_rfl) (by kernel_rfl) (fun _ _ _ h => h) (Or.inl ⟨by rfl, ?_⟩) (by assumption) ?_
  rotate_left
  ·intro w' hSw; (try dsimp only at hSw); go_simp; first | done | with_reducible rfl
  rotate_left
  try simp only [Act.put, sA, sB, sC]
  refine wpAnyH_take (i := 7) (oi := { dst := some 13, op := _, type := _, pos := _, after := _, guard := _ }) (v := _) rfl (by kernel_rfl) (by kernel_rfl) (by kernel_rfl) (fun _ _ _ h => h) (Or.inr ⟨by rfl, rfl⟩) (by assumption) ?_
  try simp only [Act.put, sA, sB, sC]
  refine wpAnyH_take (i := 8) (oi := { dst := some 14, op := _, type := _, pos := _, after := _, guard := _ }) (v := _) rfl (by kernel_rfl) (by kernel_rfl) (by kernel_rfl) (fun _ _ _ h => h) (Or.inr ⟨by rfl, rfl⟩) (by assumption) ?_
  try simp only [Act.put, sA, sB, sC]
  refine wpAnyH_take (i := 9) (oi := { dst := some 15, op := _, type := _, pos := _, after := _, guard := _ }) (v := _) rfl (by kernel_rfl) (by kernel_rfl) (by kernel_rfl) (fun _ _ _ h => h) (Or.inr ⟨by rfl, rfl⟩) (by assumption) ?_
  try simp only [Act.put, sA, sB, sC]
  refine wpAnyH_take (i := 10) (oi := { dst := some 16, op := _, type := _, pos := _, after := _, guard := _ }) (v := _) rfl (by kernel_rfl) (by kernel_rfl) (by kernel_rfl) (fun _ _ _ h => h) (Or.inr ⟨by rfl, rfl⟩) (by assumption) ?_
  try simp only [Act.put, sA, sB, sC]
  refine wpAnyH_take (i := 11) (oi := { dst := some 17, op := _, type := _, pos := _, after := _, guard := _ }) (v := _) rfl (by kernel_rfl) (by kernel_rfl) (by kernel_rfl) (fun _ _ _ h => h) (Or.inr ⟨by rfl, rfl⟩) (by assumption) ?_
  try simp only [Act.put, sA, sB, sC]
  refine wpAnyH_take (i := 12) (oi := { dst := some 18, op := Op.unOp UnOp.not _ (Operand.tmp 17), type := _, pos := _, after := _, guard := _ }) (v := _) rfl (by kernel_rfl) (by kernel_rfl) (by kernel_rfl) (fun _ _ _ h => h) (Or.inr ⟨by rfl, rfl⟩) (by assumption) ?_
  try simp only [Act.put, sA, sB, sC]
  refine wpAnyH_take (i := 13) (oi := { dst := some 19, op := Op.pick (Operand.tmp 12) (Operand.const (Value.bool true)) (Operand.tmp 18), type := _, pos := _, after := _, guard := _ }) (v := ?_) rfl (by kernel_rfl) (by kernel_rfl) (by kernel_rfl) (fun _ _ _ h => h) (Or.inl ⟨by rfl, ?_⟩) (by assumption) ?_
  rotate_left
  ·intro w' hSw; (try dsimp only at hSw); go_simp; first | done | with_reducible rfl
  rotate_left
  try simp only [Act.put, sA, sB, sC]
  refine wpAnyH_take (i := 14) (oi := { dst := some 5, op := Op.assign (Operand.tmp 19), type := _, pos := _, after := _, guard := _ }) (v := ?_) rfl (by kernel_rfl) (by kernel_rfl) (by kernel_rfl) (fun _ _ _ h => h) (Or.inl ⟨by rfl, ?_⟩) (by assumption) ?_
  rotate_left
  ·intro w' hSw; (try dsimp only at hSw); go_simp; first | done | with_reducible rfl
  rotate_left
  try simp only [Act.put, sA, sB, sC]
  refine wpAnyH_done (by kernel_rfl) ?_ _
  all_goals go_wp2
  all_goals go_ret
  all_goals exact ⟨by first | rfl | (cases r2 <;> rfl), (show impl_latticeMats.Held W a b c L U V W.heap.size x _ by assumption).1⟩
 | true =>
  go_enter Try.func113, Try.ntmps113
  go_wp2
  first | (go_region_held3 (fun w' => Below W.heap.size W w' ∧ w'.cell? ⟨L, 0, none⟩ = some (.int .i64 a) ∧ w'.cell? ⟨L, 1, none⟩ = some (.int .i64 b) ∧ w'.cell? ⟨L, 2, none⟩ = some (.int .i64 c) ∧ w'.cell? ⟨U, 0, none⟩ = some (.int .i64 a) ∧ w'.cell? ⟨U, 1, none⟩ = some (.int .i64 0) ∧ w'.cell? ⟨V, 0, none⟩ = some (.int .i64 b) ∧ w'.cell? ⟨V, 1, none⟩ = some (.int .i64 c) ∧ w'.cell? ⟨W.heap.size, 0, none⟩ = some (.int .i64 x.f0) ∧ w'.cell? ⟨W.heap.size, 1, none⟩ = some (.int .i64 x.f1) ∧ w'.cell? ⟨W.heap.size, 2, none⟩ = some (.int .i64 x.f2) ∧ w'.cell? ⟨W.heap.size, 3, none⟩ = some (.int .i64 x.f3)) (first | assumption | exact impl_latticeMats.held_drew hS1 | go_keep)
   (first | (go_at_call 81; (with_reducible refine (C1.out _ ?_).mono ?_); (assumption); rintro e w' ⟨rfl, hS'⟩) | (go_at_call 114; (with_reducible refine (C2.out _ ?_).mono ?_); (assumption); rintro e w' ⟨rfl, hS'⟩) | (go_at_call 81; (with_reducible refine (C3.out _ ?_).mono ?_); (assumption); rintro e w' ⟨rfl, hS'⟩) | (go_at_call 114; (with_reducible refine (C4.out _ ?_).mono ?_); (assumption); rintro e w' ⟨rfl, hS'⟩))) | (fail "held3")
  all_goals go_wp2
  all_goals go_ret
  all_goals exact ⟨by first | rfl | (cases r2 <;> rfl), (show impl_latticeMats.Held W a b c L U V W.heap.size x _ by assumption).1⟩
set_option maxHeartbeats 4000000 in
set_option maxRecDepth 100000 in
theorem impl_latticeMats.calls (k : Nat) (a0 : Int) (a1_0 : Int) (a1_1 : Int) (a1_2 : Int) (r : List S51) (w : World) (h : impl_latticeMats.f k a0 a1_0 a1_1 a1_2 = some r) :
  Calls Try.prog 95 #[.int .i64 a0, .agg #[.int .i64 a1_0, .int .i64 a1_1, .int .i64 a1_2]] w fun e w' => ∃ v0_ : Value, e = .returned (v0_) ∧ Kd.R k51 51 w' w.heap.size (fun _ => True) v0_ r ∧ Below w.heap.size w w' := by
 have hu34 := Try.underlying53
 have hu31 := Try.underlying27
 unfold impl_latticeMats.f at h
 by_cases ha : a1_0 = 0
 ·rw [if_pos ha] at h; cases h
 rw [if_neg ha] at h
 by_cases hc : a1_2 = 0
 ·rw [if_pos hc] at h; cases h
 rw [if_neg hc] at h
 obtain ⟨l, h1, h2⟩ := Option.bind_eq_some_iff.1 h
 have hr := Option.some.inj h2
 subst hr
 have A1 := Aside0.mk h1
 have HA := Aside0.mk ha
 have HC := Aside0.mk hc
 have ABS := asd (show impl_Lattice_basis.f a1_0 a1_1 a1_2 = some (a1_0, 0, a1_1, a1_2) from rfl)
 clear h h1 h2 ha hc
 have eg : ∀ args w, (callFunc 113 args).run Try.prog w = .ok (.enter 113 args) w := enters_of Try.func113 (by kernel_rfl) rfl
 have EG := Aside0.mk eg
 clear eg
 go_enter Try.func95, Try.ntmps95
 go_wp2_with (first | (go_at_call 110; (with_reducible refine (impl_Lattice_basis.calls _ _ _ _ _ _ _ _ ABS.out).mono ?_); rintro e w2 ⟨rfl, hb2⟩; have HB2 := asd (below_then (below_alloc (Below.refl w.heap.size w) _) (below_alloc (Below.refl w.heap.size w) _).size hb2); have HL := Aside0.mk hb2; clear hb2) | (go_at_call 112; (with_reducible refine (impl_pointMats.calls _ _ _ _ A1.out).mono ?_); rintro e w3 ⟨v0, rfl, hR, hb3⟩; have HR3 := Aside0.mk hR; have HB3 := Aside0.mk hb3; clear hR hb3))
 obtain ⟨wA, hwA⟩ : ∃ wA, wA = (w2.alloc (.cells #[.int .i64 a1_0, .int .i64 0] 53)).alloc (.cells #[.int .i64 a1_1, .int .i64 a1_2] 53) := ⟨_, rfl⟩
 have hAB : Below w2.heap.size w2 wA := by rw [hwA]; exact below_alloc (below_alloc (Below.refl _ _) _) _
 have hl : ∀ o v, (w.alloc (.cells #[.int .i64 a1_0, .int .i64 a1_1, .int .i64 a1_2] 27)).cell? ⟨w.heap.size, o, none⟩ = some v → wA.cell? ⟨w.heap.size, o, none⟩ = some v := fun o v hv => by
  have h1 : w2.cell? ⟨w.heap.size, o, none⟩ = some v := (HL.out.cell (p := ⟨w.heap.size, o, none⟩) (by simp)).trans hv
  exact (hAB.cell (World.block_lt_of_cell? w2 _ h1)).trans h1
 have hl0 := hl 0 (.int .i64 a1_0) (by simp)
 have hl1 := hl 1 (.int .i64 a1_1) (by simp)
 have hl2 := hl 2 (.int .i64 a1_2) (by simp)
 have hu0 : wA.cell? ⟨w2.heap.size, 0, none⟩ = some (.int .i64 a1_0) := by rw [hwA]; simp
 have hu1 : wA.cell? ⟨w2.heap.size, 1, none⟩ = some (.int .i64 0) := by rw [hwA]; simp
 have hv0 : wA.cell? ⟨w2.heap.size + 1, 0, none⟩ = some (.int .i64 a1_1) := by rw [hwA]; simp
 have hv1 : wA.cell? ⟨w2.heap.size + 1, 1, none⟩ = some (.int .i64 a1_2) := by rw [hwA]; simp
 have hBA : Below w.heap.size w wA := below_then HB2.out HB2.out.size hAB
 have HR4 := HR3.out
 have HB4 := HB3.out
 rw [← hwA] at HR4 HB4
 have up : ∀ (W : World) (p : Addr) (v : Value), Below wA.heap.size wA W → wA.cell? p = some v → W.cell? p = some v := fun W p v hb h => (hb.cell (World.block_lt_of_cell? wA _ h)).trans h
 refine (impl_Mat_111.calls (fun x => !(impl_latticeMats.keep a1_0 a1_1 a1_2 x)) 113 #[.pointer (some ⟨w.heap.size, 0, none⟩), .pointer (some ⟨w2.heap.size, 0, none⟩), .pointer (some ⟨w2.heap.size + 1, 0, none⟩)] EG.out (fun k_ => wA.heap.size ≤ k_) v0 l wA w3 HB4 (Kd.R_mono (Kd.R_bound HR4) (fun k_ hk => hk.2.1)) (fun x W hb _ => impl_latticeMats.pred a1_0 a1_1 a1_2 w.heap.size w2.heap.size (w2.heap.size + 1) W (up W _ _ hb hl0) (up W _ _ hb hl1) (up W _ _ hb hl2) (up W _ _ hb hu0) (up W _ _ hb hu1) (up W _ _ hb hv0) (up W _ _ hb hv1) HA.out HC.out x)).mono ?_
 rintro e w4 ⟨v', rfl, hR4, hb4, _⟩
 have HR5 := Aside0.mk hR4
 have HB5 := Aside0.mk hb4
 have HBA := Aside0.mk hBA
 clear hl hl0 hl1 hl2 hu0 hu1 hv0 hv1 hAB hBA HR4 HB4 up hR4 hb4 hwA
 go_wp2
 go_ret
 refine ⟨_, rfl, ?_, below_then HBA.out HBA.out.size HB5.out⟩
 have hf : (l.filter fun x => !(!(impl_latticeMats.keep a1_0 a1_1 a1_2 x))) = l.filter (impl_latticeMats.keep a1_0 a1_1 a1_2) := by congr 1; funext x; simp
 have := HR5.out
 rw [hf] at this
 exact Kd.R_mono (Kd.R_lower this HBA.out.size) (fun _ _ => trivial)
/-! ### impl_Mat_115: function 115 -/
def impl_Mat_115.l0 : Nat → List (S51) → Int → Int → Int → Int → Int → Int → Option (Int)
 | 0, _, _, _, _, _, _, _ => none
 | k + 1, x0, x7, x8, x382000, x382001, x382002, x382003 => if x8 < x7 then (if 0 ≤ x8 then (if x8 < (x0.length : Int) then (if (x382000 == ((rd_T51 x0 x8).f0) && (x382001 == ((rd_T51 x0 x8).f1) && (x382002 == ((rd_T51 x0 x8).f2) && (x382003 == ((rd_T51 x0 x8).f3))))) = true then (some x8) else (impl_Mat_115.l0 k x0 x7 (wrap64 (x8 + 1)) x382000 x382001 x382002 x382003)) else (none)) else (none)) else (some (-1))
def impl_Mat_115.f (k : Nat) (l0 : List (S51)) (a1_0 : Int) (a1_1 : Int) (a1_2 : Int) (a1_3 : Int) : Option (Int) := impl_Mat_115.l0 k l0 (l0.length : Int) 0 a1_0 a1_1 a1_2 a1_3
set_option maxHeartbeats 8000000 in
set_option maxRecDepth 100000 in
theorem impl_Mat_115.calls (k : Nat) (A0 : Option Addr) (c0 : Nat) (l0 : List (S51)) (a1_0 : Int) (a1_1 : Int) (a1_2 : Int) (a1_3 : Int) (r : Int) (w : World) (hr0 : Kd.C k51 w A0 l0.length l0) (hc0 : l0.length ≤ c0) (h : impl_Mat_115.f k l0 a1_0 a1_1 a1_2 a1_3 = some r) :
  Calls Try.prog 115 #[.slice A0 l0.length c0, .agg #[.int .i64 a1_0, .int .i64 a1_1, .int .i64 a1_2, .int .i64 a1_3]] w fun e w' => e = .returned (.int .i64 r) ∧ Below w.heap.size w w' := by
 have hu51 := Try.underlying51
 have HR0 := Aside0.mk hr0
 have HC0 := Aside0.mk hc0
 clear hr0 hc0
 have HB := asd (Below.refl w.heap.size w)
 have H : (impl_Mat_115.l0 k l0 (l0.length : Int) 0 a1_0 a1_1 a1_2 a1_3) = some r := h
 clear h
 have H' := Aside0.mk H
 clear H
 go_enter Try.func115, Try.ntmps115
 go_wp2_with (first | ((with_reducible refine gd 3 rfl ?_); refine bx #[.int .i64 a1_0, .int .i64 a1_1, .int .i64 a1_2, .int .i64 a1_3] 51 ?_; intro gb381 hg w3 BK381 hb; have GE381 := ngw0 hg HB; replace HB := bS0 HB hb; clear hb hg))
 repeat (go_quiet (first | ((with_reducible refine gd 3 rfl ?_); refine bx #[.int .i64 a1_0, .int .i64 a1_1, .int .i64 a1_2, .int .i64 a1_3] 51 ?_; intro gb381 hg w3 BK381 hb; have GE381 := ngw0 hg HB; replace HB := bS0 HB hb; clear hb hg)); try go_wp2_with (first | ((with_reducible refine gd 3 rfl ?_); refine bx #[.int .i64 a1_0, .int .i64 a1_1, .int .i64 a1_2, .int .i64 a1_3] 51 ?_; intro gb381 hg w3 BK381 hb; have GE381 := ngw0 hg HB; replace HB := bS0 HB hb; clear hb hg)))
 go_loopg [8] k (fun kq v8 w' => ∃ (x8_1 : Int), v8 = .int .i64 x8_1 ∧ Aside0 (impl_Mat_115.l0 kq l0 (l0.length : Int) x8_1 a1_0 a1_1 a1_2 a1_3 = some r) ∧ Aside0 (kq ≤ k) ∧ Aside0 (w'.heap[gb381]? = some (.cells #[.int .i64 a1_0, .int .i64 a1_1, .int .i64 a1_2, .int .i64 a1_3] 51 (0, 0))) ∧ Aside0 (Below w.heap.size w w'))
 case atStart => exact ⟨(0), (by first | rfl | (simp; done) | (simp [*]; done)), H', ⟨Nat.le_refl _⟩, ⟨bkp BK381⟩, ⟨bbw1 HB GE381⟩⟩
 case round =>
  clear H'
  try clear c1
  try clear p2
  obtain ⟨x8_1, rfl, HA, HK1, BK381, HB⟩ := hrel
  cases gk with
  | zero => exact absurd HA.out (by simp [impl_Mat_115.l0])
  | succ k1 =>
   have H := HA.out
   clear HA
   simp only [impl_Mat_115.l0] at H
   by_cases c4 : x8_1 < (l0.length : Int)
   rw [if_pos c4] at H
   have c4b0 := decide_eq_true c4
   clear c4
   by_cases c5 : 0 ≤ x8_1
   rw [if_pos c5] at H
   have c5b0 := decide_eq_true c5
   clear c5
   by_cases c6 : x8_1 < (l0.length : Int)
   rw [if_pos c6] at H
   have c6b0 := decide_eq_true c6
   clear c6
   by_cases c7 : (a1_0 == ((rd_T51 l0 x8_1).f0) && (a1_1 == ((rd_T51 l0 x8_1).f1) && (a1_2 == ((rd_T51 l0 x8_1).f2) && (a1_3 == ((rd_T51 l0 x8_1).f3))))) = true
   rw [if_pos c7] at H
   have c7b0 := c7
   (try (have c7b1 : decide (a1_0 = ((rd_T51 l0 x8_1).f0) && (a1_1 == ((rd_T51 l0 x8_1).f1) && (a1_2 == ((rd_T51 l0 x8_1).f2) && (a1_3 == ((rd_T51 l0 x8_1).f3))))) = true := by simpa using c7))
   (try (have c7b2 : (a1_0 == ((rd_T51 l0 x8_1).f0) && (a1_1 == ((rd_T51 l0 x8_1).f1) && (a1_2 == ((rd_T51 l0 x8_1).f2) && (a1_3 == ((rd_T51 l0 x8_1).f3))))) = true := by simpa using c7))
   clear c7
   obtain rfl := Option.some.inj H
   rotate_left
   rw [if_neg c7] at H
   have c7b0 : (a1_0 == ((rd_T51 l0 x8_1).f0) && (a1_1 == ((rd_T51 l0 x8_1).f1) && (a1_2 == ((rd_T51 l0 x8_1).f2) && (a1_3 == ((rd_T51 l0 x8_1).f3))))) = false := by simpa using c7
   (try (have c7b1 : decide (a1_0 = ((rd_T51 l0 x8_1).f0) && (a1_1 == ((rd_T51 l0 x8_1).f1) && (a1_2 == ((rd_T51 l0 x8_1).f2) && (a1_3 == ((rd_T51 l0 x8_1).f3))))) = false := by simpa using c7))
   (try (have c7b2 : (a1_0 == ((rd_T51 l0 x8_1).f0) && (a1_1 == ((rd_T51 l0 x8_1).f1) && (a1_2 == ((rd_T51 l0 x8_1).f2) && (a1_3 == ((rd_T51 l0 x8_1).f3))))) = false := by simpa using c7))
   (try (have c7b3 : ¬ (a1_0 = ((rd_T51 l0 x8_1).f0) && (a1_1 == ((rd_T51 l0 x8_1).f1) && (a1_2 == ((rd_T51 l0 x8_1).f2) && (a1_3 == ((rd_T51 l0 x8_1).f3))))) := by simpa using c7))
   clear c7
   have H' := Aside0.mk H
   clear H
   rotate_left
   ·rw [if_neg c6] at H
    exact absurd H (by simp)
   ·rw [if_neg c5] at H
    exact absurd H (by simp)
   rw [if_neg c4] at H
   have c4b0 := decide_eq_false c4
   clear c4
   obtain rfl := Option.some.inj H
   rotate_left
   rotate_left 2
   ·go_wp2
    repeat (go_quiet (fail); try go_wp2)
    go_ret
    exact er (bbw1 HB GE381)
   all_goals
    obtain ⟨hcz8_0, hcz8_1, hcz8_2, hcz8_3, hfz8_0, hfz8_1, hfz8_2, hfz8_3⟩ := bz4 BK381
    obtain ⟨p382, q382, ad382, e382, hx382_0, hx382_1, hx382_2, hx382_3⟩ := at_T51x HR0.out HB x8_1
    cases e382
    go_wp2
    repeat (go_quiet (fail); try go_wp2)
   ·go_ret
    exact er (bbw1 HB GE381)
   ·go_roundg k1
    case measure => have := HK1.out; omega
    case rel => exact ⟨(wrap64 (x8_1 + 1)), (by first | rfl | (simp; done) | (simp [*]; done)), H', ⟨by have := HK1.out; omega⟩, ⟨bkp BK381⟩, ⟨bbw1 HB GE381⟩⟩
/-! ### impl_Mat_96: function 96 -/
def impl_Mat_96.f (k : Nat) (l0 : List (S51)) (a1_0 : Int) (a1_1 : Int) (a1_2 : Int) (a1_3 : Int) : Option (Bool) := (impl_Mat_115.f k l0 a1_0 a1_1 a1_2 a1_3).bind fun t384 => (some (decide (t384 ≥ 0)))
set_option maxHeartbeats 8000000 in
set_option maxRecDepth 100000 in
theorem impl_Mat_96.calls (k : Nat) (A0 : Option Addr) (c0 : Nat) (l0 : List (S51)) (a1_0 : Int) (a1_1 : Int) (a1_2 : Int) (a1_3 : Int) (r : Bool) (w : World) (hr0 : Kd.C k51 w A0 l0.length l0) (hc0 : l0.length ≤ c0) (h : impl_Mat_96.f k l0 a1_0 a1_1 a1_2 a1_3 = some r) :
  Calls Try.prog 96 #[.slice A0 l0.length c0, .agg #[.int .i64 a1_0, .int .i64 a1_1, .int .i64 a1_2, .int .i64 a1_3]] w fun e w' => e = .returned (.bool r) ∧ Below w.heap.size w w' := by
 have hu51 := Try.underlying51
 have HR0 := Aside0.mk hr0
 have HC0 := Aside0.mk hc0
 clear hr0 hc0
 have HB := asd (Below.refl w.heap.size w)
 have H : ((impl_Mat_115.f k l0 a1_0 a1_1 a1_2 a1_3).bind fun t384 => (some (decide (t384 ≥ 0)))) = some r := h
 clear h
 obtain ⟨t384, A3, H⟩ := ob H
 try dsimp only at H
 obtain rfl := Option.some.inj H
 go_enter Try.func96, Try.ntmps96
 go_wp2_with (first | ((with_reducible refine gd 3 rfl ?_); refine bx #[.int .i64 a1_0, .int .i64 a1_1, .int .i64 a1_2, .int .i64 a1_3] 51 ?_; intro gb383 hg w4 BK383 hb; have GE383 := ngw0 hg HB; replace HB := bS0 HB hb; clear hb hg; obtain ⟨hcz5_0, hcz5_1, hcz5_2, hcz5_3, hfz5_0, hfz5_1, hfz5_2, hfz5_3⟩ := bz4 BK383) | ((with_reducible refine gate_callee (f := 115) rfl ?_); refine gl 7 Try.func115 #[.slice A0 l0.length c0, .agg #[.int .i64 a1_0, .int .i64 a1_1, .int .i64 a1_2, .int .i64 a1_3]] ?_; (with_reducible refine (impl_Mat_115.calls _ _ _ _ _ _ _ _ _ _ ?side1 ?side2 A3.out).mono ?_); (case side1 => exact ks (Kd.C_below HR0.out HB.out)); (case side2 => exact HC0.out); rintro e w6 ⟨rfl, hb⟩; refine ⟨_, rfl, ?_⟩; replace BK383 := bB BK383 hb; replace HB := bS1 HB GE383 hb; (try clear hb)))
 go_ret
 exact er (bbw1 HB GE383)
/-! ### impl_compareNumbers: function 123 -/
def impl_compareNumbers.l0 : Nat → List Int → List Int → Int → Int → Option (Int)
 | 0, _, _, _, _ => none
 | k + 1, x0, x1, x7, x8 => if x8 < x7 then (if 0 ≤ x8 then (if x8 < (x0.length : Int) then (if x8 < (x1.length : Int) then (if (rd x0 x8) = (rd x1 x8) then (impl_compareNumbers.l0 k x0 x1 x7 (wrap64 (x8 + 1))) else (if (rd x0 x8) < (rd x1 x8) then (some (-1)) else (some 1))) else (none)) else (none)) else (none)) else (some 0)
def impl_compareNumbers.f (k : Nat) (l0 : List Int) (l1 : List Int) : Option (Int) := impl_compareNumbers.l0 k l0 l1 (l0.length : Int) 0
set_option maxHeartbeats 8000000 in
set_option maxRecDepth 100000 in
theorem impl_compareNumbers.calls (k : Nat) (A0 : Option Addr) (c0 : Nat) (l0 : List Int) (A1 : Option Addr) (c1 : Nat) (l1 : List Int) (r : Int) (w : World) (hr0 : Kd.C (Kd.int .i64) w A0 l0.length l0) (hc0 : l0.length ≤ c0) (hr1 : Kd.C (Kd.int .i64) w A1 l1.length l1) (hc1 : l1.length ≤ c1) (h : impl_compareNumbers.f k l0 l1 = some r) :
  Calls Try.prog 123 #[.slice A0 l0.length c0, .slice A1 l1.length c1] w fun e w' => e = .returned (.int .i64 r) ∧ Drawn0 w w' := by
 have HR0 := Aside0.mk hr0
 have HC0 := Aside0.mk hc0
 clear hr0 hc0
 have HR1 := Aside0.mk hr1
 have HC1 := Aside0.mk hc1
 clear hr1 hc1
 have H : (impl_compareNumbers.l0 k l0 l1 (l0.length : Int) 0) = some r := h
 clear h
 have H' := Aside0.mk H
 clear H
 go_enter Try.func123, Try.ntmps123
 go_wp2
 repeat (go_quiet (fail); try go_wp2)
 go_loopg [8] k (fun kq v8 w' => ∃ (x8_1 : Int), v8 = .int .i64 x8_1 ∧ Aside0 (impl_compareNumbers.l0 kq l0 l1 (l0.length : Int) x8_1 = some r) ∧ Aside0 (kq ≤ k) ∧ Drawn0 w w')
 case atStart => exact ⟨(0), (by first | rfl | (simp; done) | (simp [*]; done)), H', ⟨Nat.le_refl _⟩, by repeat (first | exact Drawn0.refl _ | apply Drawn0.step)⟩
 case round =>
  clear H'
  try clear c1
  try clear p2
  obtain ⟨x8_1, rfl, HA, HK1, ⟨m1, rfl⟩⟩ := hrel
  cases gk with
  | zero => exact absurd HA.out (by simp [impl_compareNumbers.l0])
  | succ k1 =>
   have H := HA.out
   clear HA
   simp only [impl_compareNumbers.l0] at H
   by_cases c3 : x8_1 < (l0.length : Int)
   rw [if_pos c3] at H
   have c3b0 := decide_eq_true c3
   clear c3
   by_cases c4 : 0 ≤ x8_1
   rw [if_pos c4] at H
   have c4b0 := decide_eq_true c4
   clear c4
   by_cases c5 : x8_1 < (l0.length : Int)
   rw [if_pos c5] at H
   have c5b0 := decide_eq_true c5
   clear c5
   by_cases c6 : x8_1 < (l1.length : Int)
   rw [if_pos c6] at H
   have c6b0 := decide_eq_true c6
   clear c6
   by_cases c7 : (rd l0 x8_1) = (rd l1 x8_1)
   rw [if_pos c7] at H
   have c7b0 : ((rd l0 x8_1) == (rd l1 x8_1)) = true := beq_iff_eq.mpr c7
   have c7b1 : ((rd l0 x8_1) != (rd l1 x8_1)) = false := bne_eq_false_iff_eq.mpr c7
   clear c7
   have H' := Aside0.mk H
   clear H
   rotate_left
   rw [if_neg c7] at H
   have c7b0 : ((rd l0 x8_1) == (rd l1 x8_1)) = false := beq_eq_false_iff_ne.mpr c7
   have c7b1 : ((rd l0 x8_1) != (rd l1 x8_1)) = true := bne_iff_ne.mpr c7
   by_cases c8 : (rd l0 x8_1) < (rd l1 x8_1)
   rw [if_pos c8] at H
   have c8b0 := decide_eq_true c8
   clear c8
   obtain rfl := Option.some.inj H
   rotate_left
   rw [if_neg c8] at H
   have c8b0 := decide_eq_false c8
   clear c8
   obtain rfl := Option.some.inj H
   rotate_left
   ·rw [if_neg c6] at H
    exact absurd H (by simp)
   ·rw [if_neg c5] at H
    exact absurd H (by simp)
   ·rw [if_neg c4] at H
    exact absurd H (by simp)
   rw [if_neg c3] at H
   have c3b0 := decide_eq_false c3
   clear c3
   obtain rfl := Option.some.inj H
   rotate_left
   rotate_left 3
   ·go_wp2
    repeat (go_quiet (fail); try go_wp2)
    go_ret
    exact ⟨by first | rfl | (simp; done) | (simp [*]; done), by repeat (first | exact Drawn0.refl _ | apply Drawn0.step)⟩
   all_goals
    have p385 : 0 ≤ (x8_1 : Int) := od
    have q385 : x8_1 < (l0.length : Int) := od
    obtain ⟨ad385, e385, hx385_0⟩ := Kd.at_int HR0.out x8_1 p385 q385
    cases e385
    replace p385 := eq_true p385
    replace q385 := eq_true q385
    have p386 : 0 ≤ (x8_1 : Int) := od
    have q386 : x8_1 < (l1.length : Int) := od
    obtain ⟨ad386, e386, hx386_0⟩ := Kd.at_int HR1.out x8_1 p386 q386
    cases e386
    replace p386 := eq_true p386
    replace q386 := eq_true q386
   ·go_wp2
    repeat (go_quiet (fail); try go_wp2)
    go_roundg k1
    case measure => have := HK1.out; omega
    case rel => exact ⟨(wrap64 (x8_1 + 1)), (by first | rfl | (simp; done) | (simp [*]; done)), H', ⟨by have := HK1.out; omega⟩, by repeat (first | exact Drawn0.refl _ | apply Drawn0.step)⟩
   rotate_left 2
   all_goals
    have p387 : 0 ≤ (x8_1 : Int) := od
    have q387 : x8_1 < (l0.length : Int) := od
    obtain ⟨ad387, e387, hx387_0⟩ := Kd.at_int HR0.out x8_1 p387 q387
    obtain rfl : ad385 = ad387 := (by injection e387)
    replace p387 := eq_true p387
    replace q387 := eq_true q387
    have p388 : 0 ≤ (x8_1 : Int) := od
    have q388 : x8_1 < (l1.length : Int) := od
    obtain ⟨ad388, e388, hx388_0⟩ := Kd.at_int HR1.out x8_1 p388 q388
    obtain rfl : ad386 = ad388 := (by injection e388)
    replace p388 := eq_true p388
    replace q388 := eq_true q388
    go_wp2
    repeat (go_quiet (fail); try go_wp2)
    go_ret
    exact ⟨by first | rfl | (simp; done) | (simp [*]; done), by repeat (first | exact Drawn0.refl _ | apply Drawn0.step)⟩

end Go.Proofs.Ytcchmdodifkloaa.PA
