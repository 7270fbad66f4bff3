/- Plain lemmas on CountCentres: the classes of centres of both sides. -/
import Derived.Test.YtfmjboloeabjmaaAid
import Derived.Test.YtfmjboloeabjmaaPAx0
import Derived.Test.YtfmjboloeabjmaaLAABasic
import Derived.Test.YtfmjboloeabjmaaLAGLattice
import Derived.Test.YtfmjboloeabjmaaLAOHermite
import Derived.Test.YtfmjboloeabjmaaLAPPoints
import Derived.Test.YtfmjboloeabjmaaLAUOrder
import Derived.Test.YtfmjboloeabjmaaLAVGroup
import Derived.Test.YtfmjboloeabjmaaLAWIsgroup
import Derived.Test.YtfmjboloeabjmaaLAYRotation
import Derived.Test.YtfmjboloeabjmaaLAZiClose
import Derived.Test.YtfmjboloeabjmaaLAZoaBytes
import Derived.Test.YtfmjboloeabjmaaPAx0
import Derived.Test.YtfmjboloeabjmaaPAx10
import Derived.Test.YtfmjboloeabjmaaPAx11
import Derived.Test.YtfmjboloeabjmaaPAx12
import Derived.Test.YtfmjboloeabjmaaPAx14
import Derived.Test.YtfmjboloeabjmaaPAx16
import Derived.Test.YtfmjboloeabjmaaPAx17
import Derived.Test.YtfmjboloeabjmaaPAx5
import Derived.Test.YtfmjboloeabjmaaPAx6
import Derived.Test.YtfmjboloeabjmaaPAx7
import Derived.Test.YtfmjboloeabjmaaPAx8
import Derived.Test.YtfmjboloeabjmaaPAx9
namespace Go.Proofs.Ytfmjboloeabjmaa.LA
open Go.RowKit Go.Proofs.Ytfmjboloeabjmaa.PA Go.Proofs.YtfmjboloeabjmaaW.PrintWords Go.Proofs.YtfmjboloeabjmaaW.PrintLast Go.Proofs.Ytfmjboloeabjmaa.Aid
set_option linter.unusedVariables false
set_option linter.unusedSimpArgs false

/-- The order of vectors. -/
def ltV (x y : S42) : Prop := x.f0 < y.f0 ∨ (x.f0 = y.f0 ∧ x.f1 < y.f1)
instance (x y : S42) : Decidable (ltV x y) := by unfold ltV; infer_instance
theorem ve_ext {x y : S42} (h0 : x.f0 = y.f0) (h1 : x.f1 = y.f1) : x = y := by cases x; cases y; simp only at h0 h1; rw [h0, h1]
theorem lessV (x y : S42) : spec_l01Less.f x.f0 x.f1 y.f0 y.f1 = some (decide (ltV x y)) := by
  unfold spec_l01Less.f
  by_cases h : x.f0 < y.f0
  · rw [if_pos h]; congr 1; exact (decide_eq_true (Or.inl h)).symm
  · rw [if_neg h]
    by_cases e : x.f0 = y.f0
    · rw [if_pos e]; congr 1; rw [decide_eq_decide]; unfold ltV; omega
    · rw [if_neg e]; congr 1; exact (decide_eq_false (by unfold ltV; omega)).symm
theorem rd_vi (xs : List S42) (i : Nat) (h : i < xs.length) : rd_T42 xs (i : Int) = xs[i] := by unfold rd_T42; rw [Int.toNat_natCast]; simp [List.getD, h]
theorem placeV (l : List S42) (hl : l.length ≤ 1000000) (x : S42) (d : Nat) : ∀ (i k : Nat), i + d = l.length → d < k → (∀ j (hj : j < l.length), j < i → ltV l[j] x) →
    ∃ t : Nat, spec_l01Insert.l0 k l (i : Int) x.f0 x.f1 = some (t : Int) ∧ t ≤ l.length ∧ (∀ j (hj : j < l.length), j < t → ltV l[j] x) ∧ ∀ ht : t < l.length, ¬ ltV l[t] x := by
  induction d with
  | zero =>
    intro i k hi hk h
    obtain ⟨k, rfl⟩ : ∃ m, k = m + 1 := ⟨k - 1, by omega⟩
    refine ⟨i, ?_, by omega, h, fun ht => by omega⟩
    simp only [spec_l01Insert.l0]; rw [if_neg (by omega)]
  | succ d ih =>
    intro i k hi hk h
    obtain ⟨k, rfl⟩ : ∃ m, k = m + 1 := ⟨k - 1, by omega⟩
    have h1 : i < l.length := by omega
    have hw : wrap64 ((i : Int) + 1) = ((i + 1 : Nat) : Int) := by rw [w64s (by omega) (by omega)]; omega
    by_cases c : ltV l[i] x
    · obtain ⟨t, t1, t2⟩ := ih (i + 1) k (by omega) (by omega) (fun j hj hji => by
        by_cases e : j = i
        · subst e; exact c
        · exact h j hj (by omega))
      refine ⟨t, ?_, t2⟩
      simp only [spec_l01Insert.l0]
      rw [if_pos (by omega), if_pos (by omega), rd_vi l i h1, lessV, Option.bind_some, if_pos (decide_eq_true c), hw]; exact t1
    · refine ⟨i, ?_, by omega, h, fun _ => c⟩
      simp only [spec_l01Insert.l0]
      rw [if_pos (by omega), if_pos (by omega), rd_vi l i h1, lessV, Option.bind_some, if_neg (by simp [c])]
      split <;> rfl
theorem insV (l : List S42) (hl : l.length ≤ 1000000) (h : l.Pairwise ltV) (x : S42) : spec_l01Insert.ok l x = true ∧ (spec_l01Insert.ins l x).Pairwise ltV ∧ (∀ v, v ∈ spec_l01Insert.ins l x ↔ v = x ∨ v ∈ l) ∧ (spec_l01Insert.ins l x).length ≤ l.length + 1 := by
  obtain ⟨t, t1, t2, t3, t4⟩ := placeV l hl x l.length 0 2000000 (by omega) (by omega) (fun j hj h0 => absurd h0 (by omega))
  have hp : spec_l01Insert.pl l x = some (t : Int) := by unfold spec_l01Insert.pl spec_l01Insert.f; exact t1
  have hi : spec_l01Insert.ins l x = spec_l01Insert.at l x t := by unfold spec_l01Insert.ins; rw [hp]; rfl
  have hok : spec_l01Insert.ok l x = true := by unfold spec_l01Insert.ok; rw [hp]; exact decide_eq_true ⟨by omega, by omega⟩
  refine ⟨hok, ?_⟩
  rw [hi]
  unfold spec_l01Insert.at
  by_cases c : (decide (t < l.length) && spec_l01Insert.eqB (rd_T42 l (t : Int)) x) = true
  · rw [if_pos c]
    rw [Bool.and_eq_true, decide_eq_true_iff] at c
    have e : l[t]'c.1 = x := by
      have c2 := c.2
      rw [rd_vi l t c.1] at c2
      unfold spec_l01Insert.eqB at c2
      rw [Bool.and_eq_true, beq_iff_eq, beq_iff_eq] at c2
      exact ve_ext c2.1 c2.2
    exact ⟨h, fun v => ⟨Or.inr, fun g => g.elim (fun g => by rw [g, ← e]; exact List.getElem_mem _) id⟩, by omega⟩
  · rw [if_neg c]
    have hgt : ∀ y ∈ l.drop t, ltV x y := fun y hy => by
      by_cases ht : t < l.length
      · have hne : l[t] ≠ x := fun e => c (by
          rw [Bool.and_eq_true, rd_vi l t ht, e]
          exact ⟨decide_eq_true ht, by unfold spec_l01Insert.eqB; simp⟩)
        have h0 : ltV x l[t] := by
          have := t4 ht
          unfold ltV at this ⊢
          by_cases e0 : l[t].f0 = x.f0
          · by_cases e1 : l[t].f1 = x.f1
            · exact absurd (ve_ext e0 e1) hne
            · omega
          · omega
        rw [List.drop_eq_getElem_cons ht] at hy
        rcases List.mem_cons.1 hy with rfl | hy
        · exact h0
        · have hd := h.drop (i := t)
          rw [List.drop_eq_getElem_cons ht, List.pairwise_cons] at hd
          have := hd.1 y hy
          unfold ltV at h0 this ⊢; omega
      · rw [List.drop_eq_nil_of_le (by omega)] at hy; exact absurd hy List.not_mem_nil
    have hlt : ∀ y ∈ l.take t, ltV y x := fun y hy => by
      obtain ⟨j, hj, rfl⟩ := List.getElem_of_mem hy
      rw [List.length_take] at hj
      rw [List.getElem_take]
      exact t3 j (by omega) (by omega)
    refine ⟨?_, fun v => ?_, ?_⟩
    · rw [List.append_assoc, List.pairwise_append]
      refine ⟨h.take, ?_, fun y hy z hz => ?_⟩
      · rw [List.singleton_append, List.pairwise_cons]
        exact ⟨hgt, h.drop⟩
      · rcases List.mem_cons.1 hz with rfl | hz
        · exact hlt y hy
        · have h1 := hlt y hy
          have h2 := hgt z hz
          unfold ltV at h1 h2 ⊢; omega
    · have : v ∈ l ↔ v ∈ l.take t ∨ v ∈ l.drop t := by rw [← List.mem_append, List.take_append_drop]
      rw [this, List.mem_append, List.mem_append, List.mem_singleton]
      constructor
      · rintro ((g | g) | g)
        · exact Or.inr (Or.inl g)
        · exact Or.inl g
        · exact Or.inr (Or.inr g)
      · rintro (g | g | g)
        · exact Or.inl (Or.inr g)
        · exact Or.inl (Or.inl g)
        · exact Or.inr g
    · simp only [List.length_append, List.length_cons, List.length_nil, List.length_take, List.length_drop]; omega
theorem pairV_nodup {l : List S42} (h : l.Pairwise ltV) : l.Nodup := h.imp (fun {x y} g e => by subst e; unfold ltV at g; omega)
theorem card_snoc (xs : List S42) (y : S42) (hw : ∀ x ∈ xs, mapVe.wf x = true) (hy : mapVe.wf y = true) : (y ∈ xs → mapVe.card (xs ++ [y]) = mapVe.card xs) ∧ (y ∉ xs → mapVe.card (xs ++ [y]) = mapVe.card xs + 1) := by
  have tidy : ∀ (l : List S42) (D : DataW Unit), (∀ x ∈ l, mapVe.wf x = true) → Go.Maps.Tidy D → Go.Maps.Tidy (mapVe.setD l D) := by
    intro l
    induction l with
    | nil => intro D _ h; exact h
    | cons x l ih =>
      intro D hl h
      exact ih _ (fun z hz => hl z (List.mem_cons_of_mem _ hz)) (h.put (mapVe.law.key (mapVe.hkey x (hl x List.mem_cons_self))) _)
  have hT := tidy xs (.map []) hw Go.Maps.tidy_empty
  have e1 : mapVe.setD (xs ++ [y]) (.map []) = (mapVe.setD xs (.map [])).put (mapVe.kl y) (.lit (.bool true)) := by
    unfold mapVe.setD; rw [List.foldl_append]; rfl
  have hh : Go.Maps.has (mapVe.setD xs (.map [])) (mapVe.kl y) = true ↔ y ∈ xs := by
    have key : ∀ (l : List S42) (D : DataW Unit), (∀ x ∈ l, mapVe.wf x = true) → Go.Maps.IsMap D → (Go.Maps.has (mapVe.setD l D) (mapVe.kl y) = true ↔ Go.Maps.has D (mapVe.kl y) = true ∨ y ∈ l) := by
      intro l
      induction l with
      | nil => intro D _ _; simp [mapVe.setD]
      | cons x l ih =>
        intro D hl hD
        have hx := hl x List.mem_cons_self
        have := ih (D.put (mapVe.kl x) (.lit (.bool true))) (fun z hz => hl z (List.mem_cons_of_mem _ hz)) (hD.put _ _)
        refine Iff.trans this ?_
        rw [List.mem_cons]
        by_cases e : y = x
        · subst e
          exact ⟨fun _ => Or.inr (Or.inl rfl), fun _ => Or.inl (Go.Maps.has_put_same hD (mapVe.law.key (mapVe.hkey y hx)) _)⟩
        · rw [Go.Maps.has_put_other (fun g => e (mapVe.kl_inj hy hx g))]
          exact ⟨fun g => g.elim Or.inl (fun g => Or.inr (Or.inr g)), fun g => g.elim Or.inl (fun g => g.elim (fun g => absurd g e) Or.inr)⟩
    have := key xs (.map []) hw Go.Maps.isMap_empty
    rw [this]
    exact ⟨fun g => g.elim (fun g => absurd g (by simp [Go.Maps.has])) id, Or.inr⟩
  unfold mapVe.card
  rw [e1, Go.Maps.size_put hT]
  exact ⟨fun g => by rw [if_pos (hh.2 g)], fun g => by rw [if_neg (fun q => g (hh.1 q))]; rfl⟩
theorem card_list (n : Nat) : ∀ xs : List S42, xs.length = n → (∀ x ∈ xs, mapVe.wf x = true) → ∃ R : List S42, R.Nodup ∧ (∀ v, v ∈ R ↔ v ∈ xs) ∧ mapVe.card xs = R.length := by
  induction n with
  | zero =>
    intro xs hx _
    have : xs = [] := List.length_eq_zero_iff.1 hx
    subst this
    exact ⟨[], List.nodup_nil, fun v => Iff.rfl, rfl⟩
  | succ n ih =>
    intro xs hx hw
    have hne : xs ≠ [] := fun e => by rw [e] at hx; simp at hx
    obtain ⟨ys, y, rfl⟩ : ∃ ys y, xs = ys ++ [y] := ⟨xs.dropLast, xs.getLast hne, (List.dropLast_concat_getLast hne).symm⟩
    have hw1 : ∀ x ∈ ys, mapVe.wf x = true := fun x hx => hw x (List.mem_append_left _ hx)
    obtain ⟨R, r1, r2, r3⟩ := ih ys (by simp at hx; omega) hw1
    obtain ⟨s1, s2⟩ := card_snoc ys y hw1 (hw y (List.mem_append_right _ (List.mem_singleton.2 rfl)))
    by_cases c : y ∈ ys
    · refine ⟨R, r1, fun v => ?_, by rw [s1 c, r3]⟩
      rw [r2, List.mem_append, List.mem_singleton]
      exact ⟨Or.inl, fun g => g.elim id (fun g => g ▸ c)⟩
    · refine ⟨R ++ [y], ?_, fun v => ?_, by rw [s2 c, r3, List.length_append]; rfl⟩
      · rw [List.nodup_append]
        refine ⟨r1, List.pairwise_singleton _ _, fun a ha b hb e => ?_⟩
        rw [List.mem_singleton] at hb
        exact c ((r2 y).1 (hb ▸ e ▸ ha))
      · rw [List.mem_append, List.mem_append, r2]
/-- As many keys as a row without repeats has that holds their images. -/
theorem card_image (xs out : List S42) (hw : ∀ x ∈ xs, mapVe.wf x = true) (f : S42 → S42) (hf : ∀ x y, f x = f y → x = y) (ho : out.Nodup) (hm : ∀ w, w ∈ out ↔ ∃ v ∈ xs, w = f v) : mapVe.card xs = (out.length : Int) := by
  obtain ⟨R, r1, r2, r3⟩ := card_list xs.length xs rfl hw
  rw [r3]
  have hn : (R.map f).Nodup := by
    rw [List.Nodup, List.pairwise_map]
    exact r1.imp (fun {a b} h e => h (hf a b e))
  have h1 : (R.map f).length ≤ out.length := @pigeon _ (fun x y => Classical.propDecidable (x = y)) _ _ hn (fun z hz => by
    obtain ⟨v, hv, rfl⟩ := List.mem_map.1 hz
    exact (hm _).2 ⟨v, (r2 v).1 hv, rfl⟩)
  have h2 : out.length ≤ (R.map f).length := @pigeon _ (fun x y => Classical.propDecidable (x = y)) _ _ ho (fun z hz => by
    obtain ⟨v, hv, rfl⟩ := (hm z).1 hz
    exact List.mem_map.2 ⟨v, (r2 v).2 hv, rfl⟩)
  rw [List.length_map] at h1 h2
  omega
theorem ccgcd_eq : ∀ (k : Nat) (a b : Int), b.natAbs < k → a.natAbs ≤ 4611686018427387904 → b.natAbs ≤ 4611686018427387904 → impl_gcd.f k a b = some (Int.gcd a b : Int)
  | 0, _, _, h, _, _ => absurd h (Nat.not_lt_zero _)
  | k + 1, a, b, h, ha, hb => by
    unfold impl_gcd.f impl_gcd.l0
    by_cases e : b = 0
    · rw [if_pos e, e, mx_abs (by omega) (by omega), Int.gcd_zero]
    · rw [if_neg e]
      have h1 : (Int.tmod a b).natAbs < b.natAbs := by rw [Int.natAbs_tmod]; exact Nat.mod_lt _ (by omega)
      have := ccgcd_eq k b (Int.tmod a b) (by omega) hb (by omega)
      rw [gcd_step] at this
      exact this
/-- The centre's vector, by the denominator. -/
def cvx (m : S44) (x y : Int) : Int := (1 - m.f0.f3) * x + m.f0.f1 * y
def cvy (m : S44) (x y : Int) : Int := m.f0.f2 * x + (1 - m.f0.f0) * y
def dnm (m : S44) : Int := 2 - m.f0.f0 - m.f0.f3
theorem um2 {u x B : Int} (h : -2 ≤ u ∧ u ≤ 2) (hx : -B ≤ x ∧ x ≤ B) : -(2 * B) ≤ u * x ∧ u * x ≤ 2 * B := by
  have : u = -2 ∨ u = -1 ∨ u = 0 ∨ u = 1 ∨ u = 2 := by omega
  rcases this with rfl | rfl | rfl | rfl | rfl <;> omega
/-- What is known of a rotation of a group. -/
structure Rot (fr a b c : Int) (m : S44) : Prop where
  good : Good fr a b c m
  det : m.f0.f0 * m.f0.f3 - m.f0.f1 * m.f0.f2 = 1
  dlo : 1 ≤ dnm m
  dhi : dnm m ≤ 4
theorem cv_bounds {fr a b c : Int} (h : FL fr a b c) {m : S44} (g : Good fr a b c m) {x y : Int} (hx : -2000 ≤ x ∧ x ≤ 2000) (hy : -2000 ≤ y ∧ y ≤ 2000) :
    (-4000 ≤ (1 - m.f0.f3) * x ∧ (1 - m.f0.f3) * x ≤ 4000) ∧ (-4000 ≤ m.f0.f1 * y ∧ m.f0.f1 * y ≤ 4000) ∧ (-4000 ≤ m.f0.f2 * x ∧ m.f0.f2 * x ≤ 4000) ∧ (-4000 ≤ (1 - m.f0.f0) * y ∧ (1 - m.f0.f0) * y ≤ 4000) := by
  obtain ⟨⟨a1, a2, a3, a4⟩, -⟩ := g.small h
  have b1 := um2 (u := 1 - m.f0.f3) (x := x) (B := 2000) (by omega) (by omega)
  have b2 := um2 (u := m.f0.f1) (x := y) (B := 2000) (by omega) (by omega)
  have b3 := um2 (u := m.f0.f2) (x := x) (B := 2000) (by omega) (by omega)
  have b4 := um2 (u := 1 - m.f0.f0) (x := y) (B := 2000) (by omega) (by omega)
  exact ⟨by omega, by omega, by omega, by omega⟩
theorem gdiv {n p g : Int} (hg : 1 ≤ g) (h : n = g * p) : Int.tdiv n g = p := by rw [h]; exact Int.mul_tdiv_cancel_left _ (by omega)
/-- The centre, on the program's side: the vector and the denominator over a common divisor. -/
theorem centre_impl {fr a b c : Int} (h : FL fr a b c) {m : S44} (r : Rot fr a b c m) {x y : Int} (hx : -2000 ≤ x ∧ x ≤ 2000) (hy : -2000 ≤ y ∧ y ≤ 2000) : ∃ g p q e : Int, (1 ≤ g ∧ g ≤ 4) ∧ (1 ≤ e ∧ e ≤ 4) ∧ cvx m x y = g * p ∧ cvy m x y = g * q ∧ dnm m = g * e ∧ (-8000 ≤ p ∧ p ≤ 8000) ∧ (-8000 ≤ q ∧ q ≤ 8000) ∧
    (∀ k, 100000 ≤ k → impl_Motion_centre.f k m.f0.f0 m.f0.f1 m.f0.f2 m.f0.f3 x y = some (p, q, e)) ∧ ∀ k, 100000 ≤ k → spec_l05Centre.f k m.f0.f0 m.f0.f1 m.f0.f2 m.f0.f3 x y = some (p, q, e) := by
  obtain ⟨b1, b2, b3, b4⟩ := cv_bounds h r.good hx hy
  obtain ⟨⟨a1, a2, a3, a4⟩, -⟩ := r.good.small h
  have hd := r.det
  have d1 := r.dlo
  have d2 := r.dhi
  have e1 : cvx m x y = (1 - m.f0.f3) * x + m.f0.f1 * y := rfl
  have e2 : cvy m x y = m.f0.f2 * x + (1 - m.f0.f0) * y := rfl
  have e3 : dnm m = 2 - m.f0.f0 - m.f0.f3 := rfl
  have eD : (1 - m.f0.f0) * (1 - m.f0.f3) - -m.f0.f1 * -m.f0.f2 = dnm m := by
    rw [Int.neg_mul_neg]
    simp only [Int.sub_mul, Int.mul_sub, Int.one_mul, Int.mul_one]
    omega
  have eX : (1 - m.f0.f3) * x - -m.f0.f1 * y = cvx m x y := by rw [Int.neg_mul]; omega
  have eY : (1 - m.f0.f0) * y - -m.f0.f2 * x = cvy m x y := by rw [Int.neg_mul]; omega
  have bd1 : -4 ≤ (1 - m.f0.f0) * (1 - m.f0.f3) ∧ (1 - m.f0.f0) * (1 - m.f0.f3) ≤ 4 := by
    have := um2 (u := 1 - m.f0.f0) (x := 1 - m.f0.f3) (B := 2) (by omega) (by omega)
    omega
  have bd2 : -2 ≤ -m.f0.f1 * -m.f0.f2 ∧ -m.f0.f1 * -m.f0.f2 ≤ 8 := by
    rw [Int.neg_mul_neg]
    have := um2 (u := m.f0.f1) (x := m.f0.f2) (B := 1) (by omega) (by omega)
    omega
  generalize hV : cvx m x y = vx at *
  generalize hW : cvy m x y = vy at *
  generalize hD : dnm m = dd at *
  have g1 : ((Int.gcd (Int.gcd vx vy : Int) dd : Nat) : Int) ∣ dd := Int.gcd_dvd_right ..
  have g2 : ((Int.gcd (Int.gcd vx vy : Int) dd : Nat) : Int) ∣ vx := Int.dvd_trans (Int.gcd_dvd_left ..) (Int.gcd_dvd_left ..)
  have g3 : ((Int.gcd (Int.gcd vx vy : Int) dd : Nat) : Int) ∣ vy := Int.dvd_trans (Int.gcd_dvd_left ..) (Int.gcd_dvd_right ..)
  have gp : 1 ≤ ((Int.gcd (Int.gcd vx vy : Int) dd : Nat) : Int) := by
    have : Int.gcd (Int.gcd vx vy : Int) dd ≠ 0 := fun e => by rw [Int.gcd_eq_zero_iff] at e; omega
    omega
  have gl : ((Int.gcd (Int.gcd vx vy : Int) dd : Nat) : Int) ≤ dd := Int.le_of_dvd (by omega) g1
  have hgN : (Int.gcd vx vy : Int).natAbs ≤ 100000 := by
    by_cases z : vx = 0
    · subst z
      rw [Int.gcd_zero_left]; omega
    · have := Nat.le_of_dvd (show 0 < vx.natAbs by omega) (Int.gcd_dvd_natAbs_left vx vy)
      omega
  have hi1 : ∀ k, 100000 ≤ k → impl_gcd.f k vx vy = some (Int.gcd vx vy : Int) := fun k hk => ccgcd_eq k vx vy (by omega) (by omega) (by omega)
  have hi2 : ∀ k, 100000 ≤ k → impl_gcd.f k (Int.gcd vx vy : Int) dd = some (Int.gcd (Int.gcd vx vy : Int) dd : Int) := fun k hk => ccgcd_eq k _ dd (by omega) (by omega) (by omega)
  have hs1 : ∀ k, 100000 ≤ k → spec_l01Divisor.f k vx vy = some (Int.gcd vx vy : Int) := fun k hk => spec_gcd_eq k vx vy (by omega) (by omega) (by omega)
  have hs2 : ∀ k, 100000 ≤ k → spec_l01Divisor.f k (Int.gcd vx vy : Int) dd = some (Int.gcd (Int.gcd vx vy : Int) dd : Int) := fun k hk => spec_gcd_eq k _ dd (by omega) (by omega) (by omega)
  generalize ((Int.gcd (Int.gcd vx vy : Int) dd : Nat) : Int) = g at *
  generalize (Int.gcd vx vy : Int) = g0 at *
  obtain ⟨e, he⟩ := g1
  obtain ⟨p, hp⟩ := g2
  obtain ⟨q, hq⟩ := g3
  have gc : g = 1 ∨ g = 2 ∨ g = 3 ∨ g = 4 := by omega
  have hpb : -8000 ≤ p ∧ p ≤ 8000 := by rcases gc with e | e | e | e <;> rw [e] at hp <;> omega
  have hqb : -8000 ≤ q ∧ q ≤ 8000 := by rcases gc with e | e | e | e <;> rw [e] at hq <;> omega
  have heb : 1 ≤ e ∧ e ≤ 4 := by rcases gc with z | z | z | z <;> rw [z] at he <;> omega
  have t1 := gdiv gp hp
  have t2 := gdiv gp hq
  have t3 := gdiv gp he
  refine ⟨g, p, q, e, ⟨gp, by omega⟩, heb, hp, hq, he, hpb, hqb, fun k hk => ?_, fun k hk => ?_⟩
  · unfold impl_Motion_centre.f
    rw [w64s (x := 1 - m.f0.f3) (by omega) (by omega), w64s (x := (1 - m.f0.f3) * x) (by omega) (by omega), w64s (x := m.f0.f1 * y) (by omega) (by omega), w64s (x := m.f0.f2 * x) (by omega) (by omega), w64s (x := 1 - m.f0.f0) (by omega) (by omega), w64s (x := (1 - m.f0.f0) * y) (by omega) (by omega), ← e1, ← e2, w64s (x := vx) (by omega) (by omega), w64s (x := vy) (by omega) (by omega), w64s (x := 2 - m.f0.f0) (by omega) (by omega), ← e3, w64s (x := dd) (by omega) (by omega), hi1 k hk, Option.bind_some, hi2 k hk, Option.bind_some, if_neg (by omega), t1, t2, t3, w64s (x := p) (by omega) (by omega), w64s (x := q) (by omega) (by omega), w64s (x := e) (by omega) (by omega)]
  · unfold spec_l05Centre.f
    rw [w64s (x := 1 - m.f0.f3) (by omega) (by omega), w64s (x := 1 - m.f0.f0) (by omega) (by omega), w64s (x := -m.f0.f1) (by omega) (by omega), w64s (x := -m.f0.f2) (by omega) (by omega), w64s (x := (1 - m.f0.f3) * x) (by omega) (by omega), w64s (x := -m.f0.f1 * y) (by rw [Int.neg_mul]; omega) (by rw [Int.neg_mul]; omega), w64s (x := (1 - m.f0.f0) * y) (by omega) (by omega), w64s (x := -m.f0.f2 * x) (by rw [Int.neg_mul]; omega) (by rw [Int.neg_mul]; omega), w64s (x := (1 - m.f0.f0) * (1 - m.f0.f3)) (by omega) (by omega), w64s (x := -m.f0.f1 * -m.f0.f2) (by omega) (by omega), eX, eY, eD, w64s (x := vx) (by omega) (by omega), w64s (x := vy) (by omega) (by omega), w64s (x := dd) (by omega) (by omega), hs1 k hk, Option.bind_some, hs2 k hk, Option.bind_some, if_neg (by omega), if_neg (by omega), t1, t2, t3, w64s (x := p) (by omega) (by omega), w64s (x := q) (by omega) (by omega), w64s (x := e) (by omega) (by omega)]
theorem red_scale {s a b c x y : Int} (hs : 1 ≤ s) : red (s * a) (s * b) (s * c) (s * x) (s * y) = (s * (red a b c x y).1, s * (red a b c x y).2) := by
  unfold red
  rw [Int.mul_ediv_mul_of_pos _ _ (by omega), Int.mul_emod_mul_of_pos _ _ (by omega), show s * x - y / c * (s * b) = s * (x - y / c * b) by rw [Int.mul_sub, Int.mul_left_comm], Int.mul_emod_mul_of_pos _ _ (by omega)]
theorem inL_scale {s a b c x y : Int} (h : inL a b c x y) : inL (s * a) (s * b) (s * c) (s * x) (s * y) := by
  obtain ⟨q, h1, h2⟩ := h
  refine ⟨q, by rw [h1, Int.mul_left_comm], ?_⟩
  rw [Int.mul_left_comm q s b, ← Int.mul_sub]
  exact Int.mul_dvd_mul_left s h2
/-- The class of a centre, by the denominator, of a motion that is shifted by k1 times the first and k2 times the second vector of the basis. -/
def keyV (a b c : Int) (m : S44) (k1 k2 : Int) : S42 :=
  ⟨(red (dnm m * a) (dnm m * b) (dnm m * c) (cvx m (m.f1.f0 + k1 * a + k2 * b) (m.f1.f1 + k2 * c)) (cvy m (m.f1.f0 + k1 * a + k2 * b) (m.f1.f1 + k2 * c))).1,
   (red (dnm m * a) (dnm m * b) (dnm m * c) (cvx m (m.f1.f0 + k1 * a + k2 * b) (m.f1.f1 + k2 * c)) (cvy m (m.f1.f0 + k1 * a + k2 * b) (m.f1.f1 + k2 * c))).2⟩
theorem keyV_mod {fr a b c : Int} (h : FL fr a b c) {m : S44} (r : Rot fr a b c m) (k1 k2 t1 t2 : Int) : keyV a b c m (k1 + dnm m * t1) (k2 + dnm m * t2) = keyV a b c m k1 k2 := by
  have ha := h.2.1
  have hc := h.2.2.2.1
  have hd := r.dlo
  have hK := r.good.1.2
  have u1 := (red_inL hc ha).1 hK.1
  have u2 := (red_inL hc ha).1 hK.2
  dsimp only at u1 u2
  -- what the basis' vectors bring
  have w1 : inL a b c ((1 - m.f0.f3) * a) (m.f0.f2 * a) := by
    have := inL_add (inL_mul (1 - m.f0.f0 - m.f0.f3) (⟨0, by simp, by simp⟩ : inL a b c a 0)) u1
    have e1 : (1 - m.f0.f0 - m.f0.f3) * a + m.f0.f0 * a = (1 - m.f0.f3) * a := by rw [← Int.add_mul]; congr 1; omega
    rw [e1, Int.mul_zero, Int.zero_add] at this; exact this
  have w2 : inL a b c ((1 - m.f0.f3) * b + m.f0.f1 * c) (m.f0.f2 * b + (1 - m.f0.f0) * c) := by
    have := inL_add (inL_mul (1 - m.f0.f0 - m.f0.f3) (⟨1, by simp, by simp⟩ : inL a b c b c)) u2
    have e1 : (1 - m.f0.f0 - m.f0.f3) * b + (m.f0.f0 * b + m.f0.f1 * c) = (1 - m.f0.f3) * b + m.f0.f1 * c := by
      rw [← Int.add_assoc, ← Int.add_mul]; congr 2; omega
    have e2 : (1 - m.f0.f0 - m.f0.f3) * c + (m.f0.f2 * b + m.f0.f3 * c) = m.f0.f2 * b + (1 - m.f0.f0) * c := by
      rw [Int.add_comm (m.f0.f2 * b), ← Int.add_assoc, ← Int.add_mul, Int.add_comm]; congr 2; omega
    rw [e1, e2] at this; exact this
  have w := inL_scale (s := dnm m) (inL_add (inL_mul t1 w1) (inL_mul t2 w2))
  have hdc : 1 ≤ dnm m * c := by have := Int.mul_le_mul hd hc (by omega) (by omega : (0 : Int) ≤ dnm m); omega
  have e : red (dnm m * a) (dnm m * b) (dnm m * c) (cvx m (m.f1.f0 + (k1 + dnm m * t1) * a + (k2 + dnm m * t2) * b) (m.f1.f1 + (k2 + dnm m * t2) * c)) (cvy m (m.f1.f0 + (k1 + dnm m * t1) * a + (k2 + dnm m * t2) * b) (m.f1.f1 + (k2 + dnm m * t2) * c)) = red (dnm m * a) (dnm m * b) (dnm m * c) (cvx m (m.f1.f0 + k1 * a + k2 * b) (m.f1.f1 + k2 * c)) (cvy m (m.f1.f0 + k1 * a + k2 * b) (m.f1.f1 + k2 * c)) := by
    refine red_cong hdc ?_
    have q1 : cvx m (m.f1.f0 + (k1 + dnm m * t1) * a + (k2 + dnm m * t2) * b) (m.f1.f1 + (k2 + dnm m * t2) * c) - cvx m (m.f1.f0 + k1 * a + k2 * b) (m.f1.f1 + k2 * c) = dnm m * (t1 * ((1 - m.f0.f3) * a) + t2 * ((1 - m.f0.f3) * b + m.f0.f1 * c)) := by
      unfold cvx
      generalize dnm m = D
      generalize 1 - m.f0.f3 = U
      generalize m.f0.f1 = V
      simp only [Int.mul_add, Int.add_mul]
      have z1 : U * (D * t1 * a) = D * (t1 * (U * a)) := by rw [Int.mul_left_comm t1, Int.mul_left_comm D, Int.mul_assoc]
      have z2 : U * (D * t2 * b) = D * (t2 * (U * b)) := by rw [Int.mul_left_comm t2, Int.mul_left_comm D, Int.mul_assoc]
      have z3 : V * (D * t2 * c) = D * (t2 * (V * c)) := by rw [Int.mul_left_comm t2, Int.mul_left_comm D, Int.mul_assoc]
      omega
    have q2 : cvy m (m.f1.f0 + (k1 + dnm m * t1) * a + (k2 + dnm m * t2) * b) (m.f1.f1 + (k2 + dnm m * t2) * c) - cvy m (m.f1.f0 + k1 * a + k2 * b) (m.f1.f1 + k2 * c) = dnm m * (t1 * (m.f0.f2 * a) + t2 * (m.f0.f2 * b + (1 - m.f0.f0) * c)) := by
      unfold cvy
      generalize dnm m = D
      generalize 1 - m.f0.f0 = U
      generalize m.f0.f2 = V
      simp only [Int.mul_add, Int.add_mul]
      have z1 : V * (D * t1 * a) = D * (t1 * (V * a)) := by rw [Int.mul_left_comm t1, Int.mul_left_comm D, Int.mul_assoc]
      have z2 : V * (D * t2 * b) = D * (t2 * (V * b)) := by rw [Int.mul_left_comm t2, Int.mul_left_comm D, Int.mul_assoc]
      have z3 : U * (D * t2 * c) = D * (t2 * (U * c)) := by rw [Int.mul_left_comm t2, Int.mul_left_comm D, Int.mul_assoc]
      omega
    rw [q1, q2]; exact w
  unfold keyV
  rw [e]
theorem keyV_at {fr a b c : Int} (h : FL fr a b c) {m : S44} (r : Rot fr a b c m) (k1 k2 : Int) : keyV a b c m (k1 % dnm m) (k2 % dnm m) = keyV a b c m k1 k2 := by
  have := keyV_mod h r (k1 % dnm m) (k2 % dnm m) (k1 / dnm m) (k2 / dnm m)
  rw [Int.emod_add_mul_ediv, Int.emod_add_mul_ediv] at this
  exact this.symm
theorem keyV_wf {fr a b c : Int} (h : FL fr a b c) {m : S44} (r : Rot fr a b c m) (k1 k2 : Int) : (0 ≤ (keyV a b c m k1 k2).f0 ∧ (keyV a b c m k1 k2).f0 ≤ 1000) ∧ (0 ≤ (keyV a b c m k1 k2).f1 ∧ (keyV a b c m k1 k2).f1 ≤ 1000) ∧ mapVe.wf (keyV a b c m k1 k2) = true := by
  obtain ⟨l1, l2, l3, l4, l5, l6, _⟩ := id h.2
  have d1 := r.dlo
  have d2 := r.dhi
  have key : ∀ x y : Int, (0 ≤ (red (dnm m * a) (dnm m * b) (dnm m * c) x y).1 ∧ (red (dnm m * a) (dnm m * b) (dnm m * c) x y).1 < dnm m * a) ∧ (0 ≤ (red (dnm m * a) (dnm m * b) (dnm m * c) x y).2 ∧ (red (dnm m * a) (dnm m * b) (dnm m * c) x y).2 < dnm m * c) := fun x y => by
    have dc : dnm m = 1 ∨ dnm m = 2 ∨ dnm m = 3 ∨ dnm m = 4 := by omega
    unfold red
    refine ⟨⟨Int.emod_nonneg _ ?_, Int.emod_lt_of_pos _ ?_⟩, Int.emod_nonneg _ ?_, Int.emod_lt_of_pos _ ?_⟩ <;> rcases dc with e | e | e | e <;> rw [e] <;> omega
  have dc : dnm m = 1 ∨ dnm m = 2 ∨ dnm m = 3 ∨ dnm m = 4 := by omega
  have ba : dnm m * a ≤ 256 := by rcases dc with e | e | e | e <;> rw [e] <;> omega
  have bc : dnm m * c ≤ 256 := by rcases dc with e | e | e | e <;> rw [e] <;> omega
  obtain ⟨⟨k1', k2'⟩, k3', k4'⟩ := key (cvx m (m.f1.f0 + k1 * a + k2 * b) (m.f1.f1 + k2 * c)) (cvy m (m.f1.f0 + k1 * a + k2 * b) (m.f1.f1 + k2 * c))
  unfold keyV
  dsimp only
  refine ⟨⟨by omega, by omega⟩, ⟨by omega, by omega⟩, ?_⟩
  simp only [mapVe.wf, mapVe.lits, List.all_cons, List.all_nil, Bool.and_true, Bool.and_eq_true]
  constructor <;> simp [Lit.wf, IntKind.min, IntKind.max, IntKind.bits, IntKind.signed] <;> omega
/-- One class on the reference's side. -/
theorem class_spec {fr a b c : Int} (h : FL fr a b c) {m : S44} (r : Rot fr a b c m) {s : Int} (hs : 12 = s * dnm m) (hs1 : 1 ≤ s) (hs2 : s ≤ 12) {k1 k2 : Int} (b1 : 0 ≤ k1 ∧ k1 < 12) (b2 : 0 ≤ k2 ∧ k2 < 12) (k : Nat) (hk : 100000 ≤ k) :
    spec_l11Class.f k a b c m.f0.f0 m.f0.f1 m.f0.f2 m.f0.f3 (m.f1.f0 + k1 * a + k2 * b) (m.f1.f1 + k2 * c) = some (s * (keyV a b c m k1 k2).f0, s * (keyV a b c m k1 k2).f1) := by
  obtain ⟨l1, l2, l3, l4, l5, l6, _⟩ := id h.2
  obtain ⟨-, ⟨g5, g5'⟩, g6, g6'⟩ := r.good.small h
  have m1 : 0 ≤ k1 * a ∧ k1 * a ≤ 11 * 64 := ⟨Int.mul_nonneg b1.1 (by omega), Int.mul_le_mul (by omega) l2 (by omega) (by omega)⟩
  have m2 : 0 ≤ k2 * b ∧ k2 * b ≤ 11 * 64 := ⟨Int.mul_nonneg b2.1 l5, Int.mul_le_mul (by omega) (by omega) l5 (by omega)⟩
  have m3 : 0 ≤ k2 * c ∧ k2 * c ≤ 11 * 64 := ⟨Int.mul_nonneg b2.1 (by omega), Int.mul_le_mul (by omega) l4 (by omega) (by omega)⟩
  unfold keyV
  generalize hX : m.f1.f0 + k1 * a + k2 * b = X
  generalize hY : m.f1.f1 + k2 * c = Y
  obtain ⟨g, p, q, e, gb, eb, hp, hq, he, pb, qb, -, hsp⟩ := centre_impl h r (x := X) (y := Y) (by omega) (by omega)
  have hsg : Int.tdiv 12 e = s * g := by
    rw [hs, he, ← Int.mul_assoc]
    exact Int.mul_tdiv_cancel _ (by omega)
  have hsgb : 1 ≤ s * g ∧ s * g ≤ 48 := by
    have gc : g = 1 ∨ g = 2 ∨ g = 3 ∨ g = 4 := by omega
    rcases gc with z | z | z | z <;> rw [z] <;> omega
  have ep : s * g * p = s * cvx m X Y := by rw [hp, Int.mul_assoc]
  have eq : s * g * q = s * cvy m X Y := by rw [hq, Int.mul_assoc]
  have cb := cv_bounds h r.good (x := X) (y := Y) (by omega) (by omega)
  have cx : -8000 ≤ cvx m X Y ∧ cvx m X Y ≤ 8000 := by unfold cvx; omega
  have cy : -8000 ≤ cvy m X Y ∧ cvy m X Y ≤ 8000 := by unfold cvy; omega
  have sx : -96000 ≤ s * cvx m X Y ∧ s * cvx m X Y ≤ 96000 := by
    have sc : s = 1 ∨ s = 2 ∨ s = 3 ∨ s = 4 ∨ s = 5 ∨ s = 6 ∨ s = 7 ∨ s = 8 ∨ s = 9 ∨ s = 10 ∨ s = 11 ∨ s = 12 := by omega
    rcases sc with z | z | z | z | z | z | z | z | z | z | z | z <;> rw [z] <;> omega
  have sy : -96000 ≤ s * cvy m X Y ∧ s * cvy m X Y ≤ 96000 := by
    have sc : s = 1 ∨ s = 2 ∨ s = 3 ∨ s = 4 ∨ s = 5 ∨ s = 6 ∨ s = 7 ∨ s = 8 ∨ s = 9 ∨ s = 10 ∨ s = 11 ∨ s = 12 := by omega
    rcases sc with z | z | z | z | z | z | z | z | z | z | z | z <;> rw [z] <;> omega
  have hred := red_scale (s := s) (a := dnm m * a) (b := dnm m * b) (c := dnm m * c) (x := cvx m X Y) (y := cvy m X Y) hs1
  rw [← Int.mul_assoc, ← Int.mul_assoc, ← Int.mul_assoc, ← hs] at hred
  unfold spec_l11Class.f spec_l01Scale.f
  rw [hsp k hk, Option.bind_some]
  dsimp only
  rw [if_neg (by omega), hsg, w64s (x := s * g) (by omega) (by omega), Option.bind_some]
  dsimp only
  rw [ep, eq]
  generalize s * cvx m X Y = VX at *
  generalize s * cvy m X Y = VY at *
  rw [w64s (x := VX) (by omega) (by omega), w64s (x := VY) (by omega) (by omega), w64s (x := 12 * c) (by omega) (by omega), w64s (x := 12 * a) (by omega) (by omega), spec_mod_eq VY (by omega) (by omega), Option.bind_some, if_neg (by omega)]
  have y1 : 0 ≤ VY % (12 * c) := Int.emod_nonneg _ (by omega)
  have y2 : VY % (12 * c) < 12 * c := Int.emod_lt_of_pos _ (by omega)
  have hdv : Int.tdiv (VY - VY % (12 * c)) (12 * c) = VY / (12 * c) := by
    have : VY - VY % (12 * c) = 12 * c * (VY / (12 * c)) := by
      have := Int.emod_add_mul_ediv VY (12 * c)
      omega
    rw [this]; exact Int.mul_tdiv_cancel_left _ (by omega)
  have qb : -96000 ≤ VY / (12 * c) ∧ VY / (12 * c) ≤ 96000 := by
    have := Int.emod_add_mul_ediv VY (12 * c)
    constructor
    · exact Int.le_ediv_of_mul_le (by omega) (by have : -96000 * (12 * c) ≤ -96000 := (by omega); omega)
    · have := Int.ediv_le_self (a := 96000) (12 * c) (by omega)
      have := Int.ediv_le_ediv (c := 12 * c) (by omega) sy.2
      omega
  have kb : -6144000 ≤ VY / (12 * c) * b ∧ VY / (12 * c) * b ≤ 6144000 := by
    have : (VY / (12 * c) * b).natAbs ≤ 96000 * 64 := by rw [Int.natAbs_mul]; exact Nat.mul_le_mul (by omega) (by omega)
    omega
  rw [w64s (x := VY - VY % (12 * c)) (by omega) (by omega), hdv, w64s (x := VY / (12 * c)) (by omega) (by omega), w64s (x := 12 * (VY / (12 * c))) (by omega) (by omega), Int.mul_assoc 12, w64s (x := 12 * (VY / (12 * c) * b)) (by omega) (by omega), w64s (by omega) (by omega), spec_mod_eq _ (by omega) (by omega), Option.bind_some]
  have hr1 := congrArg Prod.fst hred
  have hr2 := congrArg Prod.snd hred
  dsimp only at hr1 hr2
  rw [← hr1, ← hr2]
  unfold red
  dsimp only
  rw [Int.mul_left_comm (VY / (12 * c)) 12 b]
/-- The class on the program's side, step by step. -/
theorem class_impl {fr a b c : Int} (h : FL fr a b c) {m : S44} (r : Rot fr a b c m) {k1 k2 : Int} (b1 : 0 ≤ k1 ∧ k1 < 12) (b2 : 0 ≤ k2 ∧ k2 < 12) (k : Nat) (hk : 100000 ≤ k) {α : Type} (F : Int × Int → Option α) :
    ((impl_Motion_centre.f k m.f0.f0 m.f0.f1 m.f0.f2 m.f0.f3 (m.f1.f0 + k1 * a + k2 * b) (m.f1.f1 + k2 * c)).bind fun bt => if bt.2.2 = 0 then none else (impl_Vec_times.f bt.1 bt.2.1 (wrap64 (Int.tdiv (dnm m) bt.2.2))).bind fun bs => (impl_Lattice_reduce.f (dnm m * a) (dnm m * b) (dnm m * c) bs.1 bs.2).bind F) = F ((keyV a b c m k1 k2).f0, (keyV a b c m k1 k2).f1) := by
  obtain ⟨l1, l2, l3, l4, l5, l6, _⟩ := id h.2
  obtain ⟨-, ⟨g5, g5'⟩, g6, g6'⟩ := r.good.small h
  have d1 := r.dlo
  have d2 := r.dhi
  have m1 : 0 ≤ k1 * a ∧ k1 * a ≤ 11 * 64 := ⟨Int.mul_nonneg b1.1 (by omega), Int.mul_le_mul (by omega) l2 (by omega) (by omega)⟩
  have m2 : 0 ≤ k2 * b ∧ k2 * b ≤ 11 * 64 := ⟨Int.mul_nonneg b2.1 l5, Int.mul_le_mul (by omega) (by omega) l5 (by omega)⟩
  have m3 : 0 ≤ k2 * c ∧ k2 * c ≤ 11 * 64 := ⟨Int.mul_nonneg b2.1 (by omega), Int.mul_le_mul (by omega) l4 (by omega) (by omega)⟩
  unfold keyV
  generalize hX : m.f1.f0 + k1 * a + k2 * b = X
  generalize hY : m.f1.f1 + k2 * c = Y
  obtain ⟨g, p, q, e, gb, eb, hp, hq, he, pb, qb, him, -⟩ := centre_impl h r (x := X) (y := Y) (by omega) (by omega)
  have cb := cv_bounds h r.good (x := X) (y := Y) (by omega) (by omega)
  have cx : -8000 ≤ cvx m X Y ∧ cvx m X Y ≤ 8000 := by unfold cvx; omega
  have cy : -8000 ≤ cvy m X Y ∧ cvy m X Y ≤ 8000 := by unfold cvy; omega
  have hg : Int.tdiv (dnm m) e = g := by rw [he]; exact Int.mul_tdiv_cancel _ (by omega)
  have dc : dnm m = 1 ∨ dnm m = 2 ∨ dnm m = 3 ∨ dnm m = 4 := by omega
  have hm4 : Mod4 (dnm m * a) (dnm m * b) (dnm m * c) (cvx m X Y) (cvy m X Y) := by
    unfold Mod4
    rcases dc with z | z | z | z <;> rw [z] <;> omega
  rw [him k hk, Option.bind_some]
  dsimp only
  rw [if_neg (by omega), hg, w64s (x := g) (by omega) (by omega)]
  unfold impl_Vec_times.f
  rw [Option.bind_some]
  dsimp only
  rw [← hp, ← hq, w64s (x := cvx m X Y) (by omega) (by omega), w64s (x := cvy m X Y) (by omega) (by omega), impl_reduce_eq hm4, Option.bind_some]
theorem inner_impl {fr a b c n : Int} (h : FL fr a b c) {m : S44} (r : Rot fr a b c m) (xs : List S44) (j : Nat) {Q : Int × Int → Prop} (d : Nat) : ∀ (i : Int) (x : List S42), 0 ≤ i → i ≤ dnm m * dnm m → dnm m * dnm m - i = d → x.length + d ≤ 100000 → (∀ v ∈ x, mapVe.wf v = true) →
    (∀ x' : List S42, (∀ v, v ∈ x' ↔ v ∈ x ∨ ∃ i', i ≤ i' ∧ i' < dnm m * dnm m ∧ v = keyV a b c m (i' / dnm m) (i' % dnm m)) → x'.length ≤ x.length + d → (∀ v ∈ x', mapVe.wf v = true) → ∃ r, Ev (fun k => impl_CountCentres.l0 k n x' xs (xs.length : Int) (wrap64 ((j : Int) + 1)) a b c a 0 b c) r ∧ Q r) →
    ∃ r, Ev (fun k => impl_CountCentres.l1 k n x (dnm m) xs (xs.length : Int) j (dnm m * dnm m) i a b c a 0 b c m.f0.f0 m.f0.f1 m.f0.f2 m.f0.f3 m.f1.f0 m.f1.f1 (dnm m * a) (dnm m * b) (dnm m * c)) r ∧ Q r := by
  obtain ⟨l1, l2, l3, l4, l5, l6, _⟩ := id h.2
  obtain ⟨-, ⟨g5, g5'⟩, g6, g6'⟩ := r.good.small h
  have d1 := r.dlo
  have d2 := r.dhi
  have dc : dnm m = 1 ∨ dnm m = 2 ∨ dnm m = 3 ∨ dnm m = 4 := by omega
  have dd : 1 ≤ dnm m * dnm m ∧ dnm m * dnm m ≤ 16 := by rcases dc with z | z | z | z <;> rw [z] <;> omega
  induction d with
  | zero =>
    intro i x h0 h1 hd hx hw cont
    obtain ⟨r, r1, r2⟩ := cont x (fun v => ⟨Or.inl, fun g => g.elim id fun ⟨i', g1, g2, _⟩ => by omega⟩) (by omega) hw
    refine ⟨r, Ev.step (fun k => ?_) r1, r2⟩
    simp only [impl_CountCentres.l1]; rw [if_neg (by omega)]
  | succ d ih =>
    intro i x h0 h1 hd hx hw cont
    have hwi : wrap64 (i + 1) = i + 1 := w64s (by omega) (by omega)
    have k1b : 0 ≤ i / dnm m ∧ i / dnm m < 12 := by rcases dc with z | z | z | z <;> rw [z] at dd hd ⊢ <;> omega
    have k2b : 0 ≤ i % dnm m ∧ i % dnm m < 12 := ⟨Int.emod_nonneg _ (by omega), by have := Int.emod_lt_of_pos i (show 0 < dnm m by omega); omega⟩
    have et1 : Int.tdiv i (dnm m) = i / dnm m := Int.tdiv_eq_ediv_of_nonneg h0
    have et2 : Int.tmod i (dnm m) = i % dnm m := Int.tmod_eq_emod_of_nonneg h0
    have m1 : 0 ≤ i / dnm m * a ∧ i / dnm m * a ≤ 11 * 64 := ⟨Int.mul_nonneg k1b.1 (by omega), Int.mul_le_mul (by omega) l2 (by omega) (by omega)⟩
    have m2 : 0 ≤ i % dnm m * b ∧ i % dnm m * b ≤ 11 * 64 := ⟨Int.mul_nonneg k2b.1 l5, Int.mul_le_mul (by omega) (by omega) l5 (by omega)⟩
    have m3 : 0 ≤ i % dnm m * c ∧ i % dnm m * c ≤ 11 * 64 := ⟨Int.mul_nonneg k2b.1 (by omega), Int.mul_le_mul (by omega) l4 (by omega) (by omega)⟩
    obtain ⟨w1, w2, w3⟩ := keyV_wf h r (i / dnm m) (i % dnm m)
    obtain ⟨res, r1, r2⟩ := ih (i + 1) (x ++ [keyV a b c m (i / dnm m) (i % dnm m)]) (by omega) (by omega) (by omega) (by simp; omega) (fun v hv => by
      rcases List.mem_append.1 hv with hv | hv
      · exact hw v hv
      · rw [List.mem_singleton.1 hv]; exact w3) (fun x' g1 g2 g3 => cont x' (fun v => by
        rw [g1, List.mem_append, List.mem_singleton, or_assoc]
        refine or_congr Iff.rfl ⟨fun g => ?_, fun ⟨i', q1, q2, q3⟩ => ?_⟩
        · rcases g with g | ⟨i', q1, q2, q3⟩
          · exact ⟨i, by omega, by omega, g⟩
          · exact ⟨i', by omega, q2, q3⟩
        · by_cases e : i' = i
          · subst e; exact Or.inl q3
          · exact Or.inr ⟨i', by omega, q2, q3⟩) (by simp at g2; omega) g3)
    refine ⟨res, Ev.from' 100000 (fun k hk => ?_) r1, r2⟩
    have hci := class_impl h r k1b k2b k hk (F := fun bt578 => if (x.length < 2932031007402 ∧ mapVe.wf (⟨bt578.1, bt578.2⟩ : S42) = true) then (impl_CountCentres.l1 k n (x ++ [(⟨bt578.1, bt578.2⟩ : S42)]) (dnm m) xs (xs.length : Int) j (dnm m * dnm m) (wrap64 (i + 1)) a b c a 0 b c m.f0.f0 m.f0.f1 m.f0.f2 m.f0.f3 m.f1.f0 m.f1.f1 (dnm m * a) (dnm m * b) (dnm m * c)) else none)
    simp only [impl_CountCentres.l1]
    rw [if_pos (by omega), if_neg (by omega), et1, et2, w64s (x := i / dnm m) (by omega) (by omega)]
    simp only [show ∀ x y z : Int, impl_Vec_times.f x y z = some (wrap64 (z * x), wrap64 (z * y)) from fun _ _ _ => rfl, show ∀ x y z w : Int, impl_Vec_add.f x y z w = some (wrap64 (x + z), wrap64 (y + w)) from fun _ _ _ _ => rfl, Option.bind_some]
    rw [Int.mul_zero, w64s (x := (0 : Int)) (by omega) (by omega), Int.add_zero, w64s (x := i / dnm m * a) (by omega) (by omega), w64s (x := i % dnm m * b) (by omega) (by omega), w64s (x := i % dnm m * c) (by omega) (by omega), w64s (x := m.f1.f0 + i / dnm m * a) (by omega) (by omega), w64s (x := m.f1.f1) (by omega) (by omega), w64s (x := m.f1.f0 + i / dnm m * a + i % dnm m * b) (by omega) (by omega), w64s (x := m.f1.f1 + i % dnm m * c) (by omega) (by omega)]
    refine Eq.trans (Eq.trans ?_ hci) ?_
    · rfl
    · dsimp only
      rw [if_pos ⟨by omega, w3⟩, hwi]
theorem inner_spec {fr a b c n : Int} (h : FL fr a b c) (xs : List S44) (j : Nat) (hj : j < xs.length) (r : Rot fr a b c xs[j]) {s : Int} (hs : 12 = s * dnm xs[j]) (hs1 : 1 ≤ s) (hs2 : s ≤ 12) {Q : List S42 → Prop} (d : Nat) : ∀ (i : Int) (x : List S42), 0 ≤ i → i ≤ 144 → 144 - i = d → x.length + d ≤ 1000000 → x.Pairwise ltV →
    (∀ x' : List S42, x'.Pairwise ltV → (∀ v, v ∈ x' ↔ v ∈ x ∨ ∃ i', i ≤ i' ∧ i' < 144 ∧ v = ⟨s * (keyV a b c xs[j] (i' % 12) (i' / 12)).f0, s * (keyV a b c xs[j] (i' % 12) (i' / 12)).f1⟩) → x'.length ≤ x.length + d → ∃ r, Ev (fun k => spec_l11Centres.l0 k xs n x' [(⟨a, 0⟩ : S42), ⟨b, c⟩] (wrap64 ((j : Int) + 1)) a b c) r ∧ Q r) →
    ∃ r, Ev (fun k => spec_l11Centres.l1 k xs n x [(⟨a, 0⟩ : S42), ⟨b, c⟩] j i a b c) r ∧ Q r := by
  obtain ⟨l1, l2, l3, l4, l5, l6, _⟩ := id h.2
  obtain ⟨-, ⟨g5, g5'⟩, g6, g6'⟩ := r.good.small h
  induction d with
  | zero =>
    intro i x h0 h1 hd hx hp cont
    obtain ⟨r, r1, r2⟩ := cont x hp (fun v => ⟨Or.inl, fun g => g.elim id fun ⟨i', g1, g2, _⟩ => by omega⟩) (by omega)
    refine ⟨r, Ev.step (fun k => ?_) r1, r2⟩
    simp only [spec_l11Centres.l1]; rw [if_neg (by omega)]
  | succ d ih =>
    intro i x h0 h1 hd hx hp cont
    have hwi : wrap64 (i + 1) = i + 1 := w64s (by omega) (by omega)
    have k1b : 0 ≤ i % 12 ∧ i % 12 < 12 := by omega
    have k2b : 0 ≤ i / 12 ∧ i / 12 < 12 := by omega
    have et1 : Int.tdiv i 12 = i / 12 := Int.tdiv_eq_ediv_of_nonneg h0
    have et2 : Int.tmod i 12 = i % 12 := Int.tmod_eq_emod_of_nonneg h0
    have m1 : 0 ≤ i % 12 * a ∧ i % 12 * a ≤ 11 * 64 := ⟨Int.mul_nonneg k1b.1 (by omega), Int.mul_le_mul (by omega) l2 (by omega) (by omega)⟩
    have m2 : 0 ≤ i / 12 * b ∧ i / 12 * b ≤ 11 * 64 := ⟨Int.mul_nonneg k2b.1 l5, Int.mul_le_mul (by omega) (by omega) l5 (by omega)⟩
    have m3 : 0 ≤ i / 12 * c ∧ i / 12 * c ≤ 11 * 64 := ⟨Int.mul_nonneg k2b.1 (by omega), Int.mul_le_mul (by omega) l4 (by omega) (by omega)⟩
    obtain ⟨n1, n2, n3, n4⟩ := insV x (by omega) hp (⟨s * (keyV a b c xs[j] (i % 12) (i / 12)).f0, s * (keyV a b c xs[j] (i % 12) (i / 12)).f1⟩ : S42)
    obtain ⟨res, r1, r2⟩ := ih (i + 1) _ (by omega) (by omega) (by omega) (by omega) n2 (fun x' g0 g1 g2 => cont x' g0 (fun v => by
        rw [g1, n3]
        constructor
        · rintro ((g | g) | ⟨i', q1, q2, q3⟩)
          · exact Or.inr ⟨i, by omega, by omega, g⟩
          · exact Or.inl g
          · exact Or.inr ⟨i', by omega, q2, q3⟩
        · rintro (g | ⟨i', q1, q2, q3⟩)
          · exact Or.inl (Or.inr g)
          · by_cases e : i' = i
            · subst e; exact Or.inl (Or.inl q3)
            · exact Or.inr ⟨i', by omega, q2, q3⟩) (by omega))
    refine ⟨res, Ev.from' 100000 (fun k hk => ?_) r1, r2⟩
    have hcs := class_spec h r hs hs1 hs2 k1b k2b k hk
    simp only [spec_l11Centres.l1]
    rw [if_pos (by omega), if_pos (by simp), et1, et2, show rd_T42 [(⟨a, 0⟩ : S42), ⟨b, c⟩] 0 = ⟨a, 0⟩ from rfl, show rd_T42 [(⟨a, 0⟩ : S42), ⟨b, c⟩] 1 = ⟨b, c⟩ from rfl, w64s (x := i / 12) (by omega) (by omega)]
    simp only [show ∀ x y z : Int, spec_l01Scale.f x y z = some (wrap64 (z * x), wrap64 (z * y)) from fun _ _ _ => rfl, show ∀ x y z w : Int, spec_l01Add.f x y z w = some (wrap64 (x + z), wrap64 (y + w)) from fun _ _ _ _ => rfl, Option.bind_some]
    rw [if_pos (by simp), if_pos (by omega), if_pos (by omega), rd_mo _ _ hj, Int.mul_zero, w64s (x := (0 : Int)) (by omega) (by omega), Int.zero_add, w64s (x := i % 12 * a) (by omega) (by omega), w64s (x := i / 12 * b) (by omega) (by omega), w64s (x := i / 12 * c) (by omega) (by omega), w64s (x := i / 12 * c) (by omega) (by omega), w64s (x := i % 12 * a + i / 12 * b) (by omega) (by omega), ← Int.add_assoc, w64s (x := xs[j].f1.f0 + i % 12 * a + i / 12 * b) (by omega) (by omega), w64s (x := xs[j].f1.f1 + i / 12 * c) (by omega) (by omega), hcs, Option.bind_some]
    dsimp only
    rw [if_pos ⟨by omega, n1⟩, hwi]
def dOf (n : Int) : Int := if n = 2 then 4 else if n = 3 then 3 else if n = 4 then 2 else 1
theorem rot_tab0 : ∀ m ∈ pmL 0, (m.1 * m.2.2.2 - m.2.1 * m.2.2.1 = 1 ∨ m.1 * m.2.2.2 - m.2.1 * m.2.2.1 = -1) ∧ (m.1 * m.2.2.2 - m.2.1 * m.2.2.1 = 1 → ∀ n ∈ [2, 3, 4, 6], ordM m = n → 2 - m.1 - m.2.2.2 = dOf n) := by decide +kernel
theorem rot_tab1 : ∀ m ∈ pmL 1, (m.1 * m.2.2.2 - m.2.1 * m.2.2.1 = 1 ∨ m.1 * m.2.2.2 - m.2.1 * m.2.2.1 = -1) ∧ (m.1 * m.2.2.2 - m.2.1 * m.2.2.1 = 1 → ∀ n ∈ [2, 3, 4, 6], ordM m = n → 2 - m.1 - m.2.2.2 = dOf n) := by decide +kernel
theorem rot_tab {fr a b c : Int} (h : FL fr a b c) {m : S44} (g : Good fr a b c m) : (m.f0.f0 * m.f0.f3 - m.f0.f1 * m.f0.f2 = 1 ∨ m.f0.f0 * m.f0.f3 - m.f0.f1 * m.f0.f2 = -1) ∧ (m.f0.f0 * m.f0.f3 - m.f0.f1 * m.f0.f2 = 1 → ∀ n ∈ [2, 3, 4, 6], ordM (m.f0.f0, m.f0.f1, m.f0.f2, m.f0.f3) = n → dnm m = dOf n ∧ Rot fr a b c m) := by
  have key : (m.f0.f0 * m.f0.f3 - m.f0.f1 * m.f0.f2 = 1 ∨ m.f0.f0 * m.f0.f3 - m.f0.f1 * m.f0.f2 = -1) ∧ (m.f0.f0 * m.f0.f3 - m.f0.f1 * m.f0.f2 = 1 → ∀ n ∈ [2, 3, 4, 6], ordM (m.f0.f0, m.f0.f1, m.f0.f2, m.f0.f3) = n → 2 - m.f0.f0 - m.f0.f3 = dOf n) := by
    rcases fr01 h.1 with hf | hf
    · exact rot_tab0 _ (hf ▸ g.1.1)
    · exact rot_tab1 _ (hf ▸ g.1.1)
  refine ⟨key.1, fun hd n hn ho => ?_⟩
  have e := key.2 hd n hn ho
  have b : 1 ≤ dOf n ∧ dOf n ≤ 4 := by
    unfold dOf
    split
    · omega
    · split
      · omega
      · split <;> omega
  exact ⟨e, g, hd, by unfold dnm; omega, by unfold dnm; omega⟩
/-- A rotation of the order that is asked. -/
def IsR (n : Int) (m : S44) : Prop := m.f0.f0 * m.f0.f3 - m.f0.f1 * m.f0.f2 = 1 ∧ ordM (m.f0.f0, m.f0.f1, m.f0.f2, m.f0.f3) = n
theorem full_impl {fr a b c : Int} (h : FL fr a b c) {m : S44} (r : Rot fr a b c m) (v : S42) : (∃ i', 0 ≤ i' ∧ i' < dnm m * dnm m ∧ v = keyV a b c m (i' / dnm m) (i' % dnm m)) ↔ ∃ k1 k2, v = keyV a b c m k1 k2 := by
  have d1 := r.dlo
  have d2 := r.dhi
  refine ⟨fun ⟨i', _, _, e⟩ => ⟨_, _, e⟩, fun ⟨k1, k2, e⟩ => ?_⟩
  have p1 := Int.emod_nonneg k1 (show dnm m ≠ 0 by omega)
  have p2 := Int.emod_lt_of_pos k1 (show 0 < dnm m by omega)
  have p3 := Int.emod_nonneg k2 (show dnm m ≠ 0 by omega)
  have p4 := Int.emod_lt_of_pos k2 (show 0 < dnm m by omega)
  have hk := keyV_at h r k1 k2
  generalize k1 % dnm m = a1 at *
  generalize k2 % dnm m = a2 at *
  have dc : dnm m = 1 ∨ dnm m = 2 ∨ dnm m = 3 ∨ dnm m = 4 := by omega
  have q1 : (a1 * dnm m + a2) / dnm m = a1 := by rcases dc with z | z | z | z <;> rw [z] at p2 p4 ⊢ <;> omega
  have q2 : (a1 * dnm m + a2) % dnm m = a2 := by rcases dc with z | z | z | z <;> rw [z] at p2 p4 ⊢ <;> omega
  refine ⟨a1 * dnm m + a2, ?_, ?_, by rw [q1, q2, hk]; exact e⟩
  · rcases dc with z | z | z | z <;> rw [z] <;> omega
  · rcases dc with z | z | z | z <;> rw [z] at p2 p4 ⊢ <;> omega
theorem full_spec {fr a b c s : Int} (h : FL fr a b c) {m : S44} (r : Rot fr a b c m) (v : S42) : (∃ i', 0 ≤ i' ∧ i' < 144 ∧ v = ⟨s * (keyV a b c m (i' % 12) (i' / 12)).f0, s * (keyV a b c m (i' % 12) (i' / 12)).f1⟩) ↔ ∃ k1 k2, v = ⟨s * (keyV a b c m k1 k2).f0, s * (keyV a b c m k1 k2).f1⟩ := by
  have d1 := r.dlo
  have d2 := r.dhi
  refine ⟨fun ⟨i', _, _, e⟩ => ⟨_, _, e⟩, fun ⟨k1, k2, e⟩ => ?_⟩
  have p1 := Int.emod_nonneg k1 (show dnm m ≠ 0 by omega)
  have p2 := Int.emod_lt_of_pos k1 (show 0 < dnm m by omega)
  have p3 := Int.emod_nonneg k2 (show dnm m ≠ 0 by omega)
  have p4 := Int.emod_lt_of_pos k2 (show 0 < dnm m by omega)
  have hk := keyV_at h r k1 k2
  generalize k1 % dnm m = a1 at *
  generalize k2 % dnm m = a2 at *
  have q1 : (a2 * 12 + a1) % 12 = a1 := by omega
  have q2 : (a2 * 12 + a1) / 12 = a2 := by omega
  exact ⟨a2 * 12 + a1, by omega, by omega, by rw [q1, q2, hk]; exact e⟩
theorem outer_impl {fr a b c n : Int} (h : FL fr a b c) (hn : n ∈ [(2 : Int), 3, 4, 6]) (xs : List S44) (hl : xs.length ≤ 768) (hg : ∀ j (hj : j < xs.length), Good fr a b c xs[j]) (d : Nat) : ∀ (j : Nat) (x : List S42), j ≤ xs.length → xs.length - j = d → x.length ≤ 16 * j → (∀ v ∈ x, mapVe.wf v = true) → (∀ v, v ∈ x ↔ ∃ i, ∃ hi : i < xs.length, i < j ∧ IsR n xs[i] ∧ ∃ k1 k2, v = keyV a b c xs[i] k1 k2) →
    ∃ r, Ev (fun k => impl_CountCentres.l0 k n x xs (xs.length : Int) j a b c a 0 b c) r ∧ ∃ X : List S42, (∀ v ∈ X, mapVe.wf v = true) ∧ (∀ v, v ∈ X ↔ ∃ i, ∃ hi : i < xs.length, IsR n xs[i] ∧ ∃ k1 k2, v = keyV a b c xs[i] k1 k2) ∧ r = (mapVe.card X, 0) := by
  induction d with
  | zero =>
    intro j x hj hd hx hw hm
    refine ⟨(mapVe.card x, 0), Ev.one (fun k => ?_), x, hw, fun v => ?_, rfl⟩
    · simp only [impl_CountCentres.l0]; rw [if_neg (by omega)]
    · rw [hm]
      exact ⟨fun ⟨i, hi, _, q⟩ => ⟨i, hi, q⟩, fun ⟨i, hi, q⟩ => ⟨i, hi, by omega, q⟩⟩
  | succ d ih =>
    intro j x hj hd hx hw hm
    have h1 : j < xs.length := by omega
    have hwj : wrap64 ((j : Int) + 1) = ((j + 1 : Nat) : Int) := by rw [w64s (by omega) (by omega)]; omega
    obtain ⟨-, d2⟩ := det_both h (hg j h1)
    obtain ⟨t1, t2⟩ := rot_tab h (hg j h1)
    have ho := fun k hk => (pm_ord h.1 (hg j h1).1.1 k hk).2
    have skip : ¬ IsR n xs[j] → ∃ r, Ev (fun k => impl_CountCentres.j2 k n x xs (xs.length : Int) j true a b c a 0 b c xs[j].f0.f0 xs[j].f0.f1 xs[j].f0.f2 xs[j].f0.f3 xs[j].f1.f0 xs[j].f1.f1) r ∧ ∃ X : List S42, (∀ v ∈ X, mapVe.wf v = true) ∧ (∀ v, v ∈ X ↔ ∃ i, ∃ hi : i < xs.length, IsR n xs[i] ∧ ∃ k1 k2, v = keyV a b c xs[i] k1 k2) ∧ r = (mapVe.card X, 0) := fun hs => by
      obtain ⟨r, r1, r2⟩ := ih (j + 1) x (by omega) (by omega) (by omega) hw (fun v => by
        rw [hm]
        refine ⟨fun ⟨i, hi, q, q'⟩ => ⟨i, hi, by omega, q'⟩, fun ⟨i, hi, q, q'⟩ => ?_⟩
        by_cases e : i = j
        · subst e; exact absurd q'.1 hs
        · exact ⟨i, hi, by omega, q'⟩)
      refine ⟨r, Ev.step (fun k => ?_) r1, r2⟩
      simp only [impl_CountCentres.j2]; rw [if_pos trivial, hwj]
    by_cases c1 : xs[j].f0.f0 * xs[j].f0.f3 - xs[j].f0.f1 * xs[j].f0.f2 = -1
    · obtain ⟨r, r1, r2⟩ := skip (fun q => by have := q.1; omega)
      refine ⟨r, Ev.step (fun k => ?_) r1, r2⟩
      simp only [impl_CountCentres.l0]
      rw [if_pos (by omega), if_pos (by omega), if_pos (by omega), rd_mo _ _ h1, d2, Option.bind_some, if_pos c1]
    · have hd1 := t1.resolve_right c1
      by_cases c2 : ordM (xs[j].f0.f0, xs[j].f0.f1, xs[j].f0.f2, xs[j].f0.f3) = n
      · obtain ⟨-, rt⟩ := t2 hd1 n hn c2
        have hR : IsR n xs[j] := ⟨hd1, c2⟩
        obtain ⟨⟨a1, a2, a3, a4⟩, -⟩ := rt.good.small h
        obtain ⟨l1, l2, l3, l4, l5, l6, _⟩ := id h.2
        have dl := rt.dlo
        have dh := rt.dhi
        have dc : dnm xs[j] = 1 ∨ dnm xs[j] = 2 ∨ dnm xs[j] = 3 ∨ dnm xs[j] = 4 := by omega
        have dd : 1 ≤ dnm xs[j] * dnm xs[j] ∧ dnm xs[j] * dnm xs[j] ≤ 16 := by rcases dc with z | z | z | z <;> rw [z] <;> omega
        obtain ⟨e, he⟩ : ∃ e : Nat, dnm xs[j] * dnm xs[j] - 0 = e := ⟨(dnm xs[j] * dnm xs[j]).toNat, by omega⟩
        obtain ⟨r, r1, r2⟩ := inner_impl (n := n) h rt xs j (Q := fun r => ∃ X : List S42, (∀ v ∈ X, mapVe.wf v = true) ∧ (∀ v, v ∈ X ↔ ∃ i, ∃ hi : i < xs.length, IsR n xs[i] ∧ ∃ k1 k2, v = keyV a b c xs[i] k1 k2) ∧ r = (mapVe.card X, 0)) e 0 x (by omega) (by omega) he (by omega) hw (fun x' g1 g2 g3 => by
          rw [hwj]
          refine ih (j + 1) x' (by omega) (by omega) (by omega) g3 (fun v => ?_)
          rw [g1, full_impl h rt, hm]
          constructor
          · rintro (⟨i, hi, q, q'⟩ | q)
            · exact ⟨i, hi, by omega, q'⟩
            · exact ⟨j, h1, by omega, hR, q⟩
          · rintro ⟨i, hi, q, q', q''⟩
            by_cases e : i = j
            · subst e; exact Or.inr q''
            · exact Or.inl ⟨i, hi, by omega, q', q''⟩)
        have w0 : wrap64 (2 - xs[j].f0.f0) = 2 - xs[j].f0.f0 := w64s (by omega) (by omega)
        have w1 : wrap64 (2 - xs[j].f0.f0 - xs[j].f0.f3) = dnm xs[j] := w64s (by unfold dnm at dl dh; omega) (by unfold dnm at dl dh; omega)
        have w2 : wrap64 (dnm xs[j] * dnm xs[j]) = dnm xs[j] * dnm xs[j] := w64s (by omega) (by omega)
        have w3 : wrap64 (dnm xs[j] * a) = dnm xs[j] * a := by rcases dc with z | z | z | z <;> rw [z] <;> exact w64s (by omega) (by omega)
        have w4 : wrap64 (dnm xs[j] * b) = dnm xs[j] * b := by rcases dc with z | z | z | z <;> rw [z] <;> exact w64s (by omega) (by omega)
        have w5 : wrap64 (dnm xs[j] * c) = dnm xs[j] * c := by rcases dc with z | z | z | z <;> rw [z] <;> exact w64s (by omega) (by omega)
        obtain ⟨K, r1⟩ := r1
        refine ⟨r, ⟨K + 50, fun k hk => ?_⟩, r2⟩
        obtain ⟨k, rfl⟩ : ∃ q, k = q + 2 := ⟨k - 2, by omega⟩
        show impl_CountCentres.l0 (k + 2) n x xs (xs.length : Int) j a b c a 0 b c = some r
        simp only [impl_CountCentres.l0, impl_CountCentres.j2]
        rw [if_pos (by omega), if_pos (by omega), if_pos (by omega), rd_mo _ _ h1, d2, Option.bind_some, if_neg c1, ho (k + 1) (by omega), Option.bind_some, if_neg (by simp [c2]), w0, w1, w2, w3, w4, w5]
        exact r1 k (by omega)
      · obtain ⟨r, r1, r2⟩ := skip (fun q => c2 q.2)
        refine ⟨r, Ev.from' 50 (fun k hk => ?_) r1, r2⟩
        simp only [impl_CountCentres.l0]
        rw [if_pos (by omega), if_pos (by omega), if_pos (by omega), rd_mo _ _ h1, d2, Option.bind_some, if_neg c1, ho k (by omega), Option.bind_some, show (ordM (xs[j].f0.f0, xs[j].f0.f1, xs[j].f0.f2, xs[j].f0.f3) != n) = true from bne_iff_ne.2 c2]
theorem outer_spec {fr a b c n : Int} (h : FL fr a b c) (hn : n ∈ [(2 : Int), 3, 4, 6]) {s : Int} (hs : 12 = s * dOf n) (hs1 : 1 ≤ s) (hs2 : s ≤ 12) (xs : List S44) (hl : xs.length ≤ 768) (hg : ∀ j (hj : j < xs.length), Good fr a b c xs[j]) (d : Nat) : ∀ (j : Nat) (x : List S42), j ≤ xs.length → xs.length - j = d → x.length ≤ 144 * j → x.Pairwise ltV → (∀ v, v ∈ x ↔ ∃ i, ∃ hi : i < xs.length, i < j ∧ IsR n xs[i] ∧ ∃ k1 k2, v = ⟨s * (keyV a b c xs[i] k1 k2).f0, s * (keyV a b c xs[i] k1 k2).f1⟩) →
    ∃ r, Ev (fun k => spec_l11Centres.l0 k xs n x [(⟨a, 0⟩ : S42), ⟨b, c⟩] j a b c) r ∧ r.Pairwise ltV ∧ ∀ v, v ∈ r ↔ ∃ i, ∃ hi : i < xs.length, IsR n xs[i] ∧ ∃ k1 k2, v = ⟨s * (keyV a b c xs[i] k1 k2).f0, s * (keyV a b c xs[i] k1 k2).f1⟩ := by
  induction d with
  | zero =>
    intro j x hj hd hx hp hm
    refine ⟨x, Ev.one (fun k => ?_), hp, fun v => ?_⟩
    · simp only [spec_l11Centres.l0]; rw [if_neg (by omega)]
    · rw [hm]
      exact ⟨fun ⟨i, hi, _, q⟩ => ⟨i, hi, q⟩, fun ⟨i, hi, q⟩ => ⟨i, hi, by omega, q⟩⟩
  | succ d ih =>
    intro j x hj hd hx hp hm
    have h1 : j < xs.length := by omega
    have hwj : wrap64 ((j : Int) + 1) = ((j + 1 : Nat) : Int) := by rw [w64s (by omega) (by omega)]; omega
    obtain ⟨d2, -⟩ := det_both h (hg j h1)
    obtain ⟨t1, t2⟩ := rot_tab h (hg j h1)
    have ho := fun k hk => (pm_ord h.1 (hg j h1).1.1 k hk).1
    have skip : ¬ IsR n xs[j] → ∃ r, Ev (fun k => spec_l11Centres.j1 k xs n x [(⟨a, 0⟩ : S42), ⟨b, c⟩] j true a b c) r ∧ r.Pairwise ltV ∧ ∀ v, v ∈ r ↔ ∃ i, ∃ hi : i < xs.length, IsR n xs[i] ∧ ∃ k1 k2, v = ⟨s * (keyV a b c xs[i] k1 k2).f0, s * (keyV a b c xs[i] k1 k2).f1⟩ := fun hsk => by
      obtain ⟨r, r1, r2⟩ := ih (j + 1) x (by omega) (by omega) (by omega) hp (fun v => by
        rw [hm]
        refine ⟨fun ⟨i, hi, q, q'⟩ => ⟨i, hi, by omega, q'⟩, fun ⟨i, hi, q, q'⟩ => ?_⟩
        by_cases e : i = j
        · subst e; exact absurd q'.1 hsk
        · exact ⟨i, hi, by omega, q'⟩)
      refine ⟨r, Ev.step (fun k => ?_) r1, r2⟩
      simp only [spec_l11Centres.j1]; rw [if_pos trivial, hwj]
    by_cases hd1 : xs[j].f0.f0 * xs[j].f0.f3 - xs[j].f0.f1 * xs[j].f0.f2 = 1
    · by_cases c2 : ordM (xs[j].f0.f0, xs[j].f0.f1, xs[j].f0.f2, xs[j].f0.f3) = n
      · obtain ⟨ed, rt⟩ := t2 hd1 n hn c2
        have hR : IsR n xs[j] := ⟨hd1, c2⟩
        obtain ⟨r, ⟨K, r1⟩, r2⟩ := inner_spec (n := n) h xs j h1 rt (by rw [ed]; exact hs) hs1 hs2 (Q := fun r => r.Pairwise ltV ∧ ∀ v, v ∈ r ↔ ∃ i, ∃ hi : i < xs.length, IsR n xs[i] ∧ ∃ k1 k2, v = ⟨s * (keyV a b c xs[i] k1 k2).f0, s * (keyV a b c xs[i] k1 k2).f1⟩) 144 0 x (by omega) (by omega) (by omega) (by omega) hp (fun x' g0 g1 g2 => by
          rw [hwj]
          refine ih (j + 1) x' (by omega) (by omega) (by omega) g0 (fun v => ?_)
          rw [g1, full_spec h rt, hm]
          constructor
          · rintro (⟨i, hi, q, q'⟩ | q)
            · exact ⟨i, hi, by omega, q'⟩
            · exact ⟨j, h1, by omega, hR, q⟩
          · rintro ⟨i, hi, q, q', q''⟩
            by_cases e : i = j
            · subst e; exact Or.inr q''
            · exact Or.inl ⟨i, hi, by omega, q', q''⟩)
        refine ⟨r, ⟨K + 50, fun k hk => ?_⟩, r2⟩
        obtain ⟨k, rfl⟩ : ∃ q, k = q + 2 := ⟨k - 2, by omega⟩
        show spec_l11Centres.l0 (k + 2) xs n x [(⟨a, 0⟩ : S42), ⟨b, c⟩] j a b c = some r
        simp only [spec_l11Centres.l0, spec_l11Centres.j1]
        rw [if_pos (by omega), if_pos (by omega), rd_mo _ _ h1, d2, Option.bind_some, if_pos hd1, ho (k + 1) (by omega), Option.bind_some, if_neg (by simp [c2])]
        exact r1 k (by omega)
      · obtain ⟨r, r1, r2⟩ := skip (fun q => c2 q.2)
        refine ⟨r, Ev.from' 50 (fun k hk => ?_) r1, r2⟩
        simp only [spec_l11Centres.l0]
        rw [if_pos (by omega), if_pos (by omega), rd_mo _ _ h1, d2, Option.bind_some, if_pos hd1, ho k (by omega), Option.bind_some, show (ordM (xs[j].f0.f0, xs[j].f0.f1, xs[j].f0.f2, xs[j].f0.f3) != n) = true from bne_iff_ne.2 c2]
    · obtain ⟨r, r1, r2⟩ := skip (fun q => hd1 q.1)
      refine ⟨r, Ev.step (fun k => ?_) r1, r2⟩
      simp only [spec_l11Centres.l0]
      rw [if_pos (by omega), if_pos (by omega), rd_mo _ _ h1, d2, Option.bind_some, if_neg hd1]
theorem has4 (n : Int) (m : Nat) : spec_l01Has.f (m + 5) [2, 3, 4, 6] n = some (decide (n = 2 ∨ n = 3 ∨ n = 4 ∨ n = 6)) := by
  have w1 : wrap64 (0 + 1) = 1 := w64s (by omega) (by omega)
  have w2 : wrap64 (1 + 1) = 2 := w64s (by omega) (by omega)
  have w3 : wrap64 (2 + 1) = 3 := w64s (by omega) (by omega)
  have w4 : wrap64 (3 + 1) = 4 := w64s (by omega) (by omega)
  have hl : ((([2, 3, 4, 6] : List Int).length : Nat) : Int) = 4 := rfl
  have r0 : rd [2, 3, 4, 6] 0 = 2 := rfl
  have r1 : rd [2, 3, 4, 6] 1 = 3 := rfl
  have r2 : rd [2, 3, 4, 6] 2 = 4 := rfl
  have r3 : rd [2, 3, 4, 6] 3 = 6 := rfl
  unfold spec_l01Has.f
  simp only [spec_l01Has.l0, w1, w2, w3, w4, hl, r0, r1, r2, r3]
  rw [if_pos (by decide), if_pos (by decide)]
  by_cases h2 : n = 2
  · rw [if_pos h2.symm]; congr 1; exact (decide_eq_true (Or.inl h2)).symm
  rw [if_neg (fun e => h2 e.symm), if_pos (by decide), if_pos (by decide)]
  by_cases h3 : n = 3
  · rw [if_pos h3.symm]; congr 1; exact (decide_eq_true (Or.inr (Or.inl h3))).symm
  rw [if_neg (fun e => h3 e.symm), if_pos (by decide), if_pos (by decide)]
  by_cases h4 : n = 4
  · rw [if_pos h4.symm]; congr 1; exact (decide_eq_true (Or.inr (Or.inr (Or.inl h4)))).symm
  rw [if_neg (fun e => h4 e.symm), if_pos (by decide), if_pos (by decide)]
  by_cases h6 : n = 6
  · rw [if_pos h6.symm]; congr 1; exact (decide_eq_true (Or.inr (Or.inr (Or.inr h6)))).symm
  rw [if_neg (fun e => h6 e.symm), if_neg (by decide)]
  congr 1
  exact (decide_eq_false (by omega)).symm
theorem impl_order (k : Nat) (fr a b c n : Int) (xs : List S44) (e : Int) (h : impl_groupCode.f k fr a b c [xs] = some e) : impl_CountCentres.f k fr a b c xs n = if e = 0 then impl_CountCentres.j0 k xs n (!decide (n = 2 ∨ n = 3 ∨ n = 4 ∨ n = 6)) a b c else some (0, e) := by
  unfold impl_CountCentres.f
  rw [h, Option.bind_some]
  by_cases e0 : e = 0
  · rw [if_pos e0, if_pos e0]
    by_cases h2 : n = 2
    · rw [if_pos h2, decide_eq_true (Or.inl h2)]; rfl
    rw [if_neg h2]
    by_cases h3 : n = 3
    · rw [if_pos h3, decide_eq_true (Or.inr (Or.inl h3))]; rfl
    rw [if_neg h3]
    by_cases h4 : n = 4
    · rw [if_pos h4, decide_eq_true (Or.inr (Or.inr (Or.inl h4)))]; rfl
    rw [if_neg h4]
    by_cases h6 : n = 6
    · rw [decide_eq_true (Or.inr (Or.inr (Or.inr h6))), h6]; rfl
    · rw [decide_eq_false (by omega), show (n != 6) = true from bne_iff_ne.2 h6]; rfl
  · rw [if_neg e0, if_neg e0]
theorem both_CountCentres (fr a b c n : Int) (xs : List S44) (hl : (xs.length : Int) ≤ 1048576) : ∃ r, Ev (fun k => spec_CountCentres.f k fr a b c xs n) r ∧ Ev (fun k => impl_CountCentres.f k fr a b c xs n) r := by
  obtain ⟨r, ⟨K1, r1⟩, ⟨K2, r2⟩, r3⟩ := groupCode_both fr a b c xs hl
  have q := fun i => spec_l06Code_eq fr a b c i
  have r1 : ∀ k, K1 ≤ k → spec_IsGroup.f k fr a b c xs = some r := r1
  have r2 : ∀ k, K2 ≤ k → impl_groupCode.f k fr a b c [xs] = some (if FL fr a b c then (if r = true then 0 else 2) else 1) := r2
  have hh : ∀ k, 5 ≤ k → spec_l01Has.f k [2, 3, 4, 6] n = some (decide (n = 2 ∨ n = 3 ∨ n = 4 ∨ n = 6)) := fun k hk => by
    obtain ⟨m, rfl⟩ : ∃ m, k = m + 5 := ⟨k - 5, by omega⟩
    exact has4 n m
  by_cases hn : n = 2 ∨ n = 3 ∨ n = 4 ∨ n = 6
  · have hn' : n ∈ [(2 : Int), 3, 4, 6] := by simpa using hn
    have hc : ∀ k, K1 ≤ k → spec_l07Code.f k fr a b c xs true = some (if FL fr a b c then (if r = true then 0 else 2) else 1) := fun k hk => by
      unfold spec_l07Code.f
      rw [if_pos rfl, r1 k hk, Option.bind_some, q, Option.bind_some]
    by_cases e : r = true
    · obtain ⟨h, hg, hs, hlen⟩ := r3 e
      rw [if_pos h, if_pos e] at hc r2
      obtain ⟨s, hs0, hs1, hs2⟩ : ∃ s : Int, 12 = s * dOf n ∧ 1 ≤ s ∧ s ≤ 12 := by
        rcases hn with z | z | z | z <;> subst z
        · exact ⟨3, by decide, by decide, by decide⟩
        · exact ⟨4, by decide, by decide, by decide⟩
        · exact ⟨6, by decide, by decide, by decide⟩
        · exact ⟨12, by decide, by decide, by decide⟩
      obtain ⟨o, ⟨K3, o1⟩, o2, o3⟩ := outer_spec h hn' hs0 hs1 hs2 xs hlen hg xs.length 0 [] (by omega) rfl (by simp) List.Pairwise.nil (fun v => ⟨fun g => absurd g List.not_mem_nil, fun ⟨i, hi, g, _⟩ => by omega⟩)
      obtain ⟨t, ⟨K4, t1⟩, X, x1, x2, x3⟩ := outer_impl h hn' xs hlen hg xs.length 0 [] (by omega) rfl (by simp) (fun v g => absurd g List.not_mem_nil) (fun v => ⟨fun g => absurd g List.not_mem_nil, fun ⟨i, hi, g, _⟩ => by omega⟩)
      have hcard : mapVe.card X = (o.length : Int) := card_image X o x1 (fun v => ⟨s * v.f0, s * v.f1⟩) (fun x y g => by
        injection g with g0 g1
        exact ve_ext (Int.eq_of_mul_eq_mul_left (by omega) g0) (Int.eq_of_mul_eq_mul_left (by omega) g1)) (pairV_nodup o2) (fun w => by
        rw [o3]
        constructor
        · rintro ⟨i, hi, g, k1, k2, e⟩
          exact ⟨keyV a b c xs[i] k1 k2, (x2 _).2 ⟨i, hi, g, k1, k2, rfl⟩, e⟩
        · rintro ⟨v, hv, e⟩
          obtain ⟨i, hi, g, k1, k2, e'⟩ := (x2 v).1 hv
          exact ⟨i, hi, g, k1, k2, by rw [e, e']⟩)
      subst x3
      rw [hcard] at t1
      refine ⟨((o.length : Int), 0), ⟨K1 + K3 + 5, fun k hk => ?_⟩, ⟨K2 + K4 + 1, fun k hk => ?_⟩⟩
      · have o1 : spec_l11Centres.l0 k xs n [] [(⟨a, 0⟩ : S42), ⟨b, c⟩] ((0 : Nat) : Int) a b c = some o := o1 k (by omega)
        show spec_CountCentres.f k fr a b c xs n = _
        unfold spec_CountCentres.f spec_l11Centres.f spec_l03Basis.f
        rw [hh k (by omega), Option.bind_some, decide_eq_true hn, hc k (by omega), Option.bind_some, if_pos rfl, Option.bind_some]
        show ((spec_l11Centres.l0 k xs n [] [(⟨a, 0⟩ : S42), ⟨b, c⟩] ((0 : Nat) : Int) a b c).bind _) = _
        rw [o1]; rfl
      · obtain ⟨k, rfl⟩ : ∃ m, k = m + 1 := ⟨k - 1, by omega⟩
        have t1 : impl_CountCentres.l0 k n [] xs (xs.length : Int) ((0 : Nat) : Int) a b c a 0 b c = some ((o.length : Int), 0) := t1 k (by omega)
        show impl_CountCentres.f (k + 1) fr a b c xs n = _
        rw [impl_order _ _ _ _ _ _ _ _ (r2 (k + 1) (by omega)), if_pos rfl, decide_eq_true hn]
        simp only [impl_CountCentres.j0]
        rw [if_neg (by decide)]
        exact t1
    · have hne : (if FL fr a b c then (if r = true then 0 else 2) else 1 : Int) ≠ 0 := by
        by_cases h : FL fr a b c
        · rw [if_pos h, if_neg e]; decide
        · rw [if_neg h]; decide
      refine ⟨(0, if FL fr a b c then (if r = true then 0 else 2) else 1), ⟨K1 + 5, fun k hk => ?_⟩, ⟨K2, fun k hk => ?_⟩⟩
      · show spec_CountCentres.f k fr a b c xs n = _
        unfold spec_CountCentres.f
        rw [hh k (by omega), Option.bind_some, decide_eq_true hn, hc k (by omega), Option.bind_some, if_neg hne]
      · show impl_CountCentres.f k fr a b c xs n = _
        rw [impl_order _ _ _ _ _ _ _ _ (r2 k hk), if_neg hne]
  · have hc : ∀ k, spec_l07Code.f k fr a b c xs false = some (if FL fr a b c then 2 else 1) := fun k => by
      unfold spec_l07Code.f
      rw [if_neg (by decide), q, Option.bind_some, if_neg (by decide : ¬ (false = true))]
    have hne : (if FL fr a b c then 2 else 1 : Int) ≠ 0 := by by_cases h : FL fr a b c <;> simp [h]
    refine ⟨(0, if FL fr a b c then 2 else 1), ⟨5, fun k hk => ?_⟩, ⟨K2 + 1, fun k hk => ?_⟩⟩
    · show spec_CountCentres.f k fr a b c xs n = _
      unfold spec_CountCentres.f
      rw [hh k hk, Option.bind_some, decide_eq_false hn, hc k, Option.bind_some, if_neg hne]
    · obtain ⟨k, rfl⟩ : ∃ m, k = m + 1 := ⟨k - 1, by omega⟩
      show impl_CountCentres.f (k + 1) fr a b c xs n = _
      rw [impl_order _ _ _ _ _ _ _ _ (r2 (k + 1) (by omega)), decide_eq_false hn]
      by_cases h : FL fr a b c
      · rw [if_pos h, if_pos h]
        by_cases e : r = true
        · rw [if_pos e, if_pos rfl]
          simp only [impl_CountCentres.j0]
          rw [if_pos (by decide)]
        · rw [if_neg e, if_neg (by decide)]
      · rw [if_neg h, if_neg h, if_neg (by decide)]

end Go.Proofs.Ytfmjboloeabjmaa.LA
