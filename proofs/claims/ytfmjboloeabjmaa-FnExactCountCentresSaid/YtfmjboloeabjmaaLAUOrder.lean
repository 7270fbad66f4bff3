/- Plain lemmas on the order of motions, and on looking one up in a strictly increasing list. -/
import Derived.Test.YtfmjboloeabjmaaAid
import Derived.Test.YtfmjboloeabjmaaPAx0
import Derived.Test.YtfmjboloeabjmaaPAx0
import Derived.Test.YtfmjboloeabjmaaPAx13
import Derived.Test.YtfmjboloeabjmaaPAx14
import Derived.Test.YtfmjboloeabjmaaPAx7
namespace Go.Proofs.Ytfmjboloeabjmaa.LA
open Go.RowKit Go.Proofs.Ytfmjboloeabjmaa.PA Go.Proofs.YtfmjboloeabjmaaW.PrintWords Go.Proofs.YtfmjboloeabjmaaW.PrintLast Go.Proofs.Ytfmjboloeabjmaa.Aid
set_option linter.unusedVariables false
set_option linter.unusedSimpArgs false

/-- The order of motions. -/
def ltM (x y : S44) : Prop := x.f0.f0 < y.f0.f0 ∨ (x.f0.f0 = y.f0.f0 ∧ (x.f0.f1 < y.f0.f1 ∨ (x.f0.f1 = y.f0.f1 ∧ (x.f0.f2 < y.f0.f2 ∨ (x.f0.f2 = y.f0.f2 ∧ (x.f0.f3 < y.f0.f3 ∨ (x.f0.f3 = y.f0.f3 ∧ (x.f1.f0 < y.f1.f0 ∨ (x.f1.f0 = y.f1.f0 ∧ x.f1.f1 < y.f1.f1)))))))))
instance (x y : S44) : Decidable (ltM x y) := by unfold ltM; infer_instance
theorem lex_trans {a b c : Int} {p q r : Prop} (h : p → q → r) : (a < b ∨ (a = b ∧ p)) → (b < c ∨ (b = c ∧ q)) → (a < c ∨ (a = c ∧ r)) := by
  rintro (g | ⟨g, hp⟩) (g' | ⟨g', hq⟩)
  · exact .inl (by omega)
  · exact .inl (by omega)
  · exact .inl (by omega)
  · exact .inr ⟨by omega, h hp hq⟩
theorem ltM_trans {x y z : S44} (h : ltM x y) (g : ltM y z) : ltM x z :=
  lex_trans (lex_trans (lex_trans (lex_trans (lex_trans Int.lt_trans)))) h g
theorem ltM_irrefl (x : S44) : ¬ ltM x x := by simp [ltM]
theorem any_eqB (xs : List S44) (y : S44) : (xs.any fun x => mapMo.eqB x y) = true ↔ y ∈ xs := by
  rw [List.any_eq_true]
  constructor
  · rintro ⟨x, hx, h⟩; rw [← (mapMo.eqB_iff x y).1 h]; exact hx
  · intro h; exact ⟨y, h, (mapMo.eqB_iff y y).2 rfl⟩
theorem rd4 (a b c d : Int) : rd [a, b, c, d] ((0 : Nat) : Int) = a ∧ rd [a, b, c, d] ((1 : Nat) : Int) = b ∧ rd [a, b, c, d] ((2 : Nat) : Int) = c ∧ rd [a, b, c, d] ((3 : Nat) : Int) = d := ⟨rfl, rfl, rfl, rfl⟩
theorem ll_step (a b : List Int) (k i : Nat) (hk : 2 ≤ k) (hi : i < 4) (ha : a.length = 4) (hb : b.length = 4) : spec_l01LessList.l0 k a b i = if rd a i = rd b i then spec_l01LessList.l0 (k - 2) a b ((i + 1 : Nat) : Int) else some (decide (rd a i < rd b i)) := by
  obtain ⟨j, rfl⟩ : ∃ j, k = j + 2 := ⟨k - 2, by omega⟩
  have hw : wrap64 ((i : Int) + 1) = ((i + 1 : Nat) : Int) := by rw [w64s (by omega) (by omega)]; omega
  simp only [spec_l01LessList.l0, spec_l01LessList.j1]
  rw [if_pos (by omega), if_pos (by simp; omega), if_pos (by omega), if_pos (by omega), if_pos (by omega), hw, show j + 2 - 2 = j by omega]
theorem ll_end (a b : List Int) (k : Nat) (hk : 2 ≤ k) (ha : a.length = 4) (hb : b.length = 4) : spec_l01LessList.l0 k a b ((4 : Nat) : Int) = some false := by
  obtain ⟨j, rfl⟩ : ∃ j, k = j + 2 := ⟨k - 2, by omega⟩
  simp only [spec_l01LessList.l0, spec_l01LessList.j1]
  rw [if_neg (by omega), if_neg (by simp)]
  congr 1
  rw [decide_eq_false_iff_not]; omega
theorem less4 (a b c d a' b' c' d' : Int) (k : Nat) (hk : 10 ≤ k) : spec_l01LessList.f k [a, b, c, d] [a', b', c', d'] = some (decide (a < a' ∨ (a = a' ∧ (b < b' ∨ (b = b' ∧ (c < c' ∨ (c = c' ∧ d < d'))))))) := by
  have s := fun k i hk hi => ll_step [a, b, c, d] [a', b', c', d'] k i hk hi rfl rfl
  obtain ⟨r0, r1, r2, r3⟩ := rd4 a b c d
  obtain ⟨r0', r1', r2', r3'⟩ := rd4 a' b' c' d'
  show spec_l01LessList.l0 k _ _ ((0 : Nat) : Int) = _
  rw [s k 0 (by omega) (by omega), r0, r0']
  by_cases h0 : a = a'
  · rw [if_pos h0, s _ 1 (by omega) (by omega), r1, r1']
    by_cases h1 : b = b'
    · rw [if_pos h1, s _ 2 (by omega) (by omega), r2, r2']
      by_cases h2 : c = c'
      · rw [if_pos h2, s _ 3 (by omega) (by omega), r3, r3']
        by_cases h3 : d = d'
        · rw [if_pos h3, ll_end _ _ _ (by omega) rfl rfl]; simp [h0, h1, h2, h3]
        · rw [if_neg h3]; simp [h0, h1, h2]
      · rw [if_neg h2]; simp [h0, h1, h2]
    · rw [if_neg h1]; simp [h0, h1]
  · rw [if_neg h0]; simp [h0]
theorem spec_less_eq (x y : S44) (k : Nat) (hk : 10 ≤ k) : spec_l05Less.f k x.f0.f0 x.f0.f1 x.f0.f2 x.f0.f3 x.f1.f0 x.f1.f1 y.f0.f0 y.f0.f1 y.f0.f2 y.f0.f3 y.f1.f0 y.f1.f1 = some (decide (ltM x y)) := by
  obtain ⟨⟨a, b, c, d⟩, e, f⟩ := x
  obtain ⟨⟨a', b', c', d'⟩, e', f'⟩ := y
  rw [show decide (ltM ⟨⟨a, b, c, d⟩, e, f⟩ ⟨⟨a', b', c', d'⟩, e', f'⟩) = decide (a < a' ∨ (a = a' ∧ (b < b' ∨ (b = b' ∧ (c < c' ∨ (c = c' ∧ (d < d' ∨ (d = d' ∧ (e < e' ∨ (e = e' ∧ f < f')))))))))) from decide_eq_decide.2 Iff.rfl]
  unfold spec_l05Less.f spec_l02Less.f spec_l02Numbers.f spec_l01Less.f
  dsimp only
  simp only [Option.bind_some]
  rw [less4 _ _ _ _ _ _ _ _ _ hk]
  by_cases h : a = a' ∧ b = b' ∧ c = c' ∧ d = d'
  · obtain ⟨rfl, rfl, rfl, rfl⟩ := h
    rw [if_neg (by simp)]
    by_cases h1 : e < e'
    · simp [h1]
    · by_cases h2 : e = e'
      · simp [h2]
      · simp [h1, h2]
  · rw [if_pos (by simp only [Bool.or_eq_true, Bool.not_eq_true', beq_eq_false_iff_ne]; omega)]
    simp only [Option.bind_some]
    congr 1
    rw [decide_eq_decide]
    omega
theorem cn_step (a b : List Int) (n k i : Nat) (hk : 1 ≤ k) (hi : i < n) (hn : n ≤ 100) (ha : a.length = n) (hb : b.length = n) : impl_compareNumbers.l0 k a b (n : Int) i = if rd a i = rd b i then impl_compareNumbers.l0 (k - 1) a b (n : Int) ((i + 1 : Nat) : Int) else if rd a i < rd b i then some (-1) else some 1 := by
  obtain ⟨j, rfl⟩ : ∃ j, k = j + 1 := ⟨k - 1, by omega⟩
  have hw : wrap64 ((i : Int) + 1) = ((i + 1 : Nat) : Int) := by rw [w64s (by omega) (by omega)]; omega
  simp only [impl_compareNumbers.l0]
  rw [if_pos (by omega), if_pos (by omega), if_pos (by omega), if_pos (by omega), hw, show j + 1 - 1 = j by omega]
theorem cn_end (a b : List Int) (n k : Nat) (hk : 1 ≤ k) : impl_compareNumbers.l0 k a b (n : Int) (n : Int) = some 0 := by
  obtain ⟨j, rfl⟩ : ∃ j, k = j + 1 := ⟨k - 1, by omega⟩
  simp only [impl_compareNumbers.l0]
  rw [if_neg (by omega)]
theorem cmp_one {a b : Int} (h : a ≠ b) : ∃ c : Int, (if a < b then some (-1) else some 1 : Option Int) = some c ∧ c ≠ 0 ∧ (c < 0 ↔ a < b) := by
  by_cases g : a < b
  · exact ⟨-1, by rw [if_pos g], by decide, by simp [g]⟩
  · exact ⟨1, by rw [if_neg g], by decide, by simp [g]⟩
theorem cmp4 (a b c d a' b' c' d' : Int) (k : Nat) (hk : 10 ≤ k) : ∃ r : Int, impl_compareNumbers.f k [a, b, c, d] [a', b', c', d'] = some r ∧ (r = 0 ↔ a = a' ∧ b = b' ∧ c = c' ∧ d = d') ∧ (r < 0 ↔ a < a' ∨ (a = a' ∧ (b < b' ∨ (b = b' ∧ (c < c' ∨ (c = c' ∧ d < d')))))) := by
  have s := fun k i hk hi => cn_step [a, b, c, d] [a', b', c', d'] 4 k i hk hi (by omega) rfl rfl
  obtain ⟨r0, r1, r2, r3⟩ := rd4 a b c d
  obtain ⟨r0', r1', r2', r3'⟩ := rd4 a' b' c' d'
  show ∃ r : Int, impl_compareNumbers.l0 k _ _ ((4 : Nat) : Int) ((0 : Nat) : Int) = some r ∧ _
  rw [s k 0 (by omega) (by omega), r0, r0']
  by_cases h0 : a = a'
  · rw [if_pos h0, s _ 1 (by omega) (by omega), r1, r1']
    by_cases h1 : b = b'
    · rw [if_pos h1, s _ 2 (by omega) (by omega), r2, r2']
      by_cases h2 : c = c'
      · rw [if_pos h2, s _ 3 (by omega) (by omega), r3, r3']
        by_cases h3 : d = d'
        · rw [if_pos h3, cn_end _ _ 4 _ (by omega)]; exact ⟨0, rfl, by simp [h0, h1, h2, h3], by omega⟩
        · rw [if_neg h3]; obtain ⟨r, e1, e2, e3⟩ := cmp_one h3; exact ⟨r, e1, by omega, by omega⟩
      · rw [if_neg h2]; obtain ⟨r, e1, e2, e3⟩ := cmp_one h2; exact ⟨r, e1, by omega, by omega⟩
    · rw [if_neg h1]; obtain ⟨r, e1, e2, e3⟩ := cmp_one h1; exact ⟨r, e1, by omega, by omega⟩
  · rw [if_neg h0]; obtain ⟨r, e1, e2, e3⟩ := cmp_one h0; exact ⟨r, e1, by omega, by omega⟩
theorem cmp2 (a b a' b' : Int) (k : Nat) (hk : 10 ≤ k) : ∃ r : Int, impl_compareNumbers.f k [a, b] [a', b'] = some r ∧ (r < 0 ↔ a < a' ∨ (a = a' ∧ b < b')) := by
  have s := fun k i hk hi => cn_step [a, b] [a', b'] 2 k i hk hi (by omega) rfl rfl
  have r0 : rd [a, b] ((0 : Nat) : Int) = a := rfl
  have r1 : rd [a, b] ((1 : Nat) : Int) = b := rfl
  have r0' : rd [a', b'] ((0 : Nat) : Int) = a' := rfl
  have r1' : rd [a', b'] ((1 : Nat) : Int) = b' := rfl
  show ∃ r : Int, impl_compareNumbers.l0 k _ _ ((2 : Nat) : Int) ((0 : Nat) : Int) = some r ∧ _
  rw [s k 0 (by omega) (by omega), r0, r0']
  by_cases h0 : a = a'
  · rw [if_pos h0, s _ 1 (by omega) (by omega), r1, r1']
    by_cases h1 : b = b'
    · rw [if_pos h1, cn_end _ _ 2 _ (by omega)]; exact ⟨0, rfl, by omega⟩
    · rw [if_neg h1]; obtain ⟨r, e1, e2, e3⟩ := cmp_one h1; exact ⟨r, e1, by omega⟩
  · rw [if_neg h0]; obtain ⟨r, e1, e2, e3⟩ := cmp_one h0; exact ⟨r, e1, by omega⟩
theorem impl_cmp_eq (x y : S44) (k : Nat) (hk : 10 ≤ k) : ∃ r : Int, impl_compareMotions.f k x.f0.f0 x.f0.f1 x.f0.f2 x.f0.f3 x.f1.f0 x.f1.f1 y.f0.f0 y.f0.f1 y.f0.f2 y.f0.f3 y.f1.f0 y.f1.f1 = some r ∧ (r < 0 ↔ ltM x y) := by
  obtain ⟨⟨a, b, c, d⟩, e, f⟩ := x
  obtain ⟨⟨a', b', c', d'⟩, e', f'⟩ := y
  unfold impl_compareMotions.f impl_compareMats.f impl_compareVecs.f ltM
  dsimp only
  obtain ⟨r, r1, r2, r3⟩ := cmp4 a b c d a' b' c' d' k hk
  obtain ⟨q, q1, q2⟩ := cmp2 e f e' f' k hk
  rw [r1, q1]
  simp only [Option.bind_some]
  by_cases h : r = 0
  · rw [if_pos h]
    obtain ⟨rfl, rfl, rfl, rfl⟩ := r2.1 h
    exact ⟨q, rfl, by rw [q2]; omega⟩
  · rw [if_neg h]
    refine ⟨r, rfl, ?_⟩
    rw [r3]
    have h' : ¬ (a = a' ∧ b = b' ∧ c = c' ∧ d = d') := fun g => h (r2.2 g)
    omega
/-- A strictly increasing list. -/
def Incr (xs : List S44) : Prop := ∀ i j (hi : i < xs.length) (hj : j < xs.length), i < j → ltM xs[i] xs[j]
theorem rd_mo (xs : List S44) (i : Nat) (h : i < xs.length) : rd_T44 xs (i : Int) = xs[i] := by unfold rd_T44; rw [Int.toNat_natCast]; simp [List.getD, h]
theorem place_run (xs : List S44) (hl : (xs.length : Int) ≤ 1048576) (y : S44) (d : Nat) : ∀ (lo hi k : Nat), hi - lo ≤ d → lo ≤ hi → hi ≤ xs.length → d + 20 ≤ k → (∀ i (h : i < xs.length), i < lo → ltM xs[i] y) → (∀ i (h : i < xs.length), hi ≤ i → ¬ ltM xs[i] y) → (∀ i j (hi : i < xs.length) (hj : j < xs.length), i < j → ltM xs[i] xs[j]) →
    ∃ p : Nat, spec_l06Place.l0 k xs lo hi y.f0.f0 y.f0.f1 y.f0.f2 y.f0.f3 y.f1.f0 y.f1.f1 = some (p : Int) ∧ p ≤ xs.length ∧ (∀ i (h : i < xs.length), i < p → ltM xs[i] y) ∧ (∀ i (h : i < xs.length), p ≤ i → ¬ ltM xs[i] y) := by
  induction d with
  | zero =>
    intro lo hi k h1 h2 h3 h4 h5 h6 _
    obtain ⟨k, rfl⟩ : ∃ j, k = j + 1 := ⟨k - 1, by omega⟩
    obtain rfl : lo = hi := by omega
    refine ⟨lo, ?_, h3, h5, h6⟩
    simp only [spec_l06Place.l0]
    rw [if_neg (by omega)]
  | succ d ih =>
    intro lo hi k h1 h2 h3 h4 h5 h6 hs
    obtain ⟨k, rfl⟩ : ∃ j, k = j + 1 := ⟨k - 1, by omega⟩
    by_cases e : lo = hi
    · subst e
      refine ⟨lo, ?_, h3, h5, h6⟩
      simp only [spec_l06Place.l0]
      rw [if_neg (by omega)]
    · have hm : wrap64 (Int.tdiv (wrap64 ((lo : Int) + (hi : Int))) 2) = (((lo + hi) / 2 : Nat) : Int) := by
        rw [w64s (x := (lo : Int) + (hi : Int)) (by omega) (by omega)]
        have : Int.tdiv ((lo : Int) + (hi : Int)) 2 = (((lo + hi) / 2 : Nat) : Int) := by
          rw [Int.tdiv_eq_ediv_of_nonneg (by omega)]; omega
        rw [this, w64s (by omega) (by omega)]
      have hq : (lo + hi) / 2 < xs.length := by omega
      have hw : wrap64 ((((lo + hi) / 2 : Nat) : Int) + 1) = (((lo + hi) / 2 + 1 : Nat) : Int) := by rw [w64s (by omega) (by omega)]; omega
      simp only [spec_l06Place.l0]
      rw [if_pos (by omega), hm, if_pos (by omega), if_pos (by omega), rd_mo _ _ hq, spec_less_eq _ _ _ (by omega), Option.bind_some, hw]
      by_cases g : ltM xs[(lo + hi) / 2] y
      · rw [if_pos (by simp [g])]
        refine ih _ _ _ (by omega) (by omega) h3 (by omega) (fun i h hi_ => ?_) h6 hs
        by_cases e : i = (lo + hi) / 2
        · subst e; exact g
        · exact ltM_trans (hs _ _ h hq (by omega)) g
      · rw [if_neg (by simp [g])]
        refine ih _ _ _ (by omega) (by omega) (by omega) (by omega) h5 (fun i h hi_ hlt => ?_) hs
        by_cases e : i = (lo + hi) / 2
        · subst e; exact g hlt
        · exact g (ltM_trans (hs _ _ hq h (by omega)) hlt)
theorem spec_has6_eq (xs : List S44) (hl : (xs.length : Int) ≤ 1048576) (hs : Incr xs) (y : S44) (k : Nat) (hk : 2000000 ≤ k) : spec_l06Has.f k xs y.f0.f0 y.f0.f1 y.f0.f2 y.f0.f3 y.f1.f0 y.f1.f1 = some (xs.any fun x => mapMo.eqB x y) := by
  obtain ⟨p, p1, p2, p3, p4⟩ := place_run xs hl y xs.length 0 xs.length k (by omega) (by omega) (by omega) (by omega) (fun i h hi => by omega) (fun i h hi => by omega) hs
  have p1' : spec_l06Place.f k xs y.f0.f0 y.f0.f1 y.f0.f2 y.f0.f3 y.f1.f0 y.f1.f1 = some (p : Int) := p1
  unfold spec_l06Has.f
  rw [p1', Option.bind_some]
  by_cases h : p < xs.length
  · rw [if_pos (by omega), if_pos (by omega), rd_mo _ _ h]
    congr 1
    rw [Bool.eq_iff_iff, any_eqB]
    constructor
    · intro g
      have : mapMo.eqB xs[p] y = true := by
        unfold mapMo.eqB
        simp only [Bool.and_eq_true, beq_iff_eq] at g ⊢
        exact ⟨g.1.1, g.1.2.1, g.1.2.2.1, g.1.2.2.2, g.2.1, g.2.2⟩
      rw [← (mapMo.eqB_iff _ _).1 this]; exact List.getElem_mem h
    · intro g
      obtain ⟨q, hq, e⟩ := List.getElem_of_mem g
      have hqp : q = p := by
        rcases Nat.lt_trichotomy q p with c | c | c
        · have := p3 q hq c; rw [e] at this; exact absurd this (ltM_irrefl y)
        · exact c
        · have := hs p q h hq c; rw [e] at this; exact absurd this (p4 p h (Nat.le_refl _))
      subst hqp
      rw [e]; simp
  · rw [if_neg (by omega)]
    congr 1; symm
    rw [Bool.eq_false_iff]
    intro g
    obtain ⟨q, hq, e⟩ := List.getElem_of_mem ((any_eqB _ _).1 g)
    have := p3 q hq (by omega)
    rw [e] at this; exact absurd this (ltM_irrefl y)

end Go.Proofs.Ytfmjboloeabjmaa.LA
