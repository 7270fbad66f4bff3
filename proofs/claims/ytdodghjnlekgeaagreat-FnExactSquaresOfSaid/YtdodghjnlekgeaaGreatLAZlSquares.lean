import Derived.Test.YtdodghjnlekgeaaGreatAid
import Derived.Test.YtdodghjnlekgeaaGreatPAx0
import Derived.Test.YtdodghjnlekgeaaGreatLAABasic
import Derived.Test.YtdodghjnlekgeaaGreatLAUOrder
import Derived.Test.YtdodghjnlekgeaaGreatLAVGroup
import Derived.Test.YtdodghjnlekgeaaGreatLAWIsgroup
import Derived.Test.YtdodghjnlekgeaaGreatLAZfInsert
import Derived.Test.YtdodghjnlekgeaaGreatLAZiClose
import Derived.Test.YtdodghjnlekgeaaGreatLAZjGroup
import Derived.Test.YtdodghjnlekgeaaGreatPAx0
import Derived.Test.YtdodghjnlekgeaaGreatPAx12
import Derived.Test.YtdodghjnlekgeaaGreatPAx15
import Derived.Test.YtdodghjnlekgeaaGreatPAx19
import Derived.Test.YtdodghjnlekgeaaGreatPAx21
import Derived.Test.YtdodghjnlekgeaaGreatPAx7
import Derived.Test.YtdodghjnlekgeaaGreatPAx8
namespace Go.Proofs.YtdodghjnlekgeaaGreat.LA
open Go.RowKit Go.Proofs.YtdodghjnlekgeaaGreat.PA Go.Proofs.YtdodghjnlekgeaaGreatW.PrintWords Go.Proofs.YtdodghjnlekgeaaGreatW.PrintLast Go.Proofs.YtdodghjnlekgeaaGreat.Aid
set_option linter.unusedVariables false
set_option linter.unusedSimpArgs false
theorem Closed.has {fr a b c : Int} {xs r : List S48} (h : Closed fr a b c xs r) {z : S48} (g : Gen a b c xs z) : z ∈ r := by
  induction g with
  | one => exact h.one
  | mul hx _ ih => exact h.mul _ hx _ ih
theorem Gen.mono {a b c : Int} {xs ys : List S48} (h : ∀ x ∈ xs, x ∈ ys) {z : S48} (g : Gen a b c xs z) : Gen a b c ys z := by
  induction g with
  | one => exact .one
  | mul hx _ ih => exact .mul (h _ hx) ih
theorem Closed.ext {fr a b c : Int} {xs ys r s : List S48} (h : Closed fr a b c xs r) (g : Closed fr a b c ys s) (e : ∀ x, x ∈ xs ↔ x ∈ ys) : r = s :=
  incr_ext h.inc g.inc (fun z => ⟨fun hz => g.has ((h.gen z hz).mono fun x hx => (e x).1 hx), fun hz => h.has ((g.gen z hz).mono fun x hx => (e x).2 hx)⟩)
theorem sq_eq {fr a b c : Int} (h : FL fr a b c) {x y : S48} (gx : Good fr a b c x) (gy : Good fr a b c y) :
    spec_l15Product.f a b c x.f0.f0 x.f0.f1 x.f0.f2 x.f0.f3 x.f1.f0 x.f1.f1 y.f0.f0 y.f0.f1 y.f0.f2 y.f0.f3 y.f1.f0 y.f1.f1 = some ((prodM a b c x y).f0.f0, (prodM a b c x y).f0.f1, (prodM a b c x y).f0.f2, (prodM a b c x y).f0.f3, (prodM a b c x y).f1.f0, (prodM a b c x y).f1.f1) ∧
    impl_Lattice_compose.f a b c x.f0.f0 x.f0.f1 x.f0.f2 x.f0.f3 x.f1.f0 x.f1.f1 y.f0.f0 y.f0.f1 y.f0.f2 y.f0.f3 y.f1.f0 y.f1.f1 = some ((prodM a b c x y).f0.f0, (prodM a b c x y).f0.f1, (prodM a b c x y).f0.f2, (prodM a b c x y).f0.f3, (prodM a b c x y).f1.f0, (prodM a b c x y).f1.f1) := by
  obtain ⟨⟨p, s1, s2⟩, p', t1, t2⟩ := alike_comp h (alike_self h gx) gy
  constructor
  · unfold spec_l15Product.f
    rw [s1, Option.bind_some, s2]; rfl
  · unfold impl_Lattice_compose.f
    rw [t1, Option.bind_some, t2]; rfl
theorem sq_loop {fr a b c : Int} (h : FL fr a b c) (xs : List S48) (hl : xs.length ≤ 768) (hg : ∀ j (hj : j < xs.length), Good fr a b c xs[j]) (q : List S48)
    (fin : ∀ x y : List S48, Incr x → (∀ z, z ∈ x ↔ z ∈ xs.map fun m => prodM a b c m m) → y = xs.map (fun m => prodM a b c m m) → Ev (fun k => spec_l06Close.f k a b c x) q ∧ Ev (fun k => impl_closeGroup.f k a b c y) q) (d : Nat) : ∀ (i : Nat) (x y : List S48), i ≤ xs.length → xs.length - i = d → x.length ≤ i → Incr x → (∀ z, z ∈ x ↔ z ∈ (xs.take i).map fun m => prodM a b c m m) → y = (xs.take i).map (fun m => prodM a b c m m) →
    Ev (fun k => spec_l15Squares.l0 k xs x i a b c) q ∧ Ev (fun k => impl_squaresOf.l0 k y xs (xs.length : Int) i a b c) q := by
  induction d with
  | zero =>
    intro i x y hi hd hx hs hm hy
    rw [List.take_of_length_le (by omega)] at hm hy
    obtain ⟨f1, f2⟩ := fin x y hs hm hy
    refine ⟨Ev.step (fun k => ?_) f1, Ev.step (fun k => ?_) f2⟩
    · simp only [spec_l15Squares.l0]; rw [if_neg (by omega)]; cases spec_l06Close.f k a b c x <;> rfl
    · simp only [impl_squaresOf.l0]; rw [if_neg (by omega)]; cases impl_closeGroup.f k a b c y <;> rfl
  | succ d ih =>
    intro i x y hi hd hx hs hm hy
    have h1 : i < xs.length := by omega
    have hw : wrap64 ((i : Int) + 1) = ((i + 1 : Nat) : Int) := by rw [w64s (by omega) (by omega)]; omega
    obtain ⟨s, t⟩ := sq_eq h (hg i h1) (hg i h1)
    obtain ⟨n1, n2, n3, n4⟩ := ins_incr x (by omega) hs (prodM a b c xs[i] xs[i])
    have e : (xs.take (i + 1)).map (fun m => prodM a b c m m) = (xs.take i).map (fun m => prodM a b c m m) ++ [prodM a b c xs[i] xs[i]] := by
      rw [List.take_succ_eq_append_getElem h1, List.map_append]; rfl
    have hyl : y.length = i := by rw [hy, List.length_map, List.length_take]; omega
    obtain ⟨r1, r2⟩ := ih (i + 1) (spec_l06Insert.ins x (prodM a b c xs[i] xs[i])) (y ++ [prodM a b c xs[i] xs[i]]) (by omega) (by omega) (by omega) n2 (fun z => by rw [e, n3, hm, List.mem_append, List.mem_singleton]) (by rw [e, hy])
    refine ⟨Ev.step (fun k => ?_) r1, Ev.step (fun k => ?_) r2⟩
    · simp only [spec_l15Squares.l0]
      rw [if_pos (by omega), if_pos (by omega), rd_mo xs i h1, s]
      simp only [Option.bind_some, hw]
      exact if_pos ⟨by omega, n1⟩
    · simp only [impl_squaresOf.l0]
      rw [if_pos (by omega), if_pos (by omega), if_pos (by omega), rd_mo xs i h1, t]
      simp only [Option.bind_some, hw]
      exact if_pos (by omega)
theorem squares_both {fr a b c : Int} (h : FL fr a b c) (xs : List S48) (hl : xs.length ≤ 768) (hg : ∀ j (hj : j < xs.length), Good fr a b c xs[j]) :
    ∃ r, Ev (fun k => spec_l15Squares.f k a b c xs) r ∧ Ev (fun k => impl_squaresOf.f k a b c xs) r ∧ Closed fr a b c (xs.map fun m => prodM a b c m m) r := by
  have ha : ∀ (y : List S48), (∀ z ∈ y, z ∈ xs.map fun m => prodM a b c m m) → ∀ j (hj : j < y.length), Alike fr a b c y[j] y[j] := fun y hy j hj => by
    obtain ⟨m, hm, e⟩ := List.mem_map.1 (hy _ (List.getElem_mem hj))
    obtain ⟨n, hn, rfl⟩ := List.getElem_of_mem hm
    rw [← e]
    exact alike_self h ((hg n hn).mul h (hg n hn))
  obtain ⟨r, -, r2, r3⟩ := close_both h (xs.map fun m => prodM a b c m m) (xs.map fun m => prodM a b c m m) (by rw [List.length_map]; omega) rfl (ha _ fun z hz => hz)
  obtain ⟨p1, p2⟩ := sq_loop h xs hl hg r (fun x y hx hm hy => by
    subst hy
    refine ⟨?_, r2⟩
    have hxl : x.length ≤ 768 := len_768 h x (fun j hj => (ha x (fun z hz => (hm z).1 hz) j hj).1) hx
    obtain ⟨s, s1, -, s3⟩ := close_both h x x (by omega) rfl (ha x fun z hz => (hm z).1 hz)
    rw [← s3.ext r3 hm]; exact s1) xs.length 0 [] [] (by omega) rfl (by simp) incr_nil (fun z => by simp) (by simp)
  exact ⟨r, p1, p2, r3⟩
theorem both_SquaresOf (fr a b c : Int) (xs : List S48) (hx : (xs.length : Int) ≤ 1048576) : ∃ r : List S48 × Int, (r.1.length : Int) ≤ 1048576 ∧ Ev (fun k => spec_SquaresOf.f k fr a b c xs) r ∧ Ev (fun k => impl_SquaresOf.f k fr a b c xs) r := by
  obtain ⟨r, ⟨K2, s2⟩, ⟨K3, s3⟩, e1, e2, e3, e4⟩ := small_both fr a b c xs hx
  have s2 : ∀ k, K2 ≤ k → spec_l15One.f k fr a b c xs = some r := s2
  have s3 : ∀ k, K3 ≤ k → impl_smallCode.f k fr a b c xs = some r := s3
  by_cases h0 : r = 0
  · obtain ⟨hf, G, hl⟩ := e2 h0
    obtain ⟨o, ⟨K5, o1⟩, ⟨K6, o2⟩, o3⟩ := squares_both hf xs (by omega) G.at
    have o1 : ∀ k, K5 ≤ k → spec_l15Squares.f k a b c xs = some o := o1
    have o2 : ∀ k, K6 ≤ k → impl_squaresOf.f k a b c xs = some o := o2
    have := o3.len
    refine ⟨(o, 0), by show (o.length : Int) ≤ 1048576; omega, ⟨K2 + K5, fun k hk => ?_⟩, ⟨K3 + K6, fun k hk => ?_⟩⟩
    · show spec_SquaresOf.f k fr a b c xs = _
      unfold spec_SquaresOf.f
      rw [s2 k (by omega), Option.bind_some, if_pos h0, o1 k (by omega)]; rfl
    · show impl_SquaresOf.f k fr a b c xs = _
      unfold impl_SquaresOf.f
      rw [s3 k (by omega), Option.bind_some, if_pos h0, o2 k (by omega)]; rfl
  · refine ⟨([], r), by show ((0 : Nat) : Int) ≤ 1048576; omega, ⟨K2, fun k hk => ?_⟩, ⟨K3, fun k hk => ?_⟩⟩
    · show spec_SquaresOf.f k fr a b c xs = _
      unfold spec_SquaresOf.f
      rw [s2 k hk, Option.bind_some, if_neg h0]
    · show impl_SquaresOf.f k fr a b c xs = _
      unfold impl_SquaresOf.f
      rw [s3 k hk, Option.bind_some, if_neg h0]
end Go.Proofs.YtdodghjnlekgeaaGreat.LA
