import Derived.Test.YtedmadofpdkekaaAid
import Derived.Test.YtedmadofpdkekaaPAx0
import Derived.Test.YtedmadofpdkekaaLAABasic
import Derived.Test.YtedmadofpdkekaaLAGLattice
import Derived.Test.YtedmadofpdkekaaLAVGroup
import Derived.Test.YtedmadofpdkekaaLAYaDraw
import Derived.Test.YtedmadofpdkekaaLAYbaLats
import Derived.Test.YtedmadofpdkekaaLAZiClose
import Derived.Test.YtedmadofpdkekaaLAZzhClosespec
import Derived.Test.YtedmadofpdkekaaPAx0
import Derived.Test.YtedmadofpdkekaaPAx10
import Derived.Test.YtedmadofpdkekaaPAx11
import Derived.Test.YtedmadofpdkekaaPAx19
import Derived.Test.YtedmadofpdkekaaPAx6
import Derived.Test.YtedmadofpdkekaaPAx8
namespace Go.Proofs.Ytedmadofpdkekaa.LA
open Go.RowKit Go.Proofs.Ytedmadofpdkekaa.PA Go.Proofs.YtedmadofpdkekaaW.PrintWords Go.Proofs.YtedmadofpdkekaaW.PrintLast Go.Proofs.Ytedmadofpdkekaa.Aid
set_option linter.unusedVariables false
set_option linter.unusedSimpArgs false
theorem close_own {fr a b c : Int} (h : FL fr a b c) (xs : List S55) (hx : (xs.length : Int) ≤ 1048576) (g : ∀ x ∈ xs, Good fr a b c x) : ∃ r, Ev (fun k => spec_l06Close.f k a b c xs) r ∧ Closed fr a b c xs r :=
  close_spec h xs xs hx rfl (fun j hj => alike_self h (g _ (List.getElem_mem hj)))
theorem gdraw_j2 {l : List Int} (hb : Byt l) (fr a b c : Int) {p s : Int} (h : Src l p s) (xs : List S55) (hl : xs.length ≤ 768) :
    ∃ (r : List S55) (p' s' : Int), Ev (fun k => spec_l06Draw.j2 k fr xs l p s a b c) (fr, a, b, c, r, p', s') ∧ Src l p' s' ∧ r.length ≤ 769 := by
  by_cases c0 : (xs.length : Int) > 0
  · obtain ⟨i, p1, s1, e1, g1, i0, i1⟩ := next_some hb h (n := (xs.length : Int)) (by omega)
    have i1 := i1 (by omega)
    obtain ⟨n, p2, s2, e2, g2, -, -⟩ := next_some hb g1 (n := 30) (by omega)
    have hw : wrap64 (i + 1) = i + 1 := w64s (by omega) (by omega)
    by_cases n0 : n = 0
    · refine ⟨[] ++ xs.take i.toNat ++ xs.drop (i + 1).toNat, p2, s2, Ev.one (fun k => ?_), g2, ?_⟩
      · simp only [spec_l06Draw.j2]
        rw [if_pos c0, e1, Option.bind_some]; dsimp only
        rw [e2, Option.bind_some]; dsimp only
        rw [if_pos n0, Option.bind_some, if_pos i0, if_pos (by omega), Option.bind_some, if_pos (by simp; omega), Option.bind_some, hw, if_pos (by omega), if_pos (by omega), Option.bind_some, if_pos (by simp; omega)]
      · simp; omega
    · by_cases n1 : n = 1
      · refine ⟨xs ++ [(⟨(⟨(qr xs i).f0.f0, (qr xs i).f0.f1, (qr xs i).f0.f2, (qr xs i).f0.f3⟩ : S51), (⟨(qr xs i).f1.f0, (qr xs i).f1.f1⟩ : S53)⟩ : S55)], p2, s2, Ev.one (fun k => ?_), g2, ?_⟩
        · simp only [spec_l06Draw.j2]
          rw [if_pos c0, e1, Option.bind_some]; dsimp only
          rw [e2, Option.bind_some]; dsimp only
          rw [if_neg n0, if_pos n1, if_pos i0, if_pos i1, if_pos (by omega)]
        · simp; omega
      · by_cases n2 : n = 2
        · refine ⟨xs.set (i : Int).toNat (⟨(⟨(qr xs i).f0.f0, (qr xs i).f0.f1, (qr xs i).f0.f2, (qr xs i).f0.f3⟩ : S51), (⟨wrap64 (((qr xs i).f1.f0) + 1), (qr xs i).f1.f1⟩ : S53)⟩ : S55), p2, s2, Ev.one (fun k => ?_), g2, ?_⟩
          · simp only [spec_l06Draw.j2]
            rw [if_pos c0, e1, Option.bind_some]; dsimp only
            rw [e2, Option.bind_some]; dsimp only
            rw [if_neg n0, if_neg n1, if_pos n2, if_pos i0, if_pos i1]
          · simp; omega
        · refine ⟨xs, p2, s2, Ev.one (fun k => ?_), g2, by omega⟩
          simp only [spec_l06Draw.j2]
          rw [if_pos c0, e1, Option.bind_some]; dsimp only
          rw [e2, Option.bind_some]; dsimp only
          rw [if_neg n0, if_neg n1, if_neg n2]
  · refine ⟨xs, p, s, Ev.one (fun k => ?_), h, by omega⟩
    simp only [spec_l06Draw.j2]
    rw [if_neg c0]
theorem gdraw_j1 {l : List Int} (hb : Byt l) {fr a b c : Int} {p s : Int} (h : Src l p s) (xs : List S55) (hl : xs.length ≤ 768) (hf : xs ≠ [] → FL fr a b c) (hg : ∀ x ∈ xs, Good fr a b c x) :
    ∃ (r : List S55) (p' s' : Int), Ev (fun k => spec_l06Draw.j1 k fr xs l p s a b c) (fr, a, b, c, r, p', s') ∧ Src l p' s' ∧ r.length ≤ 769 := by
  by_cases c0 : (xs.length : Int) > 24
  · have hf := hf (fun e => by rw [e] at c0; simp at c0)
    obtain ⟨i, p1, s1, e1, g1, i0, i1⟩ := next_some hb h (n := (xs.length : Int)) (by omega)
    have i1 := i1 (by omega)
    have hi : i.toNat < xs.length := by omega
    have hrd : qr xs i = xs[i.toNat] := by unfold qr; simp [List.getD, hi]
    have gx : Good fr a b c (qr xs i) := by rw [hrd]; exact hg _ (List.getElem_mem hi)
    obtain ⟨o, ⟨K1, o1⟩, o2⟩ := close_own hf [qr xs i] (by simp) (fun x hx => by rw [List.mem_singleton.1 hx]; exact gx)
    obtain ⟨r, p', s', r1, r2, r3⟩ := gdraw_j2 hb fr a b c g1 o o2.len
    refine ⟨r, p', s', Ev.from' K1 (fun k hk => ?_) r1, r2, r3⟩
    have o1 : spec_l06Close.f k a b c [qr xs i] = some o := o1 k hk
    simp only [spec_l06Draw.j1]
    rw [if_pos c0, e1, Option.bind_some]; dsimp only
    rw [if_pos i0, if_pos i1, o1, Option.bind_some]
  · obtain ⟨r, p', s', r1, r2, r3⟩ := gdraw_j2 hb fr a b c h xs hl
    refine ⟨r, p', s', Ev.step (fun k => ?_) r1, r2, r3⟩
    simp only [spec_l06Draw.j1]
    rw [if_neg c0]
theorem gdraw_loop {l : List Int} (hb : Byt l) {fr a b c : Int} (hf : FL fr a b c) (d : Nat) : ∀ (n p s : Int) (xs : List S55), 0 ≤ n → n = d → xs.length + d ≤ 9 → Src l p s → (∀ x ∈ xs, Good fr a b c x) →
    ∃ (r : List S55) (p' s' : Int), Ev (fun k => spec_l06Draw.l0 k fr xs n l p s a b c) (fr, a, b, c, r, p', s') ∧ Src l p' s' ∧ r.length ≤ 769 := by
  induction d with
  | zero =>
    intro n p s xs h0 hd hx g hg
    obtain ⟨o, ⟨K1, o1⟩, o2⟩ := close_own hf xs (by omega) hg
    obtain ⟨r, p', s', r1, r2, r3⟩ := gdraw_j1 hb g o o2.len (fun _ => hf) o2.good
    refine ⟨r, p', s', Ev.from' K1 (fun k hk => ?_) r1, r2, r3⟩
    have o1 : spec_l06Close.f k a b c xs = some o := o1 k hk
    simp only [spec_l06Draw.l0]
    rw [if_neg (by omega), o1, Option.bind_some]
  | succ d ih =>
    intro n p s xs h0 hd hx g hg
    obtain ⟨m0, m1, m2, m3, x, y, p1, s1, ⟨K, e1⟩, g1, hx0, hy0, hm, -⟩ := motion_some hb fr a b c g
    have e1 : ∀ k, K ≤ k → spec_l06DrawMotion.f k l p s fr a b c = some (m0, m1, m2, m3, x, y, p1, s1) := e1
    have hw : wrap64 (n - 1) = n - 1 := w64s (by omega) (by omega)
    have hr : spec_l06Reduce.f a b c m0 m1 m2 m3 x y = some (m0, m1, m2, m3, (red a b c x y).1, (red a b c x y).2) := by
      unfold spec_l06Reduce.f
      rw [spec_reduce_eq (hf.2.mod4 (by omega) (by omega) (by omega) (by omega))]; rfl
    have gx : Good fr a b c (⟨⟨m0, m1, m2, m3⟩, ⟨(red a b c x y).1, (red a b c x y).2⟩⟩ : S55) := ⟨hm hf, red_idem hf.2.1 hf.2.2.2.1⟩
    obtain ⟨r, p', s', r1, r2, r3⟩ := ih (n - 1) p1 s1 (xs ++ [(⟨⟨m0, m1, m2, m3⟩, ⟨(red a b c x y).1, (red a b c x y).2⟩⟩ : S55)]) (by omega) (by omega) (by simp; omega) g1 (fun z hz => by
      rcases List.mem_append.1 hz with hz | hz
      · exact hg z hz
      · rw [List.mem_singleton.1 hz]; exact gx)
    refine ⟨r, p', s', Ev.from' K (fun k hk => ?_) r1, r2, r3⟩
    simp only [spec_l06Draw.l0]
    rw [if_pos (by omega), e1 k hk, Option.bind_some]; dsimp only
    rw [hr, Option.bind_some]; dsimp only
    rw [if_pos (by omega), hw]
theorem gdraw_some {l : List Int} (hb : Byt l) {p s : Int} (g : Src l p s) :
    ∃ (fr a b c : Int) (r : List S55) (p' s' : Int), Ev (fun k => spec_l06Draw.f k l p s) (fr, a, b, c, r, p', s') ∧ Src l p' s' ∧ r.length ≤ 769 := by
  obtain ⟨fr, a, b, c, p1, s1, e1, g1⟩ := flat_some hb g
  have q := spec_l04Code_eq fr a b c
  by_cases hf : FL fr a b c
  · obtain ⟨n, p2, s2, e2, g2, n0, n1⟩ := next_some hb g1 (n := 3) (by omega)
    have n1 := n1 (by omega)
    obtain ⟨r, p', s', ⟨K, r1⟩, r2, r3⟩ := gdraw_loop hb hf n.toNat n p2 s2 [] n0 (by omega) (by simp; omega) g2 (fun x hx => absurd hx List.not_mem_nil)
    refine ⟨fr, a, b, c, r, p', s', ⟨K, fun k hk => ?_⟩, r2, r3⟩
    have r1 : spec_l06Draw.l0 k fr [] n l p2 s2 a b c = some (fr, a, b, c, r, p', s') := r1 k hk
    show spec_l06Draw.f k l p s = _
    unfold spec_l06Draw.f
    rw [e1, Option.bind_some]; dsimp only
    rw [Option.bind_some, q, if_pos hf, Option.bind_some, if_pos rfl, e2, Option.bind_some]; dsimp only
    exact r1
  · obtain ⟨r, p', s', ⟨K, r1⟩, r2, r3⟩ := gdraw_j1 hb (fr := fr) (a := a) (b := b) (c := c) g1 [] (by simp) (fun h => absurd rfl h) (fun x hx => absurd hx List.not_mem_nil)
    refine ⟨fr, a, b, c, r, p', s', ⟨K, fun k hk => ?_⟩, r2, r3⟩
    have r1 : spec_l06Draw.j1 k fr [] l p1 s1 a b c = some (fr, a, b, c, r, p', s') := r1 k hk
    show spec_l06Draw.f k l p s = _
    unfold spec_l06Draw.f
    rw [e1, Option.bind_some]; dsimp only
    rw [Option.bind_some, q, if_neg hf, Option.bind_some, if_neg (by decide)]
    exact r1
theorem likeMats9_refl (xs : List S51) (hl : (xs.length : Int) ≤ 1048576) (d : Nat) : ∀ i : Nat, i ≤ xs.length → xs.length - i = d → Ev (fun k => laws_likeMats9.l0 k xs xs i) true := by
  induction d with
  | zero =>
    intro i hi hd
    refine Ev.one (fun k => ?_)
    simp only [laws_likeMats9.l0]; rw [if_neg (by omega)]
  | succ d ih =>
    intro i hi hd
    have hw : wrap64 ((i : Int) + 1) = ((i + 1 : Nat) : Int) := by rw [w64s (by omega) (by omega)]; omega
    refine Ev.step (fun k => ?_) (ih (i + 1) (by omega) (by omega))
    simp only [laws_likeMats9.l0]; rw [if_pos (by omega), if_pos (by omega), if_pos (by omega), if_neg (by simp), hw]
theorem likeMats9_eq (xs : List S51) (hl : (xs.length : Int) ≤ 1048576) : Ev (fun k => laws_likeMats9.f k xs xs) true := by
  obtain ⟨K, h⟩ := likeMats9_refl xs hl xs.length 0 (by omega) rfl
  refine ⟨K, fun k hk => ?_⟩
  show laws_likeMats9.f k xs xs = _
  unfold laws_likeMats9.f
  rw [if_pos rfl]; exact h k hk
theorem likeVecs9_refl (xs : List S53) (hl : (xs.length : Int) ≤ 1048576) (d : Nat) : ∀ i : Nat, i ≤ xs.length → xs.length - i = d → Ev (fun k => laws_likeVecs9.l0 k xs xs i) true := by
  induction d with
  | zero =>
    intro i hi hd
    refine Ev.one (fun k => ?_)
    simp only [laws_likeVecs9.l0]; rw [if_neg (by omega)]
  | succ d ih =>
    intro i hi hd
    have hw : wrap64 ((i : Int) + 1) = ((i + 1 : Nat) : Int) := by rw [w64s (by omega) (by omega)]; omega
    refine Ev.step (fun k => ?_) (ih (i + 1) (by omega) (by omega))
    simp only [laws_likeVecs9.l0]; rw [if_pos (by omega), if_pos (by omega), if_pos (by omega), if_neg (by simp), hw]
theorem likeVecs9_eq (xs : List S53) (hl : (xs.length : Int) ≤ 1048576) : Ev (fun k => laws_likeVecs9.f k xs xs) true := by
  obtain ⟨K, h⟩ := likeVecs9_refl xs hl xs.length 0 (by omega) rfl
  refine ⟨K, fun k hk => ?_⟩
  show laws_likeVecs9.f k xs xs = _
  unfold laws_likeVecs9.f
  rw [if_pos rfl]; exact h k hk
end Go.Proofs.Ytedmadofpdkekaa.LA
