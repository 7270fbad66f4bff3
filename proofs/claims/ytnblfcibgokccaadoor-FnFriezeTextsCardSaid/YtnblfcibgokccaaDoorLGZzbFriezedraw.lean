/- Plain lemmas on drawn friezes and damaged texts: each draw is there. -/
import Derived.Test.YtnblfcibgokccaaDoorAid
import Derived.Test.YtnblfcibgokccaaDoorPGx0
import Derived.Test.YtnblfcibgokccaaDoorLGABasic
import Derived.Test.YtnblfcibgokccaaDoorLGGLattice
import Derived.Test.YtnblfcibgokccaaDoorLGYaDraw
import Derived.Test.YtnblfcibgokccaaDoorLGYbaLats
import Derived.Test.YtnblfcibgokccaaDoorLGZzaFill
import Derived.Test.YtnblfcibgokccaaDoorPGx0
import Derived.Test.YtnblfcibgokccaaDoorPGx4
import Derived.Test.YtnblfcibgokccaaDoorPGx5
import Derived.Test.YtnblfcibgokccaaDoorPGx6
import Derived.Test.YtnblfcibgokccaaDoorPGx7
namespace Go.Proofs.YtnblfcibgokccaaDoor.LG
open Go.RowKit Go.Proofs.YtnblfcibgokccaaDoor.PG Go.Proofs.YtnblfcibgokccaaDoorW.PrintWords Go.Proofs.YtnblfcibgokccaaDoorW.PrintLast Go.Proofs.YtnblfcibgokccaaDoor.Aid
set_option linter.unusedVariables false
set_option linter.unusedSimpArgs false

theorem l08At_some {h w : Int} {l : List Int} (hw : 1 ≤ w ∧ w ≤ 24) (hl : (l.length : Int) = h * w) (hb : h * w ≤ 1000) (x y : Int) (hx : 0 ≤ x ∧ x ≤ 100) (hy : 0 ≤ y ∧ y < h) : ∃ v, spec_l08At.f h w l x y = some v := by
  have t0 : 0 ≤ x % w := Int.emod_nonneg _ (by omega)
  have t1 : x % w < w := Int.emod_lt_of_pos _ (by omega)
  have hp := place_ok hw.1 hy.1 hy.2 t0 t1
  have e0 : 0 ≤ y * w := Int.mul_nonneg hy.1 (by omega)
  unfold spec_l08At.f
  rw [spec_mod_eq x hw.1 (by omega), Option.bind_some, w64s (x := y * w) (by omega) (by omega), w64s (by omega) (by omega), if_pos hp.1, if_pos (by omega)]
  exact ⟨_, rfl⟩
/-- A drawn frieze: how many cells it has. -/
def DrawnF (src : List Int) (r : Int × Int × List Int × Int × Int) : Prop := r.2.2.1.length ≤ 1000 ∧ Src src r.2.2.2.1 r.2.2.2.2
theorem draw_j5 {src : List Int} (hb : Byt src) {p s : Int} (hs : Src src p s) (h w : Int) (l : List Int) (h1 : 1 ≤ l.length) (h2 : l.length ≤ 1000) : ∃ r, Ev (fun k => spec_l08Draw.j5 k src p s h w l) r ∧ DrawnF src r := by
  obtain ⟨a, p1, s1, e1, g1, -, -⟩ := next_some hb hs (n := 60) (by omega)
  by_cases c0 : a = 0
  · obtain ⟨b, p2, s2, e2, g2, -⟩ := pick_mem hb g1 [(-1), 9, 10] (by decide) (by decide)
    refine ⟨(h, w, l.set (0 : Int).toNat b, p2, s2), Ev.one fun k => ?_, by show (l.set _ _).length ≤ 1000; rw [List.length_set]; exact h2, g2⟩
    show spec_l08Draw.j5 (k + 1) src p s h w l = _
    rw [spec_l08Draw.j5, e1, Option.bind_some]; dsimp only
    rw [if_pos c0, e2, Option.bind_some]; dsimp only
    rw [if_pos (by omega)]
  · by_cases c1 : a = 1
    · obtain ⟨b, p2, s2, e2, g2, -⟩ := pick_mem hb g1 [0, wrap64 (w + 1), 25] (by simp) (by simp)
      refine ⟨(h, b, l, p2, s2), Ev.one fun k => ?_, h2, g2⟩
      show spec_l08Draw.j5 (k + 1) src p s h w l = _
      rw [spec_l08Draw.j5, e1, Option.bind_some]; dsimp only
      rw [if_neg c0, if_pos c1, e2, Option.bind_some]
    · refine ⟨(h, w, l, p1, s1), Ev.one fun k => ?_, h2, g1⟩
      show spec_l08Draw.j5 (k + 1) src p s h w l = _
      rw [spec_l08Draw.j5, e1, Option.bind_some]; dsimp only
      rw [if_neg c0, if_neg c1]
theorem draw_l2 (src : List Int) (p s : Int) {h w : Int} {l : List Int} (hw : 1 ≤ w ∧ w ≤ 12) (hl : (l.length : Int) = h * w) (hb : h * w ≤ 100) (y : Nat) (hy : (y : Int) < h) (hy2 : y ≤ 100) (W : Int) (hW : W = 2 * w) (z : Int) : ∀ (d x : Nat) (acc : List Int), ((x + d : Nat) : Int) = W → acc.length + d ≤ 2000 → ∃ acc', acc'.length = acc.length + d ∧
    ∀ r, Ev (fun k => spec_l08Draw.l1 k ((y + 1 : Nat) : Int) src p s h w l z W acc') r → Ev (fun k => spec_l08Draw.l2 k (y : Int) (x : Int) src p s h w l z W acc) r := by
  intro d
  induction d with
  | zero =>
    intro x acc hx ha
    refine ⟨acc, rfl, fun r e => Ev.from' 0 (fun k _ => ?_) e⟩
    show spec_l08Draw.l2 (k + 1) (y : Int) (x : Int) src p s h w l z W acc = _
    rw [spec_l08Draw.l2, if_neg (by omega), w64s (by omega) (by omega)]
    rfl
  | succ d ih =>
    intro x acc hx ha
    obtain ⟨v, hv⟩ := l08At_some (h := h) (w := w) (l := l) (by omega) hl (by omega) (x : Int) (y : Int) (by omega) (by omega)
    obtain ⟨acc', a1, a2⟩ := ih (x + 1) (acc ++ [v]) (by omega) (by simp; omega)
    refine ⟨acc', by rw [a1]; simp; omega, fun r e => Ev.from' 0 (fun k _ => ?_) (a2 r e)⟩
    show spec_l08Draw.l2 (k + 1) (y : Int) (x : Int) src p s h w l z W acc = _
    rw [spec_l08Draw.l2, if_pos (by omega), hv, Option.bind_some]
    rw [if_pos (by omega), w64s (by omega) (by omega)]
    rfl
theorem draw_l1 (src : List Int) (p s : Int) {h w : Int} {l : List Int} (hh : 1 ≤ h ∧ h ≤ 6) (hw : 1 ≤ w ∧ w ≤ 12) (hl : (l.length : Int) = h * w) (hb : h * w ≤ 100) (n : Nat) (hn : (n : Int) = 2 * w) (z : Int) : ∀ (d y : Nat) (acc : List Int), ((y + d : Nat) : Int) = h → acc.length + d * n ≤ 1000 → 1 ≤ acc.length + d → ∃ acc', 1 ≤ acc'.length ∧ acc'.length ≤ 1000 ∧
    ∀ r, Ev (fun k => spec_l08Draw.j5 k src p s z (n : Int) acc') r → Ev (fun k => spec_l08Draw.l1 k (y : Int) src p s h w l z (n : Int) acc) r := by
  intro d
  induction d with
  | zero =>
    intro y acc hy ha h1
    refine ⟨acc, by omega, by omega, fun r e => Ev.from' 0 (fun k _ => ?_) e⟩
    show spec_l08Draw.l1 (k + 1) (y : Int) src p s h w l z (n : Int) acc = _
    rw [spec_l08Draw.l1, if_neg (by omega)]
  | succ d ih =>
    intro y acc hy ha h1
    have e1 : (d + 1) * n = d * n + n := Nat.succ_mul d n
    obtain ⟨b, b1, b2⟩ := draw_l2 src p s hw hl hb y (by omega) (by omega) (n : Int) hn z n 0 acc (by omega) (by omega)
    obtain ⟨acc', a1, a2, a3⟩ := ih (y + 1) b (by omega) (by omega) (by omega)
    refine ⟨acc', a1, a2, fun r e => Ev.from' 0 (fun k _ => ?_) (b2 r (a3 r e))⟩
    show spec_l08Draw.l1 (k + 1) (y : Int) src p s h w l z (n : Int) acc = _
    rw [spec_l08Draw.l1, if_pos (by omega)]
    rfl
theorem draw_j1 {src : List Int} (hb : Byt src) {p s : Int} (hs : Src src p s) {h w : Int} {l : List Int} (hh : 1 ≤ h ∧ h ≤ 4) (hw : 1 ≤ w ∧ w ≤ 12) (hl : (l.length : Int) = h * w) : ∃ r, Ev (fun k => spec_l08Draw.j1 k src p s h w l) r ∧ DrawnF src r := by
  obtain ⟨a, p1, s1, e1, g1, -, -⟩ := next_some hb hs (n := 5) (by omega)
  have b1 : 1 * 1 ≤ h * w := Int.mul_le_mul hh.1 hw.1 (by omega) (by omega)
  have b2 : h * w ≤ 4 * 12 := Int.mul_le_mul hh.2 hw.2 (by omega) (by omega)
  by_cases c0 : a = 0
  · have hw12 : decide (w ≤ 12) = true := decide_eq_true hw.2
    obtain ⟨m, hm⟩ := Int.eq_ofNat_of_zero_le (show 0 ≤ h by omega)
    obtain ⟨n, hn⟩ := Int.eq_ofNat_of_zero_le (show 0 ≤ 2 * w by omega)
    have hmn : m * n ≤ 4 * 24 := Nat.mul_le_mul (by omega) (by omega)
    obtain ⟨acc, a1, a2, a3⟩ := draw_l1 src p1 s1 (h := h) (w := w) (l := l) (by omega) hw hl (by omega) n hn.symm h m 0 [] (by omega) (by simp; omega) (by simp; omega)
    obtain ⟨r, r1, r2⟩ := draw_j5 hb g1 h (n : Int) acc a1 a2
    refine ⟨r, Ev.from' 0 (fun k _ => ?_) (Ev.from' (f := fun k => spec_l08Draw.l1 k ((0 : Nat) : Int) src p1 s1 h w l h (n : Int) []) (g := fun k => spec_l08Draw.j2 k true src p1 s1 h w l) 0 (fun k _ => ?_) (a3 r r1)), r2⟩
    · show spec_l08Draw.j1 (k + 1) src p s h w l = spec_l08Draw.j2 k true src p1 s1 h w l
      rw [spec_l08Draw.j1, e1, Option.bind_some]; dsimp only
      rw [if_pos c0, hw12]
    · show spec_l08Draw.j2 (k + 1) true src p1 s1 h w l = _
      rw [spec_l08Draw.j2, if_pos rfl, w64s (x := 2 * w) (by omega) (by omega), hn]
      rfl
  · obtain ⟨r, r1, r2⟩ := draw_j5 hb g1 h w l (by omega) (by omega)
    refine ⟨r, Ev.from' 0 (fun k _ => ?_) (Ev.from' (f := fun k => spec_l08Draw.j5 k src p1 s1 h w l) (g := fun k => spec_l08Draw.j2 k false src p1 s1 h w l) 0 (fun k _ => ?_) r1), r2⟩
    · show spec_l08Draw.j1 (k + 1) src p s h w l = spec_l08Draw.j2 k false src p1 s1 h w l
      rw [spec_l08Draw.j1, e1, Option.bind_some]; dsimp only
      rw [if_neg c0]
    · show spec_l08Draw.j2 (k + 1) false src p1 s1 h w l = _
      rw [spec_l08Draw.j2, if_neg (by decide)]
theorem draw_fname {src : List Int} (hb : Byt src) {p s : Int} (hs : Src src p s) : ∃ n p' s', spec_l08DrawName.f src p s = some (n, p', s') ∧ Src src p' s' := by
  obtain ⟨a, p1, s1, e1, g1, -, -⟩ := next_some hb hs (n := 30) (by omega)
  unfold spec_l08DrawName.f
  rw [e1, Option.bind_some]; dsimp only
  by_cases c0 : a = 0
  · rw [if_pos c0]; exact ⟨_, _, _, rfl, g1⟩
  · rw [if_neg c0, Option.bind_some]
    obtain ⟨b, p2, s2, e2, g2, b0, b1⟩ := next_some hb g1 (n := 7) (by omega)
    rw [e2, Option.bind_some]; dsimp only
    rw [if_pos b0, if_pos (by have := b1 (by omega); simpa using this)]
    exact ⟨_, _, _, rfl, g2⟩
theorem draw_l0 {src : List Int} (hb : Byt src) (x4 : Int) (hx4 : x4 ≤ 1000) {h w : Int} (hh : 1 ≤ h ∧ h ≤ 4) (hw : 1 ≤ w ∧ w ≤ 12) (n : Nat) (hn : (n : Int) = h * w) : ∀ (d : Nat) (p s : Int) (acc : List Int), Src src p s → acc.length + d = n → ∃ r, Ev (fun k => spec_l08Draw.l0 k x4 (d : Int) src p s h w acc) r ∧ DrawnF src r := by
  have b2 : h * w ≤ 4 * 12 := Int.mul_le_mul hh.2 hw.2 (by omega) (by omega)
  intro d
  induction d with
  | zero =>
    intro p s acc hs ha
    have hl : (acc.length : Int) = h * w := by omega
    obtain ⟨a, p1, s1, e1, g1, -, -⟩ := next_some hb hs (n := 4) (by omega)
    by_cases c0 : a > 0
    · obtain ⟨nm, p2, s2, e2, g2⟩ := draw_fname hb g1
      obtain ⟨h', w', l', e, E1, E2⟩ := fill_some h w acc nm (by omega)
      by_cases c1 : e = 0
      · obtain ⟨q1, q2, q3⟩ := E2 c1
        subst q1 q2
        obtain ⟨r, r1, r2⟩ := draw_j1 hb g2 (h := h') (w := w') (l := l') hh hw (by omega)
        obtain ⟨K1, H1⟩ := E1
        obtain ⟨K2, H2⟩ := r1
        refine ⟨r, ⟨K1 + K2 + 1, fun k hk => ?_⟩, r2⟩
        obtain ⟨k, rfl⟩ : ∃ m, k = m + 1 := ⟨k - 1, by omega⟩
        have H1 : spec_FillFrieze.f k h' w' acc nm = some (h', w', l', e) := H1 k (by omega)
        have H2 : spec_l08Draw.j1 k src p2 s2 h' w' l' = some r := H2 k (by omega)
        show spec_l08Draw.l0 (k + 1) x4 ((0 : Nat) : Int) src p s h' w' acc = _
        rw [spec_l08Draw.l0, if_neg (by decide), e1, Option.bind_some]; dsimp only
        rw [if_pos c0, e2, Option.bind_some]; dsimp only
        rw [H1, Option.bind_some]; dsimp only
        rw [if_pos c1, H2]
      · obtain ⟨r, r1, r2⟩ := draw_j1 hb g2 (h := h) (w := w) (l := acc) hh hw hl
        obtain ⟨K1, H1⟩ := E1
        obtain ⟨K2, H2⟩ := r1
        refine ⟨r, ⟨K1 + K2 + 1, fun k hk => ?_⟩, r2⟩
        obtain ⟨k, rfl⟩ : ∃ m, k = m + 1 := ⟨k - 1, by omega⟩
        have H1 : spec_FillFrieze.f k h w acc nm = some (h', w', l', e) := H1 k (by omega)
        have H2 : spec_l08Draw.j1 k src p2 s2 h w acc = some r := H2 k (by omega)
        show spec_l08Draw.l0 (k + 1) x4 ((0 : Nat) : Int) src p s h w acc = _
        rw [spec_l08Draw.l0, if_neg (by decide), e1, Option.bind_some]; dsimp only
        rw [if_pos c0, e2, Option.bind_some]; dsimp only
        rw [H1, Option.bind_some]; dsimp only
        rw [if_neg c1, H2]
    · obtain ⟨r, r1, r2⟩ := draw_j1 hb g1 (h := h) (w := w) (l := acc) hh hw hl
      refine ⟨r, Ev.from' 0 (fun k _ => ?_) r1, r2⟩
      show spec_l08Draw.l0 (k + 1) x4 ((0 : Nat) : Int) src p s h w acc = _
      rw [spec_l08Draw.l0, if_neg (by decide), e1, Option.bind_some]; dsimp only
      rw [if_neg c0]
  | succ d ih =>
    intro p s acc hs ha
    obtain ⟨a, p1, s1, e1, g1, -, -⟩ := next_some hb hs (n := x4) (by omega)
    obtain ⟨r, r1, r2⟩ := ih p1 s1 (acc ++ [a]) g1 (by simp; omega)
    refine ⟨r, Ev.from' 0 (fun k _ => ?_) r1, r2⟩
    show spec_l08Draw.l0 (k + 1) x4 ((d + 1 : Nat) : Int) src p s h w acc = _
    rw [spec_l08Draw.l0, if_pos (by omega), e1, Option.bind_some]; dsimp only
    rw [if_pos (by omega), w64s (by omega) (by omega), show (((d + 1 : Nat) : Int) - 1) = (d : Int) by omega]
theorem draw_frieze {src : List Int} (hb : Byt src) {p s : Int} (hs : Src src p s) : ∃ r, Ev (fun k => spec_l08Draw.f k src p s) r ∧ DrawnF src r := by
  obtain ⟨a, p1, s1, e1, g1, a0, a1⟩ := next_some hb hs (n := 4) (by omega)
  obtain ⟨b, p2, s2, e2, g2, b0, b1⟩ := next_some hb g1 (n := 12) (by omega)
  obtain ⟨c, p3, s3, e3, g3, c0, c1⟩ := next_some hb g2 (n := 5) (by omega)
  have a1 := a1 (by omega)
  have b1 := b1 (by omega)
  have c1 := c1 (by omega)
  obtain ⟨w, p4, s4, e4, g4, w0⟩ := pick_mem hb g3 [wrap64 (1 + b), wrap64 (2 + (wrap64 (2 * c)))] (by simp) (by simp)
  obtain ⟨m, p5, s5, e5, g5, m0, m1⟩ := next_some hb g4 (n := 3) (by omega)
  have m1 := m1 (by omega)
  have hw : 1 ≤ w ∧ w ≤ 12 := by
    rw [w64s (x := 1 + b) (by omega) (by omega), w64s (x := 2 * c) (by omega) (by omega), w64s (x := 2 + 2 * c) (by omega) (by omega)] at w0
    simp at w0
    omega
  have hh : 1 ≤ 1 + a ∧ 1 + a ≤ 4 := by omega
  have q1 : 1 * 1 ≤ (1 + a) * w := Int.mul_le_mul hh.1 hw.1 (by omega) (by omega)
  have q2 : (1 + a) * w ≤ 4 * 12 := Int.mul_le_mul hh.2 hw.2 (by omega) (by omega)
  obtain ⟨n, hn⟩ := Int.eq_ofNat_of_zero_le (show 0 ≤ (1 + a) * w by omega)
  obtain ⟨r, r1, r2⟩ := draw_l0 hb (2 + m) (by omega) hh hw n hn.symm n p5 s5 [] g5 (by simp)
  obtain ⟨K, hK⟩ := r1
  refine ⟨r, ⟨K, fun k hk => ?_⟩, r2⟩
  have hK : spec_l08Draw.l0 k (2 + m) (n : Int) src p5 s5 (1 + a) w [] = some r := hK k hk
  show spec_l08Draw.f k src p s = _
  unfold spec_l08Draw.f
  rw [e1, Option.bind_some]; dsimp only
  rw [e2, Option.bind_some]; dsimp only
  rw [e3, Option.bind_some]; dsimp only
  rw [e4, Option.bind_some]; dsimp only
  rw [e5, Option.bind_some]; dsimp only
  rw [w64s (x := 2 + m) (by omega) (by omega), w64s (x := 1 + a) (by omega) (by omega), w64s (x := (1 + a) * w) (by omega) (by omega), hn]
  exact hK
theorem damage_some {src : List Int} (hb : Byt src) {p s : Int} (hs : Src src p s) (t : ByteArray) (ht : t.size ≤ 1000000) : ∃ u p' s', spec_l01Damage.f src p s t = some (u, p', s') ∧ Src src p' s' ∧ u.size ≤ t.size + 1 := by
  have hsz : ∀ a b : Nat, (t.extract a b).size ≤ t.size := fun a b => by rw [ByteArray.size_extract]; omega
  have h9 : wrap64 ((t.size : Int) + 1) = (t.size : Int) + 1 := w64s (by omega) (by omega)
  obtain ⟨a, p1, s1, e1, g1, a0, a1⟩ := next_some hb hs (n := (t.size : Int) + 1) (by omega)
  have a1 := a1 (by omega)
  obtain ⟨b, p2, s2, e2, g2, -, -⟩ := next_some hb g1 (n := 8) (by omega)
  unfold spec_l01Damage.f
  rw [h9, e1, Option.bind_some]; dsimp only
  rw [e2, Option.bind_some]; dsimp only
  by_cases c0 : b = 0
  · rw [if_pos c0, if_pos a0, if_pos (by omega)]
    exact ⟨_, _, _, rfl, g2, by have := hsz 0 a.toNat; omega⟩
  · rw [if_neg c0]
    by_cases c1 : b = 1
    · rw [if_pos c1, if_pos a0, if_pos (by omega), Option.bind_some]
      obtain ⟨c, p3, s3, e3, g3, c0', c1'⟩ := next_some hb g2 (n := 8) (by omega)
      have c1' := c1' (by omega)
      rw [e3, Option.bind_some]; dsimp only
      rw [if_pos c0', if_pos (by simpa using c1')]
      have h1 : (rdOf ByteArray.empty ([⟨#[48]⟩, ⟨#[49]⟩, ⟨#[32]⟩, ⟨#[45]⟩, ⟨#[44]⟩, ⟨#[59]⟩, ⟨#[10]⟩, ⟨#[97]⟩] : List ByteArray) c).size = 1 := by
        have : c = 0 ∨ c = 1 ∨ c = 2 ∨ c = 3 ∨ c = 4 ∨ c = 5 ∨ c = 6 ∨ c = 7 := by omega
        rcases this with rfl | rfl | rfl | rfl | rfl | rfl | rfl | rfl <;> rfl
      have s1' : (t.extract 0 a.toNat).size = a.toNat := by rw [ByteArray.size_extract]; omega
      have s2' : (t.extract a.toNat t.size).size = t.size - a.toNat := by rw [ByteArray.size_extract]; omega
      rw [if_pos (by omega), if_pos (by rw [ByteArray.size_append]; omega)]
      exact ⟨_, _, _, rfl, g3, by rw [ByteArray.size_append, ByteArray.size_append]; omega⟩
    · rw [if_neg c1]
      by_cases c2 : b = 2
      · rw [if_pos c2]
        by_cases c3 : a < (t.size : Int)
        · have h8 : wrap64 (a + 1) = a + 1 := w64s (by omega) (by omega)
          have s1' : (t.extract 0 a.toNat).size = a.toNat := by rw [ByteArray.size_extract]; omega
          have s2' : (t.extract (a + 1).toNat t.size).size ≤ t.size := hsz _ _
          have s3' : (t.extract (a + 1).toNat t.size).size = t.size - (a + 1).toNat := by rw [ByteArray.size_extract]; omega
          rw [h8, if_pos c3, if_pos a0, if_pos (by omega), if_pos (by omega), if_pos (by omega), if_pos (by omega)]
          exact ⟨_, _, _, rfl, g2, by rw [ByteArray.size_append]; omega⟩
        · rw [if_neg c3]; exact ⟨_, _, _, rfl, g2, by omega⟩
      · rw [if_neg c2]; exact ⟨_, _, _, rfl, g2, by omega⟩

end Go.Proofs.YtnblfcibgokccaaDoor.LG
