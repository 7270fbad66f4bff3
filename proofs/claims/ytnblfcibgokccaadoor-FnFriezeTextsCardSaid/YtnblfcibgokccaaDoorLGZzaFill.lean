/- Plain lemmas on the filled frieze of the reference: that it ends, and how many cells it has. -/
import Derived.Test.YtnblfcibgokccaaDoorAid
import Derived.Test.YtnblfcibgokccaaDoorPGx0
import Derived.Test.YtnblfcibgokccaaDoorLGABasic
import Derived.Test.YtnblfcibgokccaaDoorLGGLattice
import Derived.Test.YtnblfcibgokccaaDoorLGZwReadfrieze
import Derived.Test.YtnblfcibgokccaaDoorPGx0
import Derived.Test.YtnblfcibgokccaaDoorPGx1
import Derived.Test.YtnblfcibgokccaaDoorPGx2
import Derived.Test.YtnblfcibgokccaaDoorPGx3
import Derived.Test.YtnblfcibgokccaaDoorPGx4
namespace Go.Proofs.YtnblfcibgokccaaDoor.LG
open Go.RowKit Go.Proofs.YtnblfcibgokccaaDoor.PG Go.Proofs.YtnblfcibgokccaaDoorW.PrintWords Go.Proofs.YtnblfcibgokccaaDoorW.PrintLast Go.Proofs.YtnblfcibgokccaaDoor.Aid
set_option linter.unusedVariables false
set_option linter.unusedSimpArgs false

/-- All entries are places of so many cells. -/
def InP (n : Nat) (F : List Int) : Prop := F.length = n ∧ ∀ x ∈ F, 0 ≤ x ∧ x < n
def lsum (F : List Int) : Int := F.foldr (· + ·) 0
theorem lsum_set : ∀ (F : List Int) (i : Nat) (v : Int) (h : i < F.length), lsum (F.set i v) = lsum F - F[i] + v
  | x :: F, 0, v, _ => by simp only [lsum, List.set_cons_zero, List.foldr_cons, List.getElem_cons_zero]; omega
  | x :: F, i + 1, v, h => by
    have ih := lsum_set F i v (by simpa using h)
    simp only [lsum, List.set_cons_succ, List.foldr_cons, List.getElem_cons_succ] at ih ⊢
    omega
theorem lsum_nonneg : ∀ (F : List Int), (∀ x ∈ F, 0 ≤ x) → 0 ≤ lsum F
  | [], _ => Int.le_refl _
  | x :: F, h => by
    have h1 := h x (by simp)
    have ih := lsum_nonneg F (fun y hy => h y (by simp [hy]))
    simp only [lsum, List.foldr_cons] at ih ⊢
    omega
theorem InP.set {n : Nat} {F : List Int} (h : InP n F) (i : Nat) {v : Int} (h0 : 0 ≤ v) (h1 : v < n) : InP n (F.set i v) := by
  refine ⟨by rw [List.length_set]; exact h.1, fun x hx => ?_⟩
  rcases List.mem_or_eq_of_mem_set hx with hx | rfl
  · exact h.2 x hx
  · exact ⟨h0, h1⟩
theorem rdF (F : List Int) (i : Int) (h0 : 0 ≤ i) (h1 : i.toNat < F.length) : rd F i = F[i.toNat] := by unfold rd; simp [List.getD, h1]
theorem fillz_step {n : Nat} {F : List Int} (h : InP n F) {j : Int} (i : Nat) (hi : i < n) (j0 : 0 ≤ j) (j1 : j < n) :
    InP n ((F.set j.toNat (mn (rd F j) (rd F (i : Int)))).set (i : Int).toNat (mn (rd F j) (rd F (i : Int)))) ∧ lsum ((F.set j.toNat (mn (rd F j) (rd F (i : Int)))).set (i : Int).toNat (mn (rd F j) (rd F (i : Int)))) ≤ lsum F ∧
    ((rd F j != rd F (i : Int)) = true → lsum ((F.set j.toNat (mn (rd F j) (rd F (i : Int)))).set (i : Int).toNat (mn (rd F j) (rd F (i : Int)))) < lsum F) := by
  have hj : j.toNat < F.length := by rw [h.1]; omega
  have hi' : i < F.length := by rw [h.1]; exact hi
  have r1 := rdF F j j0 hj
  have r2 := rdF F (i : Int) (by omega) (by simpa using hi')
  have b1 := h.2 _ (List.getElem_mem hj)
  have b2 := h.2 _ (List.getElem_mem (show (i : Int).toNat < F.length by simpa using hi'))
  rw [r1, r2]
  generalize hA : F[j.toNat] = A at *
  generalize hB : F[(i : Int).toNat] = B at *
  have hm : mn A B ≤ A ∧ mn A B ≤ B ∧ (mn A B = A ∨ mn A B = B) := by unfold mn; split <;> omega
  generalize mn A B = M at *
  have hs : lsum ((F.set j.toNat M).set (i : Int).toNat M) = lsum (F.set j.toNat M) - (F.set j.toNat M)[(i : Int).toNat]'(by rw [List.length_set]; simpa using hi') + M := lsum_set _ _ _ _
  have hs1 : lsum (F.set j.toNat M) = lsum F - A + M := by rw [lsum_set F j.toNat M hj, hA]
  refine ⟨(h.set _ (by omega) (by omega)).set _ (by omega) (by omega), ?_⟩
  rw [hs, hs1, List.getElem_set]
  by_cases e : j.toNat = (i : Int).toNat
  · rw [if_pos e]
    have hAB : A = B := by
      subst hA; subst hB
      simp only [e]
    refine ⟨by omega, fun hne => ?_⟩
    rw [bne_iff_ne] at hne
    exact absurd hAB hne
  · rw [if_neg e, hB]
    refine ⟨by omega, fun hne => ?_⟩
    rw [bne_iff_ne] at hne
    omega
theorem image_ok (h w : Int) (l : List Int) (b0 b1 : Bool) (s x y : Int) (hh : 1 ≤ h ∧ h ≤ 6) (hs : 0 ≤ s ∧ s ≤ 24) (hx : 0 ≤ x ∧ x < 24) (hy : 0 ≤ y ∧ y < h) :
    ∃ a b, spec_l08Image.f h w l b0 b1 s x y = some (a, b) ∧ (-100 ≤ a ∧ a ≤ 100) ∧ 0 ≤ b ∧ b < h := by
  unfold spec_l08Image.f
  have w1 : wrap64 (-x) = -x := w64s (by omega) (by omega)
  have w2 : wrap64 (s + -x) = s + -x := w64s (by omega) (by omega)
  have w3 : wrap64 (s + x) = s + x := w64s (by omega) (by omega)
  have w4 : wrap64 (h - 1) = h - 1 := w64s (by omega) (by omega)
  have w5 : wrap64 (h - 1 - y) = h - 1 - y := w64s (by omega) (by omega)
  rw [w1, w2, w3, w4, w5]
  cases b0 <;> cases b1
  · exact ⟨_, _, rfl, by omega, by omega⟩
  · exact ⟨_, _, rfl, by omega, by omega⟩
  · exact ⟨_, _, rfl, by omega, by omega⟩
  · exact ⟨_, _, rfl, by omega, by omega⟩
theorem place_ok {h w b t : Int} (hw : 1 ≤ w) (h0 : 0 ≤ b) (h1 : b < h) (t0 : 0 ≤ t) (t1 : t < w) : 0 ≤ b * w + t ∧ b * w + t < h * w := by
  have e1 : (b + 1) * w ≤ h * w := Int.mul_le_mul_of_nonneg_right (by omega) (by omega)
  have e2 : (b + 1) * w = b * w + w := by rw [Int.add_mul, Int.one_mul]
  have e3 : 0 ≤ b * w := Int.mul_nonneg h0 (by omega)
  omega
theorem fill_l3 (h w : Int) (l : List Int) (ms : List S84) (hh : 1 ≤ h ∧ h ≤ 6) (hw : 1 ≤ w ∧ w ≤ 24) (n : Nat) (hn : (n : Int) = h * w) (hms : ∀ m ∈ ms, 0 ≤ m.f2 ∧ m.f2 ≤ 24) (hml : ms.length ≤ 10) (i : Nat) (hi : i < n) :
    ∀ (d j : Nat) (F : List Int) (c : Bool), j + d = ms.length → InP n F → ∃ F' c', InP n F' ∧ lsum F' ≤ lsum F ∧ (c' = true → c = true ∨ lsum F' < lsum F) ∧
      ∀ r, Ev (fun k => spec_FillFrieze.l2 k ms F' c' ((i + 1 : Nat) : Int) h w l) r → Ev (fun k => spec_FillFrieze.l3 k ms F c (i : Int) (j : Int) h w l) r := by
  have hn144 : (n : Int) ≤ 144 := by
    rw [hn]
    have : h * w ≤ 6 * 24 := Int.mul_le_mul hh.2 hw.2 (by omega) (by omega)
    omega
  intro d
  induction d with
  | zero =>
    intro j F c hj hF
    refine ⟨F, c, hF, Int.le_refl _, fun hc => .inl hc, fun r e => Ev.from' 0 (fun k _ => ?_) e⟩
    show spec_FillFrieze.l3 (k + 1) ms F c (i : Int) (j : Int) h w l = _
    rw [spec_FillFrieze.l3, if_neg (by omega), w64s (by omega) (by omega)]
    rfl
  | succ d ih =>
    intro j F c hj hF
    have hjl : j < ms.length := by omega
    have hm := hms _ (List.getElem_mem hjl)
    have hrd : rd_T84 ms (j : Int) = ms[j] := by unfold rd_T84; rw [Int.toNat_natCast]; simp [List.getD, hjl]
    have x1 : 0 ≤ Int.tmod (i : Int) w ∧ Int.tmod (i : Int) w < w := ⟨Int.tmod_nonneg _ (by omega), Int.tmod_lt_of_pos _ (by omega)⟩
    have y0 : Int.tdiv (i : Int) w = (i : Int) / w := Int.tdiv_eq_ediv_of_nonneg (by omega)
    have y1 : 0 ≤ (i : Int) / w ∧ (i : Int) / w < h := ⟨Int.ediv_nonneg (by omega) (by omega), Int.ediv_lt_of_lt_mul (by omega) (by rw [← hn]; omega)⟩
    obtain ⟨a, b, e1, e2, e3, e4⟩ := image_ok h w l ms[j].f0 ms[j].f1 ms[j].f2 (Int.tmod (i : Int) w) ((i : Int) / w) hh hm (by omega) y1
    have hmod : spec_l01Mod.f a w = some (a % w) := spec_mod_eq a hw.1 (by omega)
    have t0 : 0 ≤ a % w := Int.emod_nonneg _ (by omega)
    have t1 : a % w < w := Int.emod_lt_of_pos _ (by omega)
    have hp := place_ok hw.1 e3 e4 t0 t1
    rw [← hn] at hp
    have bw0 : 0 ≤ b * w := Int.mul_nonneg e3 (by omega)
    have q1 : wrap64 (b * w) = b * w := w64s (by omega) (by omega)
    have q2 : wrap64 (b * w + a % w) = b * w + a % w := w64s (by omega) (by omega)
    obtain ⟨s1, s2, s3⟩ := fillz_step hF i hi hp.1 hp.2
    have hlen : (F.length : Int) = n := by rw [hF.1]
    obtain ⟨F', c', f1, f2, f3, f4⟩ := ih (j + 1) _ (if c = true then true else (rd F (b * w + a % w) != rd F (i : Int))) (by omega) s1
    refine ⟨F', c', f1, by omega, fun hc => ?_, fun r e => Ev.from' 0 (fun k _ => ?_) (f4 r e)⟩
    · rcases f3 hc with hc1 | hc1
      · by_cases hcc : c = true
        · exact .inl hcc
        · rw [if_neg hcc] at hc1
          have := s3 hc1
          exact .inr (by omega)
      · exact .inr (by omega)
    · show spec_FillFrieze.l3 (k + 1) ms F c (i : Int) (j : Int) h w l = _
      rw [spec_FillFrieze.l3, if_pos (by omega), if_pos (by omega), if_neg (by omega), hrd, y0, w64s (x := (i : Int) / w) (by omega) (by omega), e1, Option.bind_some]
      dsimp only
      rw [hmod, Option.bind_some, q1, q2, if_pos hp.1, if_pos (by omega), if_pos (by omega), if_pos (by omega), w64s (x := (j : Int) + 1) (by omega) (by omega)]
      cases c <;> rfl
theorem fill_l2 (h w : Int) (l : List Int) (ms : List S84) (hh : 1 ≤ h ∧ h ≤ 6) (hw : 1 ≤ w ∧ w ≤ 24) (n : Nat) (hn : (n : Int) = h * w) (hms : ∀ m ∈ ms, 0 ≤ m.f2 ∧ m.f2 ≤ 24) (hml : ms.length ≤ 10) :
    ∀ (d i : Nat) (F : List Int) (c : Bool), i + d = n → InP n F → ∃ F' c', InP n F' ∧ lsum F' ≤ lsum F ∧ (c' = true → c = true ∨ lsum F' < lsum F) ∧
      ∀ r, Ev (fun k => spec_FillFrieze.l1 k ms F' c' h w l) r → Ev (fun k => spec_FillFrieze.l2 k ms F c (i : Int) h w l) r := by
  intro d
  induction d with
  | zero =>
    intro i F c hi hF
    refine ⟨F, c, hF, Int.le_refl _, fun hc => .inl hc, fun r e => Ev.from' 0 (fun k _ => ?_) e⟩
    show spec_FillFrieze.l2 (k + 1) ms F c (i : Int) h w l = _
    rw [spec_FillFrieze.l2, if_neg (by rw [hF.1]; omega)]
  | succ d ih =>
    intro i F c hi hF
    obtain ⟨F1, c1, a1, a2, a3, a4⟩ := fill_l3 h w l ms hh hw n hn hms hml i (by omega) ms.length 0 F c (by omega) hF
    obtain ⟨F', c', b1, b2, b3, b4⟩ := ih (i + 1) F1 c1 (by omega) a1
    refine ⟨F', c', b1, by omega, fun hc => ?_, fun r e => Ev.from' 0 (fun k _ => ?_) (a4 r (b4 r e))⟩
    · rcases b3 hc with hc1 | hc1
      · rcases a3 hc1 with hc2 | hc2
        · exact .inl hc2
        · exact .inr (by omega)
      · exact .inr (by omega)
    · show spec_FillFrieze.l2 (k + 1) ms F c (i : Int) h w l = _
      rw [spec_FillFrieze.l2, if_pos (by rw [hF.1]; omega)]
      rfl
theorem fill_l1 (h w : Int) (l : List Int) (ms : List S84) (hh : 1 ≤ h ∧ h ≤ 6) (hw : 1 ≤ w ∧ w ≤ 24) (n : Nat) (hn : (n : Int) = h * w) (hms : ∀ m ∈ ms, 0 ≤ m.f2 ∧ m.f2 ≤ 24) (hml : ms.length ≤ 10) :
    ∀ (d : Nat) (F : List Int), lsum F ≤ d → InP n F → ∃ F', InP n F' ∧ ∀ r, Ev (fun k => spec_FillFrieze.l4 k F' 0 h w l h w []) r → Ev (fun k => spec_FillFrieze.l1 k ms F true h w l) r := by
  have go : ∀ (F : List Int) r, Ev (fun k => spec_FillFrieze.l4 k F 0 h w l h w []) r → Ev (fun k => spec_FillFrieze.l1 k ms F false h w l) r := fun F r e => Ev.from' 0 (fun k _ => by
    show spec_FillFrieze.l1 (k + 1) ms F false h w l = _
    rw [spec_FillFrieze.l1, if_neg (by decide)]) e
  have st : ∀ (F : List Int) r, Ev (fun k => spec_FillFrieze.l2 k ms F false ((0 : Nat) : Int) h w l) r → Ev (fun k => spec_FillFrieze.l1 k ms F true h w l) r := fun F r e => Ev.from' 0 (fun k _ => by
    show spec_FillFrieze.l1 (k + 1) ms F true h w l = _
    rw [spec_FillFrieze.l1, if_pos rfl]; rfl) e
  intro d
  induction d with
  | zero =>
    intro F hd hF
    obtain ⟨F1, c1, a1, a2, a3, a4⟩ := fill_l2 h w l ms hh hw n hn hms hml n 0 F false (by omega) hF
    have := lsum_nonneg F1 (fun x hx => (a1.2 x hx).1)
    cases c1 with
    | true =>
      rcases a3 rfl with h | h
      · cases h
      · omega
    | false => exact ⟨F1, a1, fun r e => st F r (a4 r (go F1 r e))⟩
  | succ d ih =>
    intro F hd hF
    obtain ⟨F1, c1, a1, a2, a3, a4⟩ := fill_l2 h w l ms hh hw n hn hms hml n 0 F false (by omega) hF
    cases c1 with
    | true =>
      rcases a3 rfl with h1 | h1
      · cases h1
      · obtain ⟨F', b1, b2⟩ := ih F1 (by omega) a1
        exact ⟨F', b1, fun r e => st F r (a4 r (b2 r e))⟩
    | false => exact ⟨F1, a1, fun r e => st F r (a4 r (go F1 r e))⟩
theorem fill_l4 (h w : Int) (l : List Int) (n : Nat) (hl : l.length = n) (hn : n ≤ 1000) (F : List Int) (hF : InP n F) : ∀ (d i : Nat) (acc : List Int), i + d = n → acc.length = i → ∃ out : List Int, out.length = n ∧ Ev (fun k => spec_FillFrieze.l4 k F (i : Int) h w l h w acc) (h, w, out, 0) := by
  intro d
  induction d with
  | zero =>
    intro i acc hi ha
    refine ⟨acc, by omega, Ev.one fun k => ?_⟩
    show spec_FillFrieze.l4 (k + 1) F (i : Int) h w l h w acc = _
    rw [spec_FillFrieze.l4, if_neg (by rw [hF.1]; omega)]
  | succ d ih =>
    intro i acc hi ha
    have hi' : (i : Int).toNat < F.length := by rw [hF.1]; simp; omega
    have r := rdF F (i : Int) (by omega) hi'
    have b := hF.2 _ (List.getElem_mem hi')
    rw [← r] at b
    obtain ⟨out, o1, o2⟩ := ih (i + 1) (acc ++ [rd l (rd F (i : Int))]) (by omega) (by simp [ha])
    refine ⟨out, o1, Ev.from' 0 (fun k _ => ?_) o2⟩
    show spec_FillFrieze.l4 (k + 1) F (i : Int) h w l h w acc = _
    rw [spec_FillFrieze.l4, if_pos (by rw [hF.1]; omega), if_pos (by omega), if_pos b.1, if_pos (by rw [hl]; exact b.2), if_pos (by omega), w64s (by omega) (by omega)]
    rfl
theorem fill_l0 (h w : Int) (l : List Int) (ms : List S84) (n : Nat) (hl : l.length = n) (hn : n ≤ 1000) : ∀ (d i : Nat) (acc : List Int), i + d = n → acc.length = i → (∀ x ∈ acc, 0 ≤ x ∧ x < n) → ∃ F, InP n F ∧
    ∀ r, Ev (fun k => spec_FillFrieze.l1 k ms F true h w l) r → Ev (fun k => spec_FillFrieze.l0 k ms acc (i : Int) h w l) r := by
  intro d
  induction d with
  | zero =>
    intro i acc hi ha hx
    refine ⟨acc, ⟨by omega, hx⟩, fun r e => Ev.from' 0 (fun k _ => ?_) e⟩
    show spec_FillFrieze.l0 (k + 1) ms acc (i : Int) h w l = _
    rw [spec_FillFrieze.l0, if_neg (by rw [hl]; omega)]
  | succ d ih =>
    intro i acc hi ha hx
    obtain ⟨F, f1, f2⟩ := ih (i + 1) (acc ++ [(i : Int)]) (by omega) (by simp [ha]) (fun x h => by
      rcases List.mem_append.1 h with h | h
      · exact hx x h
      · obtain rfl := List.mem_singleton.1 h
        omega)
    refine ⟨F, f1, fun r e => Ev.from' 0 (fun k _ => ?_) (f2 r e)⟩
    show spec_FillFrieze.l0 (k + 1) ms acc (i : Int) h w l = _
    rw [spec_FillFrieze.l0, if_pos (by rw [hl]; omega), if_pos (by omega), w64s (by omega) (by omega)]
    rfl
theorem motions_ok (name : ByteArray) (w : Int) (hw : 1 ≤ w ∧ w ≤ 24) : ∃ ms ok, spec_l08Motions.f name w = some (ms, ok) ∧ (∀ m ∈ ms, 0 ≤ m.f2 ∧ m.f2 ≤ 24) ∧ ms.length ≤ 10 := by
  have h2 : wrap64 (Int.tdiv w 2) = w / 2 := by rw [Int.tdiv_eq_ediv_of_nonneg (by omega), w64s (by omega) (by omega)]
  unfold spec_l08Motions.f
  rw [h2]
  have b : 0 ≤ w / 2 ∧ w / 2 ≤ 24 := by omega
  repeat' split
  all_goals refine ⟨_, _, rfl, fun m hm => ?_, by simp⟩
  all_goals simp only [List.mem_cons, List.not_mem_nil, or_false] at hm
  all_goals first | exact hm.elim | (subst hm; first | exact b | exact ⟨by decide, by decide⟩) | (rcases hm with rfl | rfl <;> first | exact b | exact ⟨by decide, by decide⟩)
/-- The reference's filled frieze: there is an answer, and a filled one has as many cells. -/
theorem fill_some (h w : Int) (l : List Int) (name : ByteArray) (hl : (l.length : Int) ≤ 1048576) : ∃ h' w' l' e, Ev (fun k => spec_FillFrieze.f k h w l name) (h', w', l', e) ∧ (e = 0 → h' = h ∧ w' = w ∧ l'.length = l.length) := by
  have hfm : ∃ ms ok, spec_l08Motions.f name w = some (ms, ok) := by
    unfold spec_l08Motions.f
    repeat' split
    all_goals exact ⟨_, _, rfl⟩
  by_cases hf : Frz h w l
  · obtain ⟨f1, f2, f3, f4⟩ := hf
    have hb := frz_mul f1 f2
    obtain ⟨ms, ok, m1, m2, m3⟩ := motions_ok name w f2
    obtain ⟨F0, z1, z2⟩ := fill_l0 h w l ms l.length rfl (by omega) l.length 0 [] (by omega) rfl (fun x hx => by cases hx)
    obtain ⟨F1, y1, y2⟩ := fill_l1 h w l ms f1 f2 l.length f3 m2 m3 (lsum F0).toNat F0 (by have := lsum_nonneg F0 (fun x hx => (z1.2 x hx).1); omega) z1
    obtain ⟨out, x1, x2⟩ := fill_l4 h w l l.length rfl (by omega) F1 y1 l.length 0 [] (by omega) rfl
    have hj : Ev (fun k => spec_FillFrieze.j0 k ms h w l) (h, w, out, 0) := Ev.from' 0 (fun k _ => by
      show spec_FillFrieze.j0 (k + 1) ms h w l = _
      rw [spec_FillFrieze.j0]; rfl) (z2 _ (y2 _ x2))
    obtain ⟨K, hK⟩ := hj
    have hK : ∀ k, K ≤ k → spec_FillFrieze.j0 k ms h w l = some (h, w, out, 0) := hK
    have hs : ∀ k, 2000000 < k → spec_IsFrieze.f k h w l = some true := fun k hk => by rw [spec_IsFrieze_eq h w l hl (by omega)]; simp [Frz, f1, f2, f3]; exact f4
    have key : ∀ k, 2000001 + K ≤ k → spec_FillFrieze.f k h w l name = (if ok = true then (if name.toList = ([112, 49, 49, 103] : List UInt8) then (if (Int.tmod w 2) = 1 then (some (0, 0, ([] : List Int), 5)) else some (h, w, out, 0)) else (if name.toList = ([112, 50, 109, 103] : List UInt8) then (if (Int.tmod w 2) = 1 then (some (0, 0, ([] : List Int), 5)) else some (h, w, out, 0)) else some (h, w, out, 0))) else (some (0, 0, ([] : List Int), 2))) := fun k hk => by
      unfold spec_FillFrieze.f
      rw [m1, Option.bind_some]
      dsimp only
      rw [hs k (by omega), Option.bind_some, if_pos rfl, hK k (by omega)]
    by_cases c1 : ok = true
    · by_cases c2 : Int.tmod w 2 = 1
      · by_cases c3 : name.toList = ([112, 49, 49, 103] : List UInt8) ∨ name.toList = ([112, 50, 109, 103] : List UInt8)
        · refine ⟨0, 0, [], 5, ⟨2000001 + K, fun k hk => ?_⟩, fun e => absurd e (by decide)⟩
          show spec_FillFrieze.f k h w l name = _
          rw [key k hk, if_pos c1]
          rcases c3 with c3 | c3
          · rw [if_pos c3, if_pos c2]
          · by_cases c4 : name.toList = ([112, 49, 49, 103] : List UInt8)
            · rw [if_pos c4, if_pos c2]
            · rw [if_neg c4, if_pos c3, if_pos c2]
        · refine ⟨h, w, out, 0, ⟨2000001 + K, fun k hk => ?_⟩, fun _ => ⟨rfl, rfl, x1⟩⟩
          show spec_FillFrieze.f k h w l name = _
          rw [key k hk, if_pos c1, if_neg (fun e => c3 (.inl e)), if_neg (fun e => c3 (.inr e))]
      · refine ⟨h, w, out, 0, ⟨2000001 + K, fun k hk => ?_⟩, fun _ => ⟨rfl, rfl, x1⟩⟩
        show spec_FillFrieze.f k h w l name = _
        rw [key k hk, if_pos c1, if_neg c2, ite_self, ite_self]
    · refine ⟨0, 0, [], 2, ⟨2000001 + K, fun k hk => ?_⟩, fun e => absurd e (by decide)⟩
      show spec_FillFrieze.f k h w l name = _
      rw [key k hk, if_neg c1]
  · obtain ⟨ms, ok, m1⟩ := hfm
    refine ⟨0, 0, [], 1, ⟨2000001, fun k hk => ?_⟩, fun e => absurd e (by decide)⟩
    show spec_FillFrieze.f k h w l name = _
    unfold spec_FillFrieze.f
    rw [m1, Option.bind_some]
    dsimp only
    rw [spec_IsFrieze_eq h w l hl (by omega)]
    simp [hf]

end Go.Proofs.YtnblfcibgokccaaDoor.LG
