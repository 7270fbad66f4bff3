import Derived.Test.YtedmadofpdkekaaAid
import Derived.Test.YtedmadofpdkekaaPAx0
import Derived.Test.YtedmadofpdkekaaLAABasic
import Derived.Test.YtedmadofpdkekaaLAOHermite
import Derived.Test.YtedmadofpdkekaaLAPPoints
import Derived.Test.YtedmadofpdkekaaLAYaDraw
import Derived.Test.YtedmadofpdkekaaPAx0
import Derived.Test.YtedmadofpdkekaaPAx5
import Derived.Test.YtedmadofpdkekaaPAx6
import Derived.Test.YtedmadofpdkekaaPAx7
import Derived.Test.YtedmadofpdkekaaPAx8
namespace Go.Proofs.Ytedmadofpdkekaa.LA
open Go.RowKit Go.Proofs.Ytedmadofpdkekaa.PA Go.Proofs.YtedmadofpdkekaaW.PrintWords Go.Proofs.YtedmadofpdkekaaW.PrintLast Go.Proofs.Ytedmadofpdkekaa.Aid
set_option linter.unusedVariables false
set_option linter.unusedSimpArgs false
theorem pick_some {l : List Int} (hb : Byt l) {p s : Int} (h : Src l p s) (L : List Int) (h1 : 1 ≤ (L.length : Int)) (h2 : (L.length : Int) ≤ 1000) : ∃ r p' s', spec_l01Pick.f l p s L = some (r, p', s') ∧ Src l p' s' := by
  obtain ⟨r, p1, s1, e1, g1, r0, r1⟩ := next_some hb h (n := (L.length : Int)) (by omega)
  unfold spec_l01Pick.f
  rw [e1, Option.bind_some]
  dsimp only
  rw [if_pos r0, if_pos (r1 h1)]
  exact ⟨_, _, _, rfl, g1⟩
theorem frame_some {l : List Int} (hb : Byt l) {p s : Int} (h : Src l p s) : ∃ r p' s', spec_l04DrawFrame.f l p s = some (r, p', s') ∧ Src l p' s' := by
  obtain ⟨r, p1, s1, e1, g1, -, -⟩ := next_some hb h (n := 40) (by omega)
  unfold spec_l04DrawFrame.f
  rw [e1, Option.bind_some]
  dsimp only
  by_cases c : r = 0
  · obtain ⟨q, p2, s2, e2, g2⟩ := pick_some hb g1 [(-1), 2] (by decide) (by decide)
    rw [if_pos c, e2, Option.bind_some]; exact ⟨_, _, _, rfl, g2⟩
  · obtain ⟨q, p2, s2, e2, g2, -, -⟩ := next_some hb g1 (n := 2) (by omega)
    rw [if_neg c, e2, Option.bind_some]; exact ⟨_, _, _, rfl, g2⟩
theorem lat_some {l : List Int} (hb : Byt l) {p s : Int} (h : Src l p s) : ∃ a b c p' s', spec_l03Draw.f l p s = some (a, b, c, p', s') ∧ Src l p' s' := by
  obtain ⟨r1, p1, s1, e1, g1, a0, a1⟩ := next_some hb h (n := 6) (by omega)
  obtain ⟨r2, p2, s2, e2, g2, b0, b1⟩ := next_some hb g1 (n := 6) (by omega)
  have a1 := a1 (by omega)
  have b1 := b1 (by omega)
  have w1 : wrap64 (1 + r1) = 1 + r1 := w64s (by omega) (by omega)
  obtain ⟨r3, p3, s3, e3, g3, -, -⟩ := next_some hb g2 (n := 1 + r1) (by omega)
  obtain ⟨r4, p4, s4, e4, g4, -, -⟩ := next_some hb g3 (n := 60) (by omega)
  unfold spec_l03Draw.f
  rw [e1, Option.bind_some]; dsimp only
  rw [e2, Option.bind_some]; dsimp only
  rw [w1, e3, Option.bind_some]; dsimp only
  rw [e4, Option.bind_some]; dsimp only
  by_cases c0 : r4 = 0
  · obtain ⟨q, p5, s5, e5, g5⟩ := pick_some hb g4 [0, 64, 65, 8] (by decide) (by decide)
    rw [if_pos c0, e5, Option.bind_some]; exact ⟨_, _, _, _, _, rfl, g5⟩
  rw [if_neg c0]
  by_cases c1 : r4 = 1
  · obtain ⟨q, p5, s5, e5, g5⟩ := pick_some hb g4 [(-1), 1 + r1, wrap64 (1 + r1 - 1)] (by simp) (by simp)
    rw [if_pos c1, e5, Option.bind_some]; exact ⟨_, _, _, _, _, rfl, g5⟩
  rw [if_neg c1]
  by_cases c2 : r4 = 2
  · obtain ⟨q, p5, s5, e5, g5⟩ := pick_some hb g4 [8, 9] (by decide) (by decide)
    rw [if_pos c2, e5, Option.bind_some]; exact ⟨_, _, _, _, _, rfl, g5⟩
  rw [if_neg c2]; exact ⟨_, _, _, _, _, rfl, g4⟩
theorem flat_some {l : List Int} (hb : Byt l) {p s : Int} (h : Src l p s) : ∃ fr a b c p' s', spec_l06DrawLattice.f l p s = some (fr, a, b, c, p', s') ∧ Src l p' s' := by
  obtain ⟨fr, p1, s1, e1, g1⟩ := frame_some hb h
  obtain ⟨r, p2, s2, e2, g2, -, -⟩ := next_some hb g1 (n := 5) (by omega)
  unfold spec_l06DrawLattice.f
  rw [e1, Option.bind_some]; dsimp only
  rw [e2, Option.bind_some]; dsimp only
  by_cases c0 : r = 0
  · obtain ⟨a, b, c, p3, s3, e3, g3⟩ := lat_some hb g2
    rw [if_pos c0, e3, Option.bind_some]; exact ⟨_, _, _, _, _, _, rfl, g3⟩
  rw [if_neg c0]
  by_cases c1 : r = 1
  · obtain ⟨q, p3, s3, e3, g3, -, -⟩ := next_some hb g2 (n := 4) (by omega)
    obtain ⟨q', p4, s4, e4, g4, -, -⟩ := next_some hb g3 (n := 4) (by omega)
    rw [if_pos c1, e3, Option.bind_some]; dsimp only
    rw [e4, Option.bind_some]; exact ⟨_, _, _, _, _, _, rfl, g4⟩
  rw [if_neg c1]
  by_cases c2 : r = 2
  · rw [if_pos c2]
    by_cases c3 : fr = 0
    · rw [if_pos c3]; exact ⟨_, _, _, _, _, _, rfl, g2⟩
    · rw [if_neg c3]; exact ⟨_, _, _, _, _, _, rfl, g2⟩
  · obtain ⟨q, p3, s3, e3, g3, -, -⟩ := next_some hb g2 (n := 4) (by omega)
    rw [if_neg c2, e3, Option.bind_some]; exact ⟨_, _, _, _, _, _, rfl, g3⟩
theorem spec_mats_at {fr : Int} (hf : 0 ≤ fr ∧ fr ≤ 1) (k : Nat) : spec_l04Mats.f (k + 100) fr = some ((pmL fr).map mkM) := by
  rcases fr01 hf with rfl | rfl
  · kernel_rfl
  · kernel_rfl
theorem rd_mat (xs : List S51) (i : Nat) (h : i < xs.length) : rd_T51 xs (i : Int) = xs[i] := by unfold rd_T51; rw [Int.toNat_natCast]; simp [List.getD, h]
theorem stable_loop {fr a b c : Int} (h : FL fr a b c) (xs : List (Int × Int × Int × Int)) (hx : ∀ m ∈ xs, m ∈ pmL fr) (hl : xs.length ≤ 12) (d : Nat) : ∀ (i : Nat) (x : List S51), i ≤ xs.length → xs.length - i = d → x.length ≤ i →
    Ev (fun k => spec_l04Stable.l0 k (xs.map mkM) x i a b c) (x ++ ((xs.drop i).filter fun m => decide (KeepL a b c m)).map mkM) := by
  induction d with
  | zero =>
    intro i x hi hd hl'
    rw [List.drop_eq_nil_of_le (by omega)]
    refine Ev.one (fun k => ?_)
    simp only [spec_l04Stable.l0]
    rw [if_neg (by rw [List.length_map]; omega)]; simp
  | succ d ih =>
    intro i x hi hd hl'
    have h1 : i < xs.length := by omega
    have h2 : i < (xs.map mkM).length := by rw [List.length_map]; exact h1
    have hw : wrap64 ((i : Int) + 1) = ((i + 1 : Nat) : Int) := by rw [w64s (by omega) (by omega)]; omega
    have hm := hx _ (List.getElem_mem h1)
    have him := fun k hk => spec_image_eq h.1 h.2 (m0 := xs[i].1) (m1 := xs[i].2.1) (m2 := xs[i].2.2.1) (m3 := xs[i].2.2.2) hm k hk
    rw [List.drop_eq_getElem_cons h1]
    have hsp : ∀ k, 10000000 ≤ k → spec_l04Stable.l0 (k + 1) (xs.map mkM) x i a b c = if KeepL a b c xs[i] then spec_l04Stable.l0 k (xs.map mkM) (x ++ [mkM xs[i]]) ((i + 1 : Nat) : Int) a b c else spec_l04Stable.l0 k (xs.map mkM) x ((i + 1 : Nat) : Int) a b c := fun k hk => by
      obtain ⟨A, B, C, e1, e2⟩ := him k hk
      have e3 : rd_T51 (xs.map mkM) (i : Int) = mkM xs[i] := by rw [rd_mat _ _ h2, List.getElem_map]
      simp only [spec_l04Stable.l0]
      rw [if_pos (by omega), if_pos (by omega), e3, hw]
      have e1' : spec_l04Image.f k (mkM xs[i]).f0 (mkM xs[i]).f1 (mkM xs[i]).f2 (mkM xs[i]).f3 a b c = some (A, B, C) := e1
      rw [e1', Option.bind_some]
      by_cases g : KeepL a b c xs[i]
      · obtain ⟨rfl, rfl, rfl⟩ := e2.2 g
        rw [if_pos (by simp), if_pos (by omega), if_pos g]
        try rfl
      · rw [if_neg (fun z => g (e2.1 (by simpa using z))), if_neg g]
    by_cases g : KeepL a b c xs[i]
    · have := ih (i + 1) (x ++ [mkM xs[i]]) (by omega) (by omega) (by simp; omega)
      rw [List.filter_cons_of_pos (by simpa using g), List.map_cons]
      rw [List.append_assoc, List.singleton_append] at this
      exact Ev.from' 10000000 (fun k hk => by rw [hsp k hk, if_pos g]) this
    · have := ih (i + 1) x (by omega) (by omega) (by omega)
      rw [List.filter_cons_of_neg (by simpa using g)]
      exact Ev.from' 10000000 (fun k hk => by rw [hsp k hk, if_neg g]) this
theorem one_pm {fr : Int} (hf : 0 ≤ fr ∧ fr ≤ 1) : (1, 0, 0, 1) ∈ pmL fr := by
  rcases fr01 hf with rfl | rfl <;> decide +kernel
theorem one_keep {a b c : Int} (hl : Lat a b c) : KeepL a b c (1, 0, 0, 1) := by
  obtain ⟨l1, l2, l3, l4, l5, l6, _⟩ := id hl
  exact ⟨(red_inL l3 l1).2 ⟨0, by simp, ⟨1, by simp⟩⟩, (red_inL l3 l1).2 ⟨1, by simp, ⟨0, by simp⟩⟩⟩
theorem stable_ev {fr a b c : Int} (h : FL fr a b c) : Ev (fun k => spec_l04Stable.f k fr a b c) (((pmL fr).filter fun m => decide (KeepL a b c m)).map mkM) := by
  obtain ⟨K, hK⟩ := stable_loop h (pmL fr) (fun _ hm => hm) (pm_len fr) (pmL fr).length 0 [] (by omega) rfl (by simp)
  rw [List.drop_zero, List.nil_append] at hK
  have hK : ∀ k, K ≤ k → spec_l04Stable.l0 k ((pmL fr).map mkM) [] 0 a b c = some (((pmL fr).filter fun m => decide (KeepL a b c m)).map mkM) := hK
  refine ⟨K + 100, fun k hk => ?_⟩
  obtain ⟨j, rfl⟩ : ∃ j, k = j + 100 := ⟨k - 100, by omega⟩
  show spec_l04Stable.f (j + 100) fr a b c = _
  unfold spec_l04Stable.f
  rw [spec_mats_at h.1, Option.bind_some]; exact hK _ (by omega)
theorem motion_some {l : List Int} (hb : Byt l) (fr a b c : Int) {p s : Int} (h : Src l p s) : ∃ m0 m1 m2 m3 x y p' s', Ev (fun k => spec_l06DrawMotion.f k l p s fr a b c) (m0, m1, m2, m3, x, y, p', s') ∧ Src l p' s' ∧ (-4 ≤ x ∧ x ≤ 4) ∧ (-4 ≤ y ∧ y ≤ 4) ∧ (FL fr a b c → (m0, m1, m2, m3) ∈ pmL fr ∧ KeepL a b c (m0, m1, m2, m3)) ∧ (¬ FL fr a b c → (m0, m1, m2, m3) = (1, 0, 0, 1)) := by
  have q := spec_l04Code_eq fr a b c
  have fin : ∀ {p s : Int}, Src l p s → ∃ x y p1 s1 p2 s2, spec_l01Next.f l p s 9 = some (x, p1, s1) ∧ spec_l01Next.f l p1 s1 9 = some (y, p2, s2) ∧ Src l p2 s2 ∧ (0 ≤ x ∧ x < 9) ∧ (0 ≤ y ∧ y < 9) := fun g => by
    obtain ⟨x, p1, s1, e1, g1, x0, x1⟩ := next_some hb g (n := 9) (by omega)
    obtain ⟨y, p2, s2, e2, g2, y0, y1⟩ := next_some hb g1 (n := 9) (by omega)
    exact ⟨x, y, p1, s1, p2, s2, e1, e2, g2, ⟨x0, x1 (by omega)⟩, y0, y1 (by omega)⟩
  by_cases hf : FL fr a b c
  · obtain ⟨K, hK⟩ := stable_ev hf
    have hK : ∀ k, K ≤ k → spec_l04Stable.f k fr a b c = some (((pmL fr).filter fun m => decide (KeepL a b c m)).map mkM) := hK
    generalize hL : ((pmL fr).filter fun m => decide (KeepL a b c m)) = L at hK
    have hmem : ∀ m ∈ L, m ∈ pmL fr ∧ KeepL a b c m := fun m hm => by rw [← hL, List.mem_filter] at hm; exact ⟨hm.1, by simpa using hm.2⟩
    have h1 : (1, 0, 0, 1) ∈ L := by rw [← hL, List.mem_filter]; exact ⟨one_pm hf.1, by simpa using one_keep hf.2⟩
    have hlen : 1 ≤ L.length := List.length_pos_of_mem h1
    have hlen2 : L.length ≤ 12 := by rw [← hL]; exact Nat.le_trans (List.length_filter_le _ _) (pm_len fr)
    obtain ⟨r, p1, s1, e1, g1, r0, r1⟩ := next_some hb h (n := ((L.map mkM).length : Int)) (by rw [List.length_map]; omega)
    have r1 := r1 (by rw [List.length_map]; omega)
    obtain ⟨x, y, p2, s2, p3, s3, e2, e3, g3, hx, hy⟩ := fin g1
    have hr : r.toNat < (L.map mkM).length := by omega
    have er : rd_T51 (L.map mkM) r = (L.map mkM)[r.toNat] := by rw [← rd_mat _ _ hr, Int.toNat_of_nonneg r0]
    rw [List.getElem_map] at er
    have hm := hmem _ (List.getElem_mem (show r.toNat < L.length by rw [List.length_map] at hr; exact hr))
    refine ⟨_, _, _, _, x - 4, y - 4, p3, s3, ⟨K, fun k hk => ?_⟩, g3, by omega, by omega, fun _ => hm, fun z => absurd hf z⟩
    show spec_l06DrawMotion.f k l p s fr a b c = _
    unfold spec_l06DrawMotion.f
    simp only [spec_l02Unit.f, Option.bind_some]
    rw [q, if_pos hf, Option.bind_some, if_pos rfl, hK k hk, Option.bind_some, e1, Option.bind_some]; dsimp only
    rw [if_pos r0, if_pos r1, e2, Option.bind_some]; dsimp only
    rw [e3, Option.bind_some]; dsimp only
    rw [er, w64s (x := x - 4) (by omega) (by omega), w64s (x := y - 4) (by omega) (by omega)]
    rfl
  · obtain ⟨x, y, p2, s2, p3, s3, e2, e3, g3, hx, hy⟩ := fin h
    refine ⟨1, 0, 0, 1, x - 4, y - 4, p3, s3, Ev.all fun k => ?_, g3, by omega, by omega, fun z => absurd z hf, fun _ => rfl⟩
    unfold spec_l06DrawMotion.f
    simp only [spec_l02Unit.f, Option.bind_some]
    rw [q, if_neg hf, Option.bind_some, if_neg (by decide), e2, Option.bind_some]; dsimp only
    rw [e3, Option.bind_some]; dsimp only
    rw [w64s (x := x - 4) (by omega) (by omega), w64s (x := y - 4) (by omega) (by omega)]
end Go.Proofs.Ytedmadofpdkekaa.LA
