/- Plain lemmas on all motions: the reference and the program list the same matrices, each with the same cells. -/
import Derived.Test.YtndfnaehpdkaiaaAid
import Derived.Test.YtndfnaehpdkaiaaPAx0
import Derived.Test.YtndfnaehpdkaiaaLAABasic
import Derived.Test.YtndfnaehpdkaiaaLAAbCodes
import Derived.Test.YtndfnaehpdkaiaaLAAdEv
import Derived.Test.YtndfnaehpdkaiaaLAHCells
import Derived.Test.YtndfnaehpdkaiaaLAPPoints
import Derived.Test.YtndfnaehpdkaiaaPAx0
import Derived.Test.YtndfnaehpdkaiaaPAx15
import Derived.Test.YtndfnaehpdkaiaaPAx8
namespace Go.Proofs.Ytndfnaehpdkaiaa.LA
open Go.RowKit Go.Proofs.Ytndfnaehpdkaiaa.PA Go.Proofs.YtndfnaehpdkaiaaW.PrintWords Go.Proofs.YtndfnaehpdkaiaaW.PrintLast Go.Proofs.Ytndfnaehpdkaiaa.Aid
set_option linter.unusedVariables false
set_option linter.unusedSimpArgs false

theorem spec_mats_at {fr : Int} (hf : 0 ≤ fr ∧ fr ≤ 1) (k : Nat) : spec_l04Mats.f (k + 100) fr = some ((pmL fr).map mkM) := by
  rcases fr01 hf with rfl | rfl
  · kernel_rfl
  · kernel_rfl
theorem rd_mkM (L : List (Int × Int × Int × Int)) (i : Nat) (h : i < L.length) : rd_T33 (L.map mkM) (i : Int) = mkM L[i] := by
  unfold rd_T33
  rw [Int.toNat_natCast]; simp [List.getD, h]
theorem spec_stable_loop {fr a b c : Int} (hf : 0 ≤ fr ∧ fr ≤ 1) (hl : Lat a b c) (L : List (Int × Int × Int × Int)) (hL : ∀ m ∈ L, m ∈ pmL fr) (hn : L.length ≤ 1000) (d : Nat) : ∀ (i : Nat) (out : List S33), i ≤ L.length → L.length - i = d → out.length + d ≤ 1000 →
    Ev (fun k => spec_l04Stable.l0 k (L.map mkM) out i a b c) (out ++ ((L.drop i).filter fun m => decide (KeepL a b c m)).map mkM) := by
  induction d with
  | zero =>
    intro i out hi hd _
    refine Ev.one (fun k => ?_)
    simp only [spec_l04Stable.l0, List.length_map]
    rw [if_neg (by omega), List.drop_eq_nil_of_le (by omega)]; simp
  | succ d ih =>
    intro i out hi hd ho
    have h1 : i < L.length := by omega
    have hm := hL L[i] (List.getElem_mem h1)
    have hw : wrap64 ((i : Int) + 1) = ((i + 1 : Nat) : Int) := by rw [w64s (by omega) (by omega)]; omega
    obtain ⟨K, hK⟩ : ∃ K : Nat, K = 10000000 := ⟨_, rfl⟩
    have himg := fun k hk => spec_image_eq hf hl (m0 := L[i].1) (m1 := L[i].2.1) (m2 := L[i].2.2.1) (m3 := L[i].2.2.2) hm k hk
    rw [List.drop_eq_getElem_cons h1]
    by_cases hk : KeepL a b c L[i]
    · obtain ⟨K2, h2⟩ := ih (i + 1) (out ++ [mkM L[i]]) (by omega) (by omega) (by simp; omega)
      rw [List.filter_cons_of_pos (by simpa using hk), List.map_cons]
      refine ⟨K + K2 + 1, fun k hk' => ?_⟩
      obtain ⟨k, rfl⟩ : ∃ m, k = m + 1 := ⟨k - 1, by omega⟩
      obtain ⟨A, B, C, r1, r2⟩ := himg k (by omega)
      obtain ⟨rfl, rfl, rfl⟩ := r2.2 hk
      simp only [spec_l04Stable.l0, List.length_map]
      rw [if_pos (by omega), if_pos (by omega), rd_mkM _ _ h1]
      unfold mkM
      dsimp only
      rw [r1, Option.bind_some]
      dsimp only
      rw [if_pos (by simp), if_pos (by omega), hw]
      have := h2 k (by omega)
      rw [List.append_assoc] at this
      exact this
    · obtain ⟨K2, h2⟩ := ih (i + 1) out (by omega) (by omega) (by omega)
      rw [List.filter_cons_of_neg (by simpa using hk)]
      refine ⟨K + K2 + 1, fun k hk' => ?_⟩
      obtain ⟨k, rfl⟩ : ∃ m, k = m + 1 := ⟨k - 1, by omega⟩
      obtain ⟨A, B, C, r1, r2⟩ := himg k (by omega)
      simp only [spec_l04Stable.l0, List.length_map]
      rw [if_pos (by omega), if_pos (by omega), rd_mkM _ _ h1]
      have h3 := h2 k (by omega)
      unfold mkM at h3 ⊢
      dsimp only
      rw [r1, Option.bind_some]
      dsimp only
      rw [if_neg (by
        intro e
        simp only [Bool.and_eq_true, beq_iff_eq] at e
        exact hk (r2.1 e)), hw]
      exact h3
theorem spec_stable_ev {fr a b c : Int} (h : FL fr a b c) : Ev (fun k => spec_l04Stable.f k fr a b c) ((lmL fr a b c).map mkM) := by
  have hm : Ev (fun k => spec_l04Mats.f k fr) ((pmL fr).map mkM) := ⟨100, fun k hk => by
    obtain ⟨j, rfl⟩ : ∃ j, k = j + 100 := ⟨k - 100, by omega⟩
    exact spec_mats_at h.1 j⟩
  have hn := pm_len fr
  refine Ev.congr (fun k => ?_) (Ev.bind hm (f := fun k t => spec_l04Stable.l0 k t [] 0 a b c) (by simpa [lmL] using spec_stable_loop h.1 h.2 (pmL fr) (fun m hm => hm) (by omega) _ 0 [] (by omega) rfl (by simp; omega)))
  rfl
def moS (m : S33) (t : S34) : S36 := ⟨m, t⟩
theorem rd_vec (l : List S34) (i : Nat) (h : i < l.length) : rd_T34 l (i : Int) = l[i] := by unfold rd_T34; rw [Int.toNat_natCast]; simp [List.getD, h]
theorem rd_mat (l : List S33) (i : Nat) (h : i < l.length) : rd_T33 l (i : Int) = l[i] := by unfold rd_T33; rw [Int.toNat_natCast]; simp [List.getD, h]
theorem spec_all_row (ms : List S33) (cs : List S34) (hm : ms.length ≤ 1000) (hc : cs.length ≤ 64) (i : Nat) (hi : i < ms.length) (r : List S36) (d : Nat) : ∀ (j : Nat) (out : List S36), j ≤ cs.length → cs.length - j = d → out.length + d ≤ 1000000 →
    Ev (fun k => spec_l16All.l0 k ms cs (out ++ (cs.drop j).map (moS ms[i])) ((i + 1 : Nat) : Int)) r → Ev (fun k => spec_l16All.l1 k ms cs out i j) r := by
  induction d with
  | zero =>
    intro j out hj hd _ h
    have hw : wrap64 ((i : Int) + 1) = ((i + 1 : Nat) : Int) := by rw [w64s (by omega) (by omega)]; omega
    refine Ev.step (fun k => ?_) h
    simp only [spec_l16All.l1]
    rw [if_neg (by omega), hw, List.drop_eq_nil_of_le (by omega)]; simp
  | succ d ih =>
    intro j out hj hd ho h
    have h1 : j < cs.length := by omega
    rw [List.drop_eq_getElem_cons h1, List.map_cons] at h
    have h' := ih (j + 1) (out ++ [moS ms[i] cs[j]]) (by omega) (by omega) (by simp; omega) (by simpa using h)
    have hw : wrap64 ((j : Int) + 1) = ((j + 1 : Nat) : Int) := by rw [w64s (by omega) (by omega)]; omega
    refine Ev.step (fun k => ?_) h'
    simp only [spec_l16All.l1]
    rw [if_pos (by omega), if_pos (by omega), if_pos (by omega), if_pos (by omega), if_pos (by omega), rd_mat _ _ hi, rd_vec _ _ h1, hw]; rfl
theorem spec_all_rows (ms : List S33) (cs : List S34) (hm : ms.length ≤ 1000) (hc : cs.length ≤ 64) (d : Nat) : ∀ (i : Nat) (out : List S36), i ≤ ms.length → ms.length - i = d → out.length + d * 64 ≤ 100000 →
    Ev (fun k => spec_l16All.l0 k ms cs out i) (out ++ (ms.drop i).flatMap fun m => cs.map (moS m)) := by
  induction d with
  | zero =>
    intro i out hi hd _
    refine Ev.one (fun k => ?_)
    simp only [spec_l16All.l0]
    rw [if_neg (by omega), List.drop_eq_nil_of_le (by omega)]; simp
  | succ d ih =>
    intro i out hi hd ho
    have h1 : i < ms.length := by omega
    have h2 := ih (i + 1) (out ++ cs.map (moS ms[i])) (by omega) (by omega) (by simp; omega)
    have h3 := spec_all_row ms cs hm hc i h1 (out ++ (ms.drop i).flatMap fun m => cs.map (moS m)) cs.length 0 out (by omega) (by omega) (by omega) (by
      rw [List.drop_eq_getElem_cons h1, List.flatMap_cons]
      simpa [List.append_assoc] using h2)
    refine Ev.step (fun k => ?_) h3
    simp only [spec_l16All.l0]
    rw [if_pos (by omega)]; rfl
/-- All reduced suitable motions. -/
def allL (fr a b c : Int) : List S36 := ((lmL fr a b c).map mkM).flatMap fun m => (cellsL a c).map (moS m)
theorem flat_len (cs : List S34) : ∀ ms : List S33, (ms.flatMap fun m => cs.map (moS m)).length = ms.length * cs.length
  | [] => by simp
  | m :: ms => by rw [List.flatMap_cons, List.length_append, flat_len cs ms, List.length_map, List.length_cons, Nat.add_mul]; omega
theorem cells_64 {a b c : Int} (hl : Lat a b c) : (cellsL a c).length ≤ 64 := by
  have h1 := hl.mul
  have h2 := cells_len (a := a) (c := c) (by have := hl.1; omega) (by have := hl.2.2.1; omega)
  omega
theorem allL_len {fr a b c : Int} (h : FL fr a b c) : (allL fr a b c).length ≤ 768 := by
  unfold allL
  rw [flat_len, List.length_map]
  have h1 := lm_len fr a b c
  have h2 := cells_64 h.2
  calc _ ≤ 12 * 64 := Nat.mul_le_mul h1 h2
    _ = 768 := rfl
theorem spec_all_ev {fr a b c : Int} (h : FL fr a b c) : Ev (fun k => spec_l16All.f k fr a b c) (allL fr a b c) := by
  have hl := h.2
  obtain ⟨b1, b2, b3, b4, _⟩ := id hl
  have h1 := lm_len fr a b c
  have h2 := cells_64 hl
  refine Ev.congr (fun k => ?_) (Ev.bind (spec_stable_ev h) (f := fun k t => (spec_l03Cells.f k a b c).bind fun t404 => spec_l16All.l0 k t t404 [] 0) (Ev.bind (spec_cells_ev b b1 b2 b3 b4) (f := fun k u => spec_l16All.l0 k ((lmL fr a b c).map mkM) u [] 0) (by simpa [allL] using spec_all_rows ((lmL fr a b c).map mkM) (cellsL a c) (by rw [List.length_map]; omega) h2 _ 0 [] (by omega) rfl (by simp; omega))))
  rfl
theorem impl_all_row (ms : List S33) (cs : List S34) (a b c : Int) (hm : ms.length ≤ 1000) (hc : cs.length ≤ 64) (i : Nat) (hi : i < ms.length) (r : List S36) (d : Nat) : ∀ (j : Nat) (out : List S36), j ≤ cs.length → cs.length - j = d → out.length + d ≤ 1000000 →
    Ev (fun k => impl_allMotions.l0 k (out ++ (cs.drop j).map (moS ms[i])) ms (ms.length : Int) ((i + 1 : Nat) : Int) a b c) r → Ev (fun k => impl_allMotions.l1 k out ms (ms.length : Int) i cs (cs.length : Int) j a b c ms[i].f0 ms[i].f1 ms[i].f2 ms[i].f3) r := by
  induction d with
  | zero =>
    intro j out hj hd _ h
    have hw : wrap64 ((i : Int) + 1) = ((i + 1 : Nat) : Int) := by rw [w64s (by omega) (by omega)]; omega
    refine Ev.step (fun k => ?_) h
    simp only [impl_allMotions.l1]
    rw [if_neg (by omega), hw, List.drop_eq_nil_of_le (by omega)]; simp
  | succ d ih =>
    intro j out hj hd ho h
    have h1 : j < cs.length := by omega
    rw [List.drop_eq_getElem_cons h1, List.map_cons] at h
    have h' := ih (j + 1) (out ++ [moS ms[i] cs[j]]) (by omega) (by omega) (by simp; omega) (by simpa using h)
    have hw : wrap64 ((j : Int) + 1) = ((j + 1 : Nat) : Int) := by rw [w64s (by omega) (by omega)]; omega
    refine Ev.step (fun k => ?_) h'
    simp only [impl_allMotions.l1]
    rw [if_pos (by omega), if_pos (by omega), if_pos (by omega), if_pos (by omega), rd_vec _ _ h1, hw]; rfl
theorem impl_all_rows (ms : List S33) {a b c : Int} (hl : Lat a b c) (hm : ms.length ≤ 1000) (d : Nat) : ∀ (i : Nat) (out : List S36), i ≤ ms.length → ms.length - i = d → out.length + d * 64 ≤ 100000 →
    Ev (fun k => impl_allMotions.l0 k out ms (ms.length : Int) i a b c) (out ++ (ms.drop i).flatMap fun m => (cellsL a c).map (moS m)) := by
  have hc := cells_64 hl
  obtain ⟨b1, b2, b3, b4, _⟩ := id hl
  induction d with
  | zero =>
    intro i out hi hd _
    refine Ev.one (fun k => ?_)
    simp only [impl_allMotions.l0]
    rw [if_neg (by omega), List.drop_eq_nil_of_le (by omega)]; simp
  | succ d ih =>
    intro i out hi hd ho
    have h1 : i < ms.length := by omega
    have h2 := ih (i + 1) (out ++ (cellsL a c).map (moS ms[i])) (by omega) (by omega) (by simp; omega)
    have h3 := impl_all_row ms (cellsL a c) a b c hm hc i h1 (out ++ (ms.drop i).flatMap fun m => (cellsL a c).map (moS m)) (cellsL a c).length 0 out (by omega) (by omega) (by omega) (by
      rw [List.drop_eq_getElem_cons h1, List.flatMap_cons]
      simpa [List.append_assoc] using h2)
    refine Ev.step (fun k => ?_) (Ev.bind (impl_cells_ev b b1 b2 b3 b4) (f := fun k t => impl_allMotions.l1 k out ms (ms.length : Int) i t (t.length : Int) 0 a b c ms[i].f0 ms[i].f1 ms[i].f2 ms[i].f3) h3)
    simp only [impl_allMotions.l0]
    rw [if_pos (by omega), if_pos (by omega), if_pos (by omega), rd_mat _ _ h1]
theorem impl_all_ev {fr a b c : Int} (h : FL fr a b c) : Ev (fun k => impl_allMotions.f k fr a b c) (allL fr a b c) := by
  have h1 := lm_len fr a b c
  have hm : Ev (fun k => impl_latticeMats.f k fr a b c) ((lmL fr a b c).map mkM) := ⟨100, fun k hk => latticeMats_eq h k hk⟩
  refine Ev.congr (fun k => ?_) (Ev.bind hm (f := fun k t => impl_allMotions.l0 k [] t (t.length : Int) 0 a b c) (by simpa [allL] using impl_all_rows ((lmL fr a b c).map mkM) h.2 (by rw [List.length_map]; omega) _ 0 [] (by omega) rfl (by simp; omega)))
  rfl
theorem both_AllMotions (fr a b c : Int) : ∃ r : List S36 × Int, (r.1.length : Int) ≤ 768 ∧ Ev (fun k => spec_AllMotions.f k fr a b c) r ∧ Ev (fun k => impl_AllMotions.f k fr a b c) r := by
  have q1 := spec_l04Code_eq fr a b c
  have q2 := impl_frameCode_eq fr a b c
  by_cases h : FL fr a b c
  · rw [if_pos h] at q1 q2
    have hn := allL_len h
    refine ⟨(allL fr a b c, 0), by simp only; omega, ?_, ?_⟩
    · refine Ev.congr (fun k => ?_) (Ev.some_ (spec_all_ev h) fun t => (t, 0))
      simp only [spec_AllMotions.f, q1, Option.bind_some, if_true]
    · refine Ev.congr (fun k => ?_) (Ev.some_ (impl_all_ev h) fun t => (t, 0))
      simp only [impl_AllMotions.f, q2, Option.bind_some, if_true]
  · rw [if_neg h] at q1 q2
    refine ⟨([], 1), by simp, Ev.all (fun k => ?_), Ev.all (fun k => ?_)⟩
    · simp only [spec_AllMotions.f, q1, Option.bind_some]; rfl
    · simp only [impl_AllMotions.f, q2, Option.bind_some]; rfl

end Go.Proofs.Ytndfnaehpdkaiaa.LA
