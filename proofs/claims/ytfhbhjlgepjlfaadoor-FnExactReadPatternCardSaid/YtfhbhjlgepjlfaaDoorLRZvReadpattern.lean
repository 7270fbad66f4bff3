/- Plain lemmas on reading lattices and patterns. -/
import Derived.Test.YtfhbhjlgepjlfaaDoorAid
import Derived.Test.YtfhbhjlgepjlfaaDoorPRx0
import Derived.Test.YtfhbhjlgepjlfaaDoorLRABasic
import Derived.Test.YtfhbhjlgepjlfaaDoorLREPattern
import Derived.Test.YtfhbhjlgepjlfaaDoorLRZpTexts
import Derived.Test.YtfhbhjlgepjlfaaDoorLRZqPatterntext
import Derived.Test.YtfhbhjlgepjlfaaDoorLRZtRead
import Derived.Test.YtfhbhjlgepjlfaaDoorLRZuReadvec
import Derived.Test.YtfhbhjlgepjlfaaDoorPRx0
import Derived.Test.YtfhbhjlgepjlfaaDoorPRx1
import Derived.Test.YtfhbhjlgepjlfaaDoorPRx2
import Derived.Test.YtfhbhjlgepjlfaaDoorPRx3
import Derived.Test.YtfhbhjlgepjlfaaDoorPRx4
namespace Go.Proofs.YtfhbhjlgepjlfaaDoor.LR
open Go.RowKit Go.Proofs.YtfhbhjlgepjlfaaDoor.PR Go.Proofs.YtfhbhjlgepjlfaaDoorW.PrintWords Go.Proofs.YtfhbhjlgepjlfaaDoorW.PrintLast Go.Proofs.YtfhbhjlgepjlfaaDoor.Aid
set_option linter.unusedVariables false
set_option linter.unusedSimpArgs false

/-- The lattice with a text. -/
def rdLat (s : ByteArray) : Int × Int × Int × Bool := match vals (wds 44 s) with
  | some [a, b, c] => if Lat a b c then (a, b, c, true) else (0, 0, 0, false)
  | _ => (0, 0, 0, false)
theorem rdLat_no (s : ByteArray) (h : ¬ ∃ us, vals (wds 44 s) = some us ∧ us.length = 3) : rdLat s = (0, 0, 0, false) := by
  unfold rdLat
  cases h1 : vals (wds 44 s) with
  | none => rfl
  | some us =>
    have hne : ¬ us.length = 3 := fun e => h ⟨us, h1, e⟩
    match us, hne with
    | [], _ => rfl
    | [_], _ => rfl
    | [_, _], _ => rfl
    | [_, _, _], e => exact absurd rfl e
    | _ :: _ :: _ :: _ :: _, _ => rfl
theorem ReadLattice_both (s : ByteArray) (hs : s.size ≤ 1048576) {k : Nat} (hk : 2000000 < k) : ∃ a b c t, spec_ReadLattice.f k s = some (a, b, c, t) ∧ impl_ReadLattice.f k s = some (a, b, c, t) ∧ (t = true → Lat a b c ∧ rdAll [a, b, c] (wds 44 s)) ∧ rdLat s = (a, b, c, t) := by
  obtain ⟨vs, ok, p1, p2, p3, p4⟩ := parted_eq s 44 3 hs (k := k) (by omega)
  have hsp := l01Split_eq s 44 hs (k := k) (by omega)
  have hnu := l01Numbers_eq (wds 44 s) (by have := wds_len 44 s; omega) (k := k) (by have := wds_len 44 s; omega)
  rw [show ((44 : UInt8).toNat : Int) = 44 from rfl] at hsp
  rw [show ((3 : Nat) : Int) = 3 from rfl] at p1
  unfold spec_ReadLattice.f impl_ReadLattice.f
  rw [hsp, p1]
  simp only [Option.bind_some]
  rw [hnu]
  by_cases hg : ∃ us, vals (wds 44 s) = some us ∧ us.length = 3
  · obtain ⟨us, h1, h2⟩ := hg
    have hr := (vals_rd _ _ h1).1
    have hlen := rdAll_len _ _ hr
    obtain ⟨rfl, rfl⟩ := p3 us h1 (by omega)
    obtain ⟨a, b, c, rfl⟩ : ∃ a b c, vs = [a, b, c] := by
      match vs, h2 with
      | [a, b, c], _ => exact ⟨a, b, c, rfl⟩
    rw [h1]
    have r0 : rd [a, b, c] 0 = a := rfl
    have r1 : rd [a, b, c] 1 = b := rfl
    have r2 : rd [a, b, c] 2 = c := rfl
    simp only [Option.bind_some, if_true, r0, r1, r2, spec_IsLattice_eq, impl_IsLattice_eq]
    by_cases hv : Lat a b c
    · refine ⟨a, b, c, true, ?_, ?_, fun _ => ⟨hv, hr⟩, by simp [rdLat, h1, hv]⟩ <;> simp [hv]
    · refine ⟨0, 0, 0, false, ?_, ?_, by simp, by simp [rdLat, h1, hv]⟩ <;> simp [hv]
  · refine ⟨0, 0, 0, false, ?_, ?_, by simp, rdLat_no s hg⟩
    · cases h1 : vals (wds 44 s) with
      | none => simp
      | some us =>
        have : ¬ us.length = 3 := fun e => hg ⟨us, h1, e⟩
        simp only [Option.bind_some, if_true]
        rw [if_neg (by omega)]
    · cases ok with
      | false => simp
      | true =>
        obtain ⟨q1, q2⟩ := p4 rfl
        have hlen := rdAll_len _ _ q2
        obtain ⟨a, b, c, rfl⟩ : ∃ a b c, vs = [a, b, c] := by
          match vs, (by omega : vs.length = 3) with
          | [a, b, c], _ => exact ⟨a, b, c, rfl⟩
        have r0 : rd [a, b, c] 0 = a := rfl
        have r1 : rd [a, b, c] 1 = b := rfl
        have r2 : rd [a, b, c] 2 = c := rfl
        simp only [if_true, r0, r1, r2, impl_IsLattice_eq, Option.bind_some]
        have hv : ¬ Lat a b c := fun hv => hg ⟨[a, b, c], vals_of _ _ q2 (by have := hv.small; intro u hu; simp at hu; omega), rfl⟩
        simp [hv]
/-- Digits as numbers. -/
def cols (l : List UInt8) : List Int := l.map fun c => (c.toNat : Int) - 48
theorem readDigits_go (w : ByteArray) (hw : w.size ≤ 1048576) : ∀ (d i : Nat) (acc : List Int) (k : Nat), i + d = w.size → acc.length + d ≤ 2000000 → d < k →
    impl_readDigits.l0 k w acc (w.size : Int) (i : Int) = if (∀ c ∈ (LB w).drop i, dig c) then some (acc ++ cols ((LB w).drop i), true) else some ([], false) := by
  intro d
  induction d with
  | zero =>
    intro i acc k hi ha hk
    obtain ⟨k, rfl⟩ : ∃ m, k = m + 1 := ⟨k - 1, by omega⟩
    rw [impl_readDigits.l0, if_neg (by omega), List.drop_of_length_le (by rw [LB_size]; omega : (LB w).length ≤ i)]
    simp [cols]
  | succ d ih =>
    intro i acc k hi ha hk
    obtain ⟨k, rfl⟩ : ∃ m, k = m + 1 := ⟨k - 1, by omega⟩
    have hlt : i < (LB w).length := by rw [LB_size]; omega
    rw [impl_readDigits.l0, if_pos (by omega), if_pos (by omega), if_pos (by omega), bt_at w i hlt, List.drop_eq_getElem_cons hlt]
    have hb := UInt8.toNat_lt ((LB w)[i])
    by_cases hc : dig ((LB w)[i])
    · have hc2 := hc
      unfold dig at hc2
      rw [if_neg (by omega), if_neg (by omega), if_pos (by omega), w64s (by omega) (by omega), show ((i : Int) + 1) = ((i + 1 : Nat) : Int) by omega, ih (i + 1) _ k (by omega) (by simp; omega) (by omega)]
      by_cases hr : ∀ c ∈ (LB w).drop (i + 1), dig c
      · rw [if_pos hr, if_pos (by intro c hx; rcases List.mem_cons.1 hx with rfl | hx; exact hc; exact hr c hx), show ((((LB w)[i]).toNat : Int) - 48) % 256 = (((LB w)[i]).toNat : Int) - 48 by omega, List.append_assoc]
        rfl
      · rw [if_neg hr, if_neg (fun h => hr (fun c hx => h c (List.mem_cons_of_mem _ hx)))]
    · have hn : ¬ ∀ c ∈ (LB w)[i] :: (LB w).drop (i + 1), dig c := fun h => hc (h _ List.mem_cons_self)
      rw [if_neg hn]
      unfold dig at hc
      by_cases h1 : (((LB w)[i]).toNat : Int) < 48
      · rw [if_pos h1]
      · rw [if_neg h1, if_pos (by omega)]
theorem readDigits_eq (w : ByteArray) (hw : w.size ≤ 1048576) {k : Nat} (hk : w.size < k) : impl_readDigits.f k w = if (∀ c ∈ LB w, dig c) then some (cols (LB w), true) else some ([], false) := by
  unfold impl_readDigits.f
  have := readDigits_go w hw w.size 0 [] k (by omega) (by simp; omega) hk
  rw [show ((0 : Nat) : Int) = 0 from rfl] at this
  rw [this, List.drop_zero]
  simp
theorem specRP_go (ws : List ByteArray) (h3 : ws.length = 3) (ok : Bool) (fr a b c : Int) (w : ByteArray) (hw : w.size ≤ 1048576) (h2 : rdOf ByteArray.empty ws 2 = w) : ∀ (d i : Nat) (acc : List Int) (k : Nat), i + d = w.size → acc.length + d = w.size → d + w.size + 10 < k →
    spec_ReadPattern.l0 k ws ok (i : Int) fr a b c acc = if ok = true ∧ Pat fr a b c (acc ++ cols ((LB w).drop i)) then some (fr, a, b, c, acc ++ cols ((LB w).drop i), 0) else some (0, 0, 0, 0, [], 6) := by
  intro d
  induction d with
  | zero =>
    intro i acc k hi ha hk
    obtain ⟨k, rfl⟩ : ∃ m, k = m + 1 := ⟨k - 1, by omega⟩
    rw [spec_ReadPattern.l0, if_pos (by omega), h2, if_neg (by omega), List.drop_of_length_le (by rw [LB_size]; omega : (LB w).length ≤ i)]
    have e : acc ++ cols [] = acc := by simp [cols]
    rw [e, spec_IsPattern_eq fr a b c acc (by omega) (k := k) (by omega)]
    cases ok <;> by_cases hp : Pat fr a b c acc <;> simp [hp]
  | succ d ih =>
    intro i acc k hi ha hk
    obtain ⟨k, rfl⟩ : ∃ m, k = m + 1 := ⟨k - 1, by omega⟩
    have hlt : i < (LB w).length := by rw [LB_size]; omega
    have hb := UInt8.toNat_lt ((LB w)[i])
    rw [spec_ReadPattern.l0, if_pos (by omega), h2, if_pos (by omega), if_pos (by omega), if_pos (by omega), bt_at w i hlt, w64s (x := (i : Int) + 1) (by omega) (by omega), w64s (x := (((LB w)[i]).toNat : Int)) (by omega) (by omega), w64s (by omega) (by omega), show ((i : Int) + 1) = ((i + 1 : Nat) : Int) by omega, ih (i + 1) _ k (by omega) (by simp; omega) (by omega), List.drop_eq_getElem_cons hlt]
    have e : acc ++ [(((LB w)[i]).toNat : Int) - 48] ++ cols ((LB w).drop (i + 1)) = acc ++ cols ((LB w)[i] :: (LB w).drop (i + 1)) := by rw [List.append_assoc]; rfl
    rw [e]
theorem join_nil_sep : ∀ l : List (List UInt8), Lib.join l [] = l.flatten
  | [] => rfl
  | x :: r => by
    rw [Lib.join_cons]
    unfold Lib.joinTail
    simp
theorem dig_text : ∀ l : List UInt8, (∀ c ∈ l, dig c) → ((cols l).map Lib.itoa).flatten = l
  | [], _ => rfl
  | c :: l, h => by
    have hc := h c (by simp)
    unfold dig at hc
    have ih := dig_text l (fun x hx => h x (by simp [hx]))
    have e : Lib.itoa ((c.toNat : Int) - 48) = [c] := by
      unfold Lib.itoa
      rw [if_neg (by omega), Lib.decDigits_one (by omega)]
      congr 1
      apply UInt8.toNat_inj.1
      rw [UInt8.toNat_ofNat']; omega
    show Lib.itoa ((c.toNat : Int) - 48) ++ ((cols l).map Lib.itoa).flatten = _
    rw [e, ih]; rfl
/-- A pattern's text. -/
def patB (fr a b c : Int) (l : List UInt8) : List UInt8 := (if fr = 0 then 83 else 72) :: 32 :: (LB (latTxt a b c) ++ 32 :: l)
theorem impl_patternText_eq (fr a b c : Int) (l : List UInt8) (h : Pat fr a b c (cols l)) {k : Nat} (hk : 1000 < k) : impl_patternText.f k fr a b c (cols l) = some (ba (patB fr a b c l)) := by
  have hlen := h.len
  obtain ⟨hfl, _, hcol⟩ := h
  have hL : Lat a b c := hfl.2
  have hd : ∀ x ∈ l, dig x := fun x hx => by
    have := hcol ((x.toNat : Int) - 48) (List.mem_map.2 ⟨x, hx, rfl⟩)
    unfold dig; omega
  have hl64 : l.length ≤ 64 := by have : (cols l).length = l.length := by simp [cols]
                                  omega
  have hz := latTxt_size a b c hL
  have e2 : impl_digitsText.f k (cols l) = some (ba l) := by
    unfold impl_digitsText.f
    rw [joined_eq (cols l) ⟨#[]⟩ (by simp [cols]; omega) (fun x hx => text_eq x (by have := hcol x hx; omega) (by have := hcol x hx; omega)) (fun x hx => by have := itoa_len x (by have := hcol x hx; omega) (by have := hcol x hx; omega); omega) (by decide) (k := k) (by simp [cols]; omega)]
    rw [show (⟨#[]⟩ : ByteArray).data.toList = [] from rfl, join_nil_sep, dig_text l hd]
    rfl
  obtain ⟨f0, f1⟩ := hfl.1
  unfold impl_patternText.f
  rw [impl_LatticeText_eq a b c hL (k := k) (by omega), e2]
  simp only [Option.bind_some]
  have hJ : (ba l).size ≤ 64 := hl64
  have hw : wrap64 (fr + 1) = fr + 1 := w64s (by omega) (by omega)
  rw [hw]
  have hx : (⟨#[83, 72]⟩ : ByteArray).extract fr.toNat (fr + 1).toNat = ba [if fr = 0 then 83 else 72] := by
    rcases (by omega : fr = 0 ∨ fr = 1) with rfl | rfl <;> rfl
  rw [hx]
  have hq1 : (ba [if fr = 0 then 83 else 72]).size = 1 := rfl
  have s1 : (⟨#[32]⟩ : ByteArray).size = 1 := by decide
  rw [if_pos f0, if_pos (by omega), if_pos (by omega), if_pos (by omega), if_pos (by simp only [ByteArray.size_append]; omega), if_pos (by simp only [ByteArray.size_append]; omega), if_pos (by simp only [ByteArray.size_append]; omega)]
  congr 1
  rw [← ba_LB (latTxt a b c), show (⟨#[32]⟩ : ByteArray) = ba [32] from rfl]
  have ap : ∀ x y : List UInt8, ba x ++ ba y = ba (x ++ y) := fun x y => ba_app x y
  rw [ap, ap, ap, ap]
  unfold patB
  simp
theorem splitL_join (c : UInt8) : ∀ l, ∀ (x : List UInt8) (xs : List (List UInt8)), splitL c l = x :: xs → l = x ++ Lib.joinTail [c] xs
  | [], x, xs, h => by
    simp only [splitL, List.cons.injEq] at h
    obtain ⟨rfl, rfl⟩ := h
    simp [Lib.joinTail]
  | b :: r, x, xs, h => by
    unfold splitL at h
    cases hq : splitL c r with
    | nil => exact absurd hq (splitL_ne c r)
    | cons y ys =>
      have ih := splitL_join c r y ys hq
      by_cases hb : b = c
      · rw [if_pos hb, hq] at h
        simp only [List.cons.injEq] at h
        obtain ⟨rfl, rfl⟩ := h
        rw [joinTail_cons, hb, ih]
        simp
      · rw [if_neg hb, hq] at h
        simp only [List.cons.injEq] at h
        obtain ⟨rfl, rfl⟩ := h
        rw [ih]; simp
/-- The pattern with a text, and the code. -/
def rdPat (s : ByteArray) : Int × Int × Int × Int × List Int × Int := match wds 32 s with
  | [w0, w1, w2] => if (LB w0 = [83] ∨ LB w0 = [72]) ∧ (rdLat w1).2.2.2 = true ∧ Pat (if LB w0 = [83] then 0 else 1) (rdLat w1).1 (rdLat w1).2.1 (rdLat w1).2.2.1 (cols (LB w2)) then
      (if LB w0 = [83] then 0 else 1, (rdLat w1).1, (rdLat w1).2.1, (rdLat w1).2.2.1, cols (LB w2), 0) else (0, 0, 0, 0, [], 6)
  | _ => (0, 0, 0, 0, [], 6)
theorem ReadPattern_both (s : ByteArray) (hs : s.size ≤ 1048576) {k : Nat} (hk : 3000000 < k) : ∃ fr a b c l e, spec_ReadPattern.f k s = some (fr, a, b, c, l, e) ∧ impl_ReadPattern.f k s = some (fr, a, b, c, l, e) ∧ l.length ≤ 64 ∧ rdPat s = (fr, a, b, c, l, e) := by
  obtain ⟨k0, rfl⟩ : ∃ m, k = m + 1 + 1 := ⟨k - 2, by omega⟩
  have hsp := l01Split_eq s 32 hs (k := k0 + 1 + 1) (by omega)
  rw [show ((32 : UInt8).toNat : Int) = 32 from rfl] at hsp
  have himp := strSplit_eq s 32 hs
  unfold spec_ReadPattern.f impl_ReadPattern.f
  rw [hsp, himp]
  simp only [Option.bind_some]
  by_cases h3 : (wds 32 s).length = 3
  · rw [if_pos (by omega), if_pos (by omega)]
    have hwd := wds_word 32 s
    obtain ⟨w0, w1, w2, hq⟩ : ∃ w0 w1 w2, wds 32 s = [w0, w1, w2] := by
      match hm : wds 32 s, h3 with
      | [x, y, z], _ => exact ⟨x, y, z, rfl⟩
    have hsplit : splitL 32 (LB s) = [LB w0, LB w1, LB w2] := by
      have : (wds 32 s).map LB = splitL 32 (LB s) := by
        unfold wds
        rw [List.map_map]
        have : (LB ∘ ba) = id := by funext x; exact LB_ba x
        rw [this, List.map_id]
      rw [← this, hq]; rfl
    have hjoin := splitL_join 32 (LB s) _ _ hsplit
    simp only [joinTail_cons] at hjoin
    have hnil : Lib.joinTail [(32 : UInt8)] [] = [] := rfl
    rw [hnil] at hjoin
    rw [hq] at hwd ⊢
    have q0 := hwd w0 (by simp)
    have q1 := hwd w1 (by simp)
    have q2 := hwd w2 (by simp)
    have r0 : rdOf ByteArray.empty [w0, w1, w2] 0 = w0 := rfl
    have r1 : rdOf ByteArray.empty [w0, w1, w2] 1 = w1 := rfl
    have r2 : rdOf ByteArray.empty [w0, w1, w2] 2 = w2 := rfl
    obtain ⟨a, b, c, t, la, lb, lc, ld⟩ := ReadLattice_both w1 (by omega) (k := k0 + 1) (by omega)
    obtain ⟨a', b', c', t', la', lb', lc', ld'⟩ := ReadLattice_both w1 (by omega) (k := k0 + 1 + 1) (by omega)
    have he : (a', b', c', t') = (a, b, c, t) := by rw [← ld, ← ld']
    simp only [Prod.mk.injEq] at he
    obtain ⟨rfl, rfl, rfl, rfl⟩ := he
    have hdg := readDigits_eq w2 (by omega) (k := k0 + 1 + 1) (by omega)
    have hix : strings_Index.f (⟨#[83, 72]⟩ : ByteArray) w0 = some (Lib.index [83, 72] (LB w0)) := by
      unfold strings_Index.f; rw [if_pos (by decide)]; rfl
    have c0 : (0 : Int) < ([w0, w1, w2].length : Int) := by simp
    have c1 : (1 : Int) < ([w0, w1, w2].length : Int) := by simp
    have c2 : (2 : Int) < ([w0, w1, w2].length : Int) := by simp
    simp only [r0, r1, r2, lb', hdg, hix, if_pos c0, if_pos c1, if_pos c2, Option.bind_some]
    -- the reference
    have hgo : ∀ fr : Int, spec_ReadPattern.j1 (k0 + 1) [w0, w1, w2] t' fr a' b' c' [] = if t' = true ∧ Pat fr a' b' c' (cols (LB w2)) then some (fr, a', b', c', cols (LB w2), 0) else some (0, 0, 0, 0, [], 6) := fun fr => by
      rw [spec_ReadPattern.j1]
      have := specRP_go [w0, w1, w2] rfl t' fr a' b' c' w2 (by omega) r2 w2.size 0 [] k0 (by omega) (by simp) (by omega)
      rw [show ((0 : Nat) : Int) = 0 from rfl] at this
      rw [this, List.drop_zero]; simp
    have tl0 := tl_LB w0
    have hfin : ∀ fr : Int, (LB w0 = [if fr = 0 then 83 else 72]) → (fr = 0 ∨ fr = 1) → Lib.index [83, 72] (LB w0) = fr → ∃ fr' a b c l e, (if t' = true ∧ Pat fr a' b' c' (cols (LB w2)) then some (fr, a', b', c', cols (LB w2), (0 : Int)) else some (0, 0, 0, 0, [], 6)) = some (fr', a, b, c, l, e) ∧
        ((if ∀ c ∈ LB w2, dig c then some (cols (LB w2), true) else some ([], false)).bind fun bt438 => if t' = true then if bt438.2 = true then (impl_IsPattern.f (Lib.index [83, 72] (LB w0)) a' b' c' bt438.1).bind fun t445 => if t445 = true then (impl_patternText.f (k0 + 1 + 1) (Lib.index [83, 72] (LB w0)) a' b' c' bt438.1).bind fun t446 => if t446.toList = s.toList then some (Lib.index [83, 72] (LB w0), a', b', c', bt438.1, 0) else some (0, 0, 0, 0, [], 6) else some (0, 0, 0, 0, [], 6) else some (0, 0, 0, 0, [], 6) else some (0, 0, 0, 0, [], 6)) = some (fr', a, b, c, l, e) ∧ l.length ≤ 64 := by
      intro fr hw0 hfr hidx
      rw [hidx]
      cases t' with
      | false => exact ⟨0, 0, 0, 0, [], 6, by simp, by
          by_cases hd : ∀ c ∈ LB w2, dig c
          · rw [if_pos hd]; simp
          · rw [if_neg hd]; simp, by simp⟩
      | true =>
        obtain ⟨hlat, hrd⟩ := lc' rfl
        by_cases hp : Pat fr a' b' c' (cols (LB w2))
        · have hd : ∀ x ∈ LB w2, dig x := fun x hx => by
            have := hp.2.2 ((x.toNat : Int) - 48) (List.mem_map.2 ⟨x, hx, rfl⟩)
            unfold dig; omega
          refine ⟨fr, a', b', c', cols (LB w2), 0, by simp [hp], ?_, by have := hp.len; omega⟩
          rw [if_pos hd]
          simp only [Option.bind_some, if_true, impl_IsPattern_eq, decide_eq_true_eq]
          rw [if_pos hp, impl_patternText_eq fr a' b' c' (LB w2) hp (by omega)]
          simp only [Option.bind_some]
          rw [if_pos]
          rw [tl_LB, tl_LB, LB_ba, hjoin]
          unfold patB
          have hlt : LB w1 = LB (latTxt a' b' c') := by
            have hne := splitL_ne 44 (LB w1)
            cases hsq : splitL 44 (LB w1) with
            | nil => exact absurd hsq hne
            | cons x xs =>
              have hj := splitL_join 44 (LB w1) x xs hsq
              have hww : wds 44 w1 = ba x :: xs.map ba := by unfold wds; rw [hsq]; rfl
              rw [hww] at hrd
              have hl3 := rdAll_len _ _ hrd
              match xs, hl3, hrd, hj with
              | [y, z], _, hrd, hj =>
                obtain ⟨e1, e2, e3, _⟩ := hrd
                rw [LB_ba] at e1 e2 e3
                rw [hj, ← e1, ← e2, ← e3]
                unfold latTxt
                rw [show (⟨(Lib.join [Lib.itoa a', Lib.itoa b', Lib.itoa c'] [44]).toArray⟩ : ByteArray) = ba (Lib.join [Lib.itoa a', Lib.itoa b', Lib.itoa c'] [44]) from rfl, LB_ba, Lib.join_cons]
          rw [hw0, hlt]
          simp
        · refine ⟨0, 0, 0, 0, [], 6, by simp [hp], ?_, by simp⟩
          by_cases hd : ∀ c ∈ LB w2, dig c
          · rw [if_pos hd]
            simp only [Option.bind_some, if_true, impl_IsPattern_eq, decide_eq_true_eq]
            rw [if_neg hp]
          · rw [if_neg hd]; simp
    by_cases hS : LB w0 = [83]
    · rw [if_pos (by rw [tl0]; exact hS)]
      rw [spec_ReadPattern.j0, if_neg (by decide), if_pos c1, r1, la]
      simp only [Option.bind_some, if_pos c0, r0]
      rw [if_neg (by rw [tl0, hS]; decide), hgo]
      obtain ⟨f1, f2, f3, f4, f5, f6, e1, e2, e3⟩ := hfin 0 hS (Or.inl rfl) (by rw [hS]; rfl)
      refine ⟨f1, f2, f3, f4, f5, f6, e1, e2, e3, ?_⟩
      unfold rdPat
      rw [hq]
      simp only [ld', hS, if_true]
      by_cases hc : t' = true ∧ Pat 0 a' b' c' (cols (LB w2))
      · rw [if_pos hc] at e1
        rw [if_pos (by simpa using hc)]
        exact Option.some.inj e1
      · rw [if_neg hc] at e1
        rw [if_neg (by simpa using hc)]
        exact Option.some.inj e1
    · rw [if_neg (by rw [tl0]; exact hS)]
      by_cases hH : LB w0 = [72]
      · have hb : (w0.toList != ([72] : List UInt8)) = false := by rw [bne_eq_false_iff_eq, tl0]; exact hH
        rw [hb, spec_ReadPattern.j0, if_neg (by decide), if_pos c1, r1, la]
        simp only [Option.bind_some, if_pos c0, r0]
        rw [if_pos (by rw [tl0]; exact hH), hgo]
        obtain ⟨f1, f2, f3, f4, f5, f6, e1, e2, e3⟩ := hfin 1 hH (Or.inr rfl) (by rw [hH]; rfl)
        refine ⟨f1, f2, f3, f4, f5, f6, e1, e2, e3, ?_⟩
        unfold rdPat
        rw [hq]
        simp only [ld', hH, show ¬ ([72] : List UInt8) = [83] by decide, if_false]
        by_cases hc : t' = true ∧ Pat 1 a' b' c' (cols (LB w2))
        · rw [if_pos hc] at e1
          rw [if_pos (by simpa using hc)]
          exact Option.some.inj e1
        · rw [if_neg hc] at e1
          rw [if_neg (by simpa using hc)]
          exact Option.some.inj e1
      · have hb : (w0.toList != ([72] : List UInt8)) = true := by rw [bne_iff_ne, tl0]; exact hH
        rw [hb, spec_ReadPattern.j0, if_pos rfl]
        refine ⟨0, 0, 0, 0, [], 6, rfl, ?_, by simp, by unfold rdPat; rw [hq]; simp [hS, hH]⟩
        by_cases hd : ∀ c ∈ LB w2, dig c
        · rw [if_pos hd]
          simp only [Option.bind_some, if_true, impl_IsPattern_eq, decide_eq_true_eq]
          cases t' with
          | false => simp
          | true =>
            simp only [if_true]
            by_cases hp : Pat (Lib.index [83, 72] (LB w0)) a' b' c' (cols (LB w2))
            · rw [if_pos hp, impl_patternText_eq _ a' b' c' (LB w2) hp (by omega)]
              simp only [Option.bind_some]
              have hne : ¬ (ba (patB (Lib.index [83, 72] (LB w0)) a' b' c' (LB w2))).toList = s.toList := by
                intro e
                rw [tl_LB, tl_LB, LB_ba] at e
                unfold patB at e
                have hh : splitL 32 (LB s) = [if Lib.index [83, 72] (LB w0) = 0 then 83 else 72] :: splitL 32 (LB (latTxt a' b' c') ++ 32 :: LB w2) := by
                  rw [← e]
                  by_cases hz : Lib.index [83, 72] (LB w0) = 0
                  · rw [if_pos hz]; exact splitL_head 32 [83] _ (by decide)
                  · rw [if_neg hz]; exact splitL_head 32 [72] _ (by decide)
                rw [hsplit] at hh
                have h0 := (List.cons.inj hh).1
                by_cases hz : Lib.index [83, 72] (LB w0) = 0
                · rw [if_pos hz] at h0; exact hS h0
                · rw [if_neg hz] at h0; exact hH h0
              rw [if_neg hne]
              first | rfl | simp
            · rw [if_neg hp]; first | rfl | simp
        · rw [if_neg hd]; cases t' <;> simp
  · rw [if_neg (by omega), if_neg (by omega), spec_ReadPattern.j0, if_pos rfl]
    refine ⟨0, 0, 0, 0, [], 6, rfl, rfl, by simp, ?_⟩
    unfold rdPat
    cases hq : wds 32 s with
    | nil => rfl
    | cons x r =>
      match r, hq with
      | [], _ => rfl
      | [_], _ => rfl
      | [_, _], hq => exact absurd (by rw [hq]; rfl) h3
      | _ :: _ :: _ :: _, _ => rfl

end Go.Proofs.YtfhbhjlgepjlfaaDoor.LR
