/- Plain lemmas on reading lists of numbers, vectors, matrices and motions. -/
import Derived.Test.YtnblfcibgokccaaGreatDoorAid
import Derived.Test.YtnblfcibgokccaaGreatDoorPCx0
import Derived.Test.YtnblfcibgokccaaGreatDoorLCPPoints
import Derived.Test.YtnblfcibgokccaaGreatDoorLCPbSuit
import Derived.Test.YtnblfcibgokccaaGreatDoorLCZoaBytes
import Derived.Test.YtnblfcibgokccaaGreatDoorLCZrMotiontext
import Derived.Test.YtnblfcibgokccaaGreatDoorLCZtRead
import Derived.Test.YtnblfcibgokccaaGreatDoorPCx10
import Derived.Test.YtnblfcibgokccaaGreatDoorPCx11
import Derived.Test.YtnblfcibgokccaaGreatDoorPCx13
import Derived.Test.YtnblfcibgokccaaGreatDoorPCx14
namespace Go.Proofs.YtnblfcibgokccaaGreatDoor.LC
open Go.RowKit Go.Proofs.YtnblfcibgokccaaGreatDoor.PC Go.Proofs.YtnblfcibgokccaaGreatDoorW.PrintWords Go.Proofs.YtnblfcibgokccaaGreatDoorW.PrintLast Go.Proofs.YtnblfcibgokccaaGreatDoor.Aid
set_option linter.unusedVariables false
set_option linter.unusedSimpArgs false

theorem rdOf_at (ws : List ByteArray) (i : Nat) (h : i < ws.length) : rdOf ByteArray.empty ws (i : Int) = ws[i] := by
  unfold rdOf; rw [Int.toNat_natCast, List.getD_eq_getElem?_getD, List.getElem?_eq_getElem h]; rfl
theorem l01Numbers_go (ws : List ByteArray) (hl : ws.length ≤ 2000000) : ∀ (d i : Nat) (acc : List Int) (k : Nat), i + d = ws.length → acc.length + d ≤ 2000000 → d + 210 < k →
    spec_l01Numbers.l0 k ws acc (i : Int) = (match vals (ws.drop i) with | some vs => some (acc ++ vs, true) | none => some ([], false)) := by
  intro d
  induction d with
  | zero =>
    intro i acc k hi ha hk
    obtain ⟨k, rfl⟩ : ∃ m, k = m + 1 := ⟨k - 1, by omega⟩
    rw [spec_l01Numbers.l0, if_neg (by omega), List.drop_of_length_le (by omega)]
    simp [vals]
  | succ d ih =>
    intro i acc k hi ha hk
    obtain ⟨k, rfl⟩ : ∃ m, k = m + 1 := ⟨k - 1, by omega⟩
    have hlt : i < ws.length := by omega
    rw [spec_l01Numbers.l0, if_pos (by omega), if_pos (by omega), rdOf_at ws i hlt, List.drop_eq_getElem_cons hlt]
    obtain ⟨v, ok, s1, s2, s3⟩ := l01Signed_eq ws[i] (k := k) (by omega)
    rw [s1]
    simp only [Option.bind_some]
    cases hv : val ws[i] with
    | none =>
      rw [hv] at s2
      subst s2
      rw [if_neg (by simp)]
      simp [vals, hv]
    | some n =>
      rw [hv] at s2
      subst s2
      obtain rfl := s3 n hv
      rw [if_pos (by rfl), if_pos (by omega), w64s (by omega) (by omega), show ((i : Int) + 1) = ((i + 1 : Nat) : Int) by omega, ih (i + 1) _ k (by omega) (by simp; omega) (by omega)]
      cases hr : vals (ws.drop (i + 1)) with
      | none => simp [vals, hv, hr]
      | some vs => simp [vals, hv, hr]
theorem l01Numbers_eq (ws : List ByteArray) (hl : ws.length ≤ 1500000) {k : Nat} (hk : ws.length + 210 < k) : spec_l01Numbers.f k ws = (match vals ws with | some vs => some (vs, true) | none => some ([], false)) := by
  unfold spec_l01Numbers.f
  have := l01Numbers_go ws (by omega) ws.length 0 [] k (by omega) (by simp; omega) hk
  rw [show ((0 : Nat) : Int) = 0 from rfl] at this
  rw [this, List.drop_zero]
  cases vals ws <;> simp
theorem parted_go (ws : List ByteArray) (hl : ws.length ≤ 2000000) (hs : ∀ w ∈ ws, w.size ≤ 1048576) : ∀ (d i : Nat) (acc : List Int) (k : Nat), i + d = ws.length → acc.length + d ≤ 2000000 → d < k →
    ∃ vs ok, impl_parted.l0 k acc ws (ws.length : Int) (i : Int) = some (vs, ok) ∧ (ok = false → vs = []) ∧ (∀ us, vals (ws.drop i) = some us → vs = acc ++ us ∧ ok = true) ∧ (ok = true → ∃ us, vs = acc ++ us ∧ rdAll us (ws.drop i)) := by
  intro d
  induction d with
  | zero =>
    intro i acc k hi ha hk
    obtain ⟨k, rfl⟩ : ∃ m, k = m + 1 := ⟨k - 1, by omega⟩
    rw [impl_parted.l0, if_neg (by omega), List.drop_of_length_le (by omega)]
    exact ⟨acc, true, rfl, by simp, fun us h => by simp [vals] at h; subst h; simp, fun _ => ⟨[], by simp, trivial⟩⟩
  | succ d ih =>
    intro i acc k hi ha hk
    obtain ⟨k, rfl⟩ : ∃ m, k = m + 1 := ⟨k - 1, by omega⟩
    have hlt : i < ws.length := by omega
    have hrd : rdOf ByteArray.empty ws (i : Int) = ws[i] := by unfold rdOf; rw [Int.toNat_natCast, List.getD_eq_getElem?_getD, List.getElem?_eq_getElem hlt]; rfl
    rw [impl_parted.l0, if_pos (by omega), if_pos (by omega), if_pos (by omega), hrd, List.drop_eq_getElem_cons hlt]
    obtain ⟨v, ok, n1, n2, n3⟩ := number_eq ws[i] (hs _ (List.getElem_mem hlt))
    rw [n1]
    simp only [Option.bind_some]
    cases ok with
    | false =>
      rw [if_neg (by simp)]
      refine ⟨[], false, rfl, fun _ => rfl, fun us h => ?_, by simp⟩
      unfold vals at h
      cases hv : val ws[i] with
      | none => rw [hv] at h; cases h
      | some n => exact absurd (n3 n hv).2 (by simp)
    | true =>
      rw [if_pos rfl, if_pos (by omega), w64s (by omega) (by omega), show ((i : Int) + 1) = ((i + 1 : Nat) : Int) by omega]
      obtain ⟨vs, ok, i1, i2, i3, i4⟩ := ih (i + 1) (acc ++ [v]) k (by omega) (by simp; omega) (by omega)
      refine ⟨vs, ok, i1, i2, fun us h => ?_, fun h => ?_⟩
      · unfold vals at h
        cases hv : val ws[i] with
        | none => rw [hv] at h; cases h
        | some n =>
          cases hr : vals (ws.drop (i + 1)) with
          | none => rw [hv, hr] at h; cases h
          | some rs =>
            rw [hv, hr] at h
            obtain rfl := Option.some.inj h
            obtain ⟨j1, j2⟩ := i3 rs hr
            obtain rfl := (n3 n hv).1
            exact ⟨by rw [j1]; simp, j2⟩
      · obtain ⟨us, j1, j2⟩ := i4 h
        exact ⟨v :: us, by rw [j1]; simp, n2 rfl, j2⟩
/-- What reading so many numbers gives. -/
theorem parted_eq (s : ByteArray) (c : UInt8) (m : Nat) (hs : s.size ≤ 1048576) {k : Nat} (hk : s.size + 1 < k) :
    ∃ vs ok, impl_parted.f k s ⟨#[c]⟩ (m : Int) = some (vs, ok) ∧ (ok = false → vs = []) ∧ (∀ us, vals (wds c s) = some us → (wds c s).length = m → vs = us ∧ ok = true) ∧ (ok = true → (wds c s).length = m ∧ rdAll vs (wds c s)) := by
  unfold impl_parted.f
  rw [strSplit_eq s c hs]
  simp only [Option.bind_some]
  have hl := wds_len c s
  by_cases hm : (wds c s).length = m
  · rw [if_pos (by omega)]
    obtain ⟨vs, ok, h1, h2, h3, h4⟩ := parted_go (wds c s) (by omega) (fun w hw => Nat.le_trans (wds_word c s w hw) hs) (wds c s).length 0 [] k (by omega) (by simp; omega) (by omega)
    rw [show ((0 : Nat) : Int) = 0 from rfl] at h1
    rw [List.drop_zero] at h3 h4
    refine ⟨vs, ok, h1, h2, fun us h _ => by simpa using h3 us h, fun h => ⟨hm, ?_⟩⟩
    obtain ⟨us, e, hr⟩ := h4 h
    rw [e]; simpa using hr
  · rw [if_neg (by omega)]
    exact ⟨[], false, rfl, fun _ => rfl, fun _ _ h => absurd h hm, by simp⟩
theorem ReadVec_both (s : ByteArray) (hs : s.size ≤ 1048576) {k : Nat} (hk : 2000000 < k) : ∃ x y b, spec_ReadVec.f k s = some (x, y, b) ∧ impl_ReadVec.f k s = some (x, y, b) ∧ (b = true → IsV x y ∧ rdAll [x, y] (wds 44 s)) := by
  obtain ⟨vs, ok, p1, p2, p3, p4⟩ := parted_eq s 44 2 hs (k := k) (by omega)
  have hsp := l01Split_eq s 44 hs (k := k) (by omega)
  have hnu := l01Numbers_eq (wds 44 s) (by have := wds_len 44 s; omega) (k := k) (by have := wds_len 44 s; omega)
  rw [show ((44 : UInt8).toNat : Int) = 44 from rfl] at hsp
  rw [show ((2 : Nat) : Int) = 2 from rfl] at p1
  unfold spec_ReadVec.f impl_ReadVec.f
  rw [hsp, p1]
  simp only [Option.bind_some]
  rw [hnu]
  by_cases hg : ∃ us, vals (wds 44 s) = some us ∧ us.length = 2
  · obtain ⟨us, h1, h2⟩ := hg
    have hr := (vals_rd _ _ h1).1
    have hlen := rdAll_len _ _ hr
    obtain ⟨rfl, rfl⟩ := p3 us h1 (by omega)
    obtain ⟨x, y, rfl⟩ : ∃ x y, vs = [x, y] := by
      match vs, h2 with
      | [x, y], _ => exact ⟨x, y, rfl⟩
    rw [h1]
    have r0 : rd [x, y] 0 = x := rfl
    have r1 : rd [x, y] 1 = y := rfl
    simp only [Option.bind_some, if_true, r0, r1, spec_IsVec_eq, impl_IsVec_eq]
    by_cases hv : IsV x y
    · refine ⟨x, y, true, ?_, ?_, fun _ => ⟨hv, hr⟩⟩ <;> simp [hv]
    · refine ⟨0, 0, false, ?_, ?_, by simp⟩ <;> simp [hv]
  · refine ⟨0, 0, false, ?_, ?_, by simp⟩
    · cases h1 : vals (wds 44 s) with
      | none => simp
      | some us =>
        have : ¬ us.length = 2 := fun e => hg ⟨us, h1, e⟩
        simp only [Option.bind_some, if_true]
        rw [if_neg (by omega)]
    · cases ok with
      | false => simp
      | true =>
        obtain ⟨q1, q2⟩ := p4 rfl
        have hlen := rdAll_len _ _ q2
        obtain ⟨x, y, rfl⟩ : ∃ x y, vs = [x, y] := by
          match vs, (by omega : vs.length = 2) with
          | [x, y], _ => exact ⟨x, y, rfl⟩
        have r0 : rd [x, y] 0 = x := rfl
        have r1 : rd [x, y] 1 = y := rfl
        simp only [if_true, r0, r1, impl_IsVec_eq, Option.bind_some]
        have hv : ¬ IsV x y := fun hv => hg ⟨[x, y], vals_of _ _ q2 (by unfold IsV at hv; intro u hu; simp at hu; omega), rfl⟩
        simp [hv]
theorem ReadMat_both (s : ByteArray) (hs : s.size ≤ 1048576) {k : Nat} (hk : 2000000 < k) : ∃ a b c d t, spec_ReadMat.f k s = some (a, b, c, d, t) ∧ impl_ReadMat.f k s = some (a, b, c, d, t) := by
  obtain ⟨vs, ok, p1, p2, p3, p4⟩ := parted_eq s 44 4 hs (k := k) (by omega)
  obtain ⟨k0, hk0⟩ : ∃ m, k = m + 1 := ⟨k - 1, by omega⟩
  have hsp := l01Split_eq s 44 hs (k := k) (by omega)
  have hnu := l01Numbers_eq (wds 44 s) (by have := wds_len 44 s; omega) (k := k) (by have := wds_len 44 s; omega)
  rw [show ((44 : UInt8).toNat : Int) = 44 from rfl] at hsp
  rw [show ((4 : Nat) : Int) = 4 from rfl] at p1
  unfold spec_ReadMat.f impl_ReadMat.f
  rw [hsp, p1]
  simp only [Option.bind_some]
  rw [hnu]
  by_cases hg : ∃ us, vals (wds 44 s) = some us ∧ us.length = 4
  · obtain ⟨us, h1, h2⟩ := hg
    have hr := (vals_rd _ _ h1).1
    have hlen := rdAll_len _ _ hr
    obtain ⟨rfl, rfl⟩ := p3 us h1 (by omega)
    obtain ⟨a, b, c, d, rfl⟩ : ∃ a b c d, vs = [a, b, c, d] := by
      match vs, h2 with
      | [a, b, c, d], _ => exact ⟨a, b, c, d, rfl⟩
    rw [h1]
    have r0 : rd [a, b, c, d] 0 = a := rfl
    have r1 : rd [a, b, c, d] 1 = b := rfl
    have r2 : rd [a, b, c, d] 2 = c := rfl
    have r3 : rd [a, b, c, d] 3 = d := rfl
    subst hk0
    simp only [Option.bind_some, if_true, spec_ReadMat.j0, r0, r1, r2, r3, spec_IsMat_eq, impl_IsMat_eq]
    by_cases hv : IsM a b c d
    · refine ⟨a, b, c, d, true, ?_, ?_⟩ <;> simp [hv]
    · refine ⟨0, 0, 0, 0, false, ?_, ?_⟩ <;> simp [hv]
  · refine ⟨0, 0, 0, 0, false, ?_, ?_⟩
    · subst hk0
      cases h1 : vals (wds 44 s) with
      | none => simp [spec_ReadMat.j0]
      | some us =>
        have : ¬ us.length = 4 := fun e => hg ⟨us, h1, e⟩
        have h4 : ((us.length : Int) != 4) = true := by rw [bne_iff_ne]; omega
        simp only [Option.bind_some, if_true, h4, spec_ReadMat.j0]
    · cases ok with
      | false => simp
      | true =>
        obtain ⟨q1, q2⟩ := p4 rfl
        have hlen := rdAll_len _ _ q2
        obtain ⟨a, b, c, d, rfl⟩ : ∃ a b c d, vs = [a, b, c, d] := by
          match vs, (by omega : vs.length = 4) with
          | [a, b, c, d], _ => exact ⟨a, b, c, d, rfl⟩
        have r0 : rd [a, b, c, d] 0 = a := rfl
        have r1 : rd [a, b, c, d] 1 = b := rfl
        have r2 : rd [a, b, c, d] 2 = c := rfl
        have r3 : rd [a, b, c, d] 3 = d := rfl
        simp only [if_true, r0, r1, r2, r3, impl_IsMat_eq, Option.bind_some]
        have hv : ¬ IsM a b c d := fun hv => hg ⟨[a, b, c, d], vals_of _ _ q2 (by have := hv.1; unfold IsV at this; intro u hu; simp at hu; omega), rfl⟩
        simp [hv]
theorem itoa_chr (n : Int) : ∀ c ∈ Lib.itoa n, c.toNat = 45 ∨ (48 ≤ c.toNat ∧ c.toNat ≤ 57) := by
  intro c hc
  unfold Lib.itoa at hc
  by_cases h : n < 0
  · rw [if_pos h] at hc
    rcases List.mem_cons.1 hc with rfl | hc
    · left; rfl
    · right; exact (dv_dec _ _ (Nat.le_refl _)).2.1 c hc
  · rw [if_neg h] at hc
    right; exact (dv_dec _ _ (Nat.le_refl _)).2.1 c hc
theorem splitL_mem (c b : UInt8) (hb : b ≠ c) : ∀ l, b ∈ l → ∃ w ∈ splitL c l, b ∈ w
  | x :: r, h => by
    unfold splitL
    by_cases hx : x = c
    · rw [if_pos hx]
      rcases List.mem_cons.1 h with e | h
      · exact absurd (e.trans hx) hb
      · obtain ⟨w, h1, h2⟩ := splitL_mem c b hb r h
        exact ⟨w, by simp [h1], h2⟩
    · rw [if_neg hx]
      cases hq : splitL c r with
      | nil => exact absurd hq (splitL_ne c r)
      | cons y ys =>
        rcases List.mem_cons.1 h with rfl | h
        · exact ⟨_, List.mem_cons_self, List.mem_cons_self⟩
        · obtain ⟨w, h1, h2⟩ := splitL_mem c b hb r h
          rw [hq] at h1
          rcases List.mem_cons.1 h1 with rfl | h1
          · exact ⟨_, List.mem_cons_self, List.mem_cons_of_mem _ h2⟩
          · exact ⟨w, List.mem_cons_of_mem _ h1, h2⟩
theorem cut_cases (c : UInt8) : ∀ l : List UInt8, (c ∉ l ∧ Lib.cut l [c] = (l, [], false) ∧ splitL c l = [l]) ∨ (∃ p q, Lib.cut l [c] = (p, q, true) ∧ splitL c l = p :: splitL c q ∧ l = p ++ c :: q)
  | [] => Or.inl ⟨by simp, by simp [Lib.cut, Lib.index], rfl⟩
  | b :: l => by
    by_cases h : b = c
    · subst h
      right
      refine ⟨[], l, ?_, ?_, rfl⟩
      · have hix : Lib.index (b :: l) [b] = 0 := by rw [Lib.index]; simp [List.isPrefixOf]
        unfold Lib.cut; rw [hix]; simp
      · rw [splitL, if_pos rfl]
    · have hp : ([c] : List UInt8).isPrefixOf (b :: l) = false := by simp [List.isPrefixOf, Ne.symm h]
      have hix : Lib.index (b :: l) [c] = if Lib.index l [c] == -1 then -1 else Lib.index l [c] + 1 := by rw [Lib.index, hp]; simp
      have hge := Lib.index_ge l [c]
      rcases cut_cases c l with ⟨n1, n2, n3⟩ | ⟨p, q, n1, n2, n3⟩
      · left
        have hi : ¬ 0 ≤ Lib.index l [c] := fun hi => by unfold Lib.cut at n2; rw [if_pos hi] at n2; simp at n2
        refine ⟨by simp [Ne.symm h, n1], ?_, ?_⟩
        · have hix2 : Lib.index (b :: l) [c] = -1 := by rw [hix, if_pos (by rw [beq_iff_eq]; omega)]
          unfold Lib.cut
          rw [hix2, if_neg (by decide)]
        · rw [splitL, if_neg h, n3]
      · right
        have hi : 0 ≤ Lib.index l [c] := by
          by_cases hi : 0 ≤ Lib.index l [c]
          · exact hi
          · unfold Lib.cut at n1; rw [if_neg hi] at n1; simp at n1
        unfold Lib.cut at n1
        rw [if_pos hi] at n1
        simp only [Prod.mk.injEq, and_true] at n1
        refine ⟨b :: p, q, ?_, ?_, by rw [n3]; rfl⟩
        · have hix2 : Lib.index (b :: l) [c] = Lib.index l [c] + 1 := by rw [hix, if_neg (by rw [beq_iff_eq]; omega)]
          unfold Lib.cut
          rw [hix2, if_pos (by omega), show (Lib.index l [c] + 1).toNat = (Lib.index l [c]).toNat + 1 by omega]
          simp only [Prod.mk.injEq, and_true]
          refine ⟨by rw [List.take_succ_cons, n1.1], ?_⟩
          rw [← n1.2]
          simp
        · rw [splitL, if_neg h, n2]
theorem vec_nosemi (s : ByteArray) (x y : Int) (h : rdAll [x, y] (wds 44 s)) : (59 : UInt8) ∉ LB s := by
  intro hm
  obtain ⟨w, h1, h2⟩ := splitL_mem 44 59 (by decide) (LB s) hm
  have hw : ba w ∈ wds 44 s := List.mem_map.2 ⟨w, h1, rfl⟩
  have hlen := rdAll_len _ _ h
  match hq : wds 44 s, h with
  | [w0, w1], h =>
    rw [hq] at hw
    have e : ∃ n, Lib.itoa n = LB (ba w) := by
      simp only [List.mem_cons, List.not_mem_nil, or_false] at hw
      rcases hw with e | e
      · exact ⟨x, by rw [e]; exact h.1⟩
      · exact ⟨y, by rw [e]; exact h.2.1⟩
    obtain ⟨n, hn⟩ := e
    rw [LB_ba] at hn
    have := itoa_chr n 59 (by rw [hn]; exact h2)
    revert this; decide
theorem ReadMotion_both (s : ByteArray) (hs : s.size ≤ 1048576) {k : Nat} (hk : 2000000 < k) : ∃ r, spec_ReadMotion.f k s = some r ∧ impl_ReadMotion.f k s = some r := by
  have hsp := l01Split_eq s 59 hs (k := k) (by omega)
  rw [show ((59 : UInt8).toNat : Int) = 59 from rfl] at hsp
  have hcut : strings_Cut.f s (⟨#[59]⟩ : ByteArray) = some (ba (Lib.cut (LB s) [59]).1, ba (Lib.cut (LB s) [59]).2.1, (Lib.cut (LB s) [59]).2.2) := by
    unfold strings_Cut.f
    rw [if_pos (by omega)]; rfl
  unfold spec_ReadMotion.f impl_ReadMotion.f
  rw [hsp, hcut]
  simp only [Option.bind_some]
  have hsz := LB_size s
  rcases cut_cases 59 (LB s) with ⟨n1, n2, n3⟩ | ⟨p, q, n1, n2, n3⟩
  · -- no semicolon
    refine ⟨(0, 0, 0, 0, 0, 0, false), ?_, ?_⟩
    · unfold wds; rw [n3]; simp
    · rw [n2]
      obtain ⟨a, b, c, d, t, m1, m2⟩ := ReadMat_both (ba (LB s)) (by rw [ba_LB]; exact hs) hk
      obtain ⟨x, y, u, v1, v2, v3⟩ := ReadVec_both (ba []) (by simp [ba, ByteArray.size]) hk
      rw [m2]
      simp only [Option.bind_some]
      rw [v2]
      simp only [Option.bind_some]
      have hu : u = false := by
        cases u with
        | false => rfl
        | true =>
          have := rdAll_len _ _ (v3 rfl).2
          simp [wds, LB_ba, splitL] at this
      subst hu
      simp
  · have hlen : (LB s).length = p.length + (1 + q.length) := by rw [n3]; simp; omega
    have hpl : (ba p).size ≤ 1048576 := by show p.length ≤ _; omega
    have hql : (ba q).size ≤ 1048576 := by show q.length ≤ _; omega
    obtain ⟨a, b, c, d, t, m1, m2⟩ := ReadMat_both (ba p) hpl hk
    obtain ⟨x, y, u, v1, v2, v3⟩ := ReadVec_both (ba q) hql hk
    rw [n1]
    simp only
    rw [m2]
    simp only [Option.bind_some]
    rw [v2]
    simp only [Option.bind_some]
    have hw : wds 59 s = ba p :: (splitL 59 q).map ba := by unfold wds; rw [n2]; rfl
    by_cases h59 : (59 : UInt8) ∈ q
    · -- a second semicolon
      have hu : u = false := by
        cases u with
        | false => rfl
        | true => exact absurd h59 (by have := vec_nosemi (ba q) x y (v3 rfl).2; rwa [LB_ba] at this)
      subst hu
      refine ⟨(0, 0, 0, 0, 0, 0, false), ?_, by simp⟩
      have hne : ((wds 59 s).length : Int) ≠ 2 := by
        rw [hw]
        rcases cut_cases 59 q with ⟨k1, _, _⟩ | ⟨p2, q2, _, k2, _⟩
        · exact absurd h59 k1
        · rw [k2]
          have := List.length_pos_iff.2 (splitL_ne 59 q2)
          simp; omega
      rw [if_neg hne]
    · have hq1 : splitL 59 q = [q] := by
        rcases cut_cases 59 q with ⟨_, _, k3⟩ | ⟨p2, q2, _, _, k3⟩
        · exact k3
        · exact absurd (by rw [k3]; simp) h59
      rw [hw, hq1]
      have r0 : rdOf ByteArray.empty [ba p, ba q] 0 = ba p := rfl
      have r1 : rdOf ByteArray.empty [ba p, ba q] 1 = ba q := rfl
      simp only [List.map_cons, List.map_nil, r0, r1, m1, v1, Option.bind_some]
      cases t with
      | false => refine ⟨(0, 0, 0, 0, 0, 0, false), ?_, ?_⟩ <;> simp
      | true =>
        cases u with
        | false => refine ⟨(0, 0, 0, 0, 0, 0, false), ?_, ?_⟩ <;> simp
        | true =>
          simp only [if_true, spec_IsMotion_eq a b c d x y (show 20 < k by omega), impl_IsMotion_eq a b c d x y (show 20 < k by omega), Option.bind_some]
          by_cases hmo : IsM a b c d ∧ Turn a b c d ∧ IsV x y
          · refine ⟨(a, b, c, d, x, y, true), ?_, ?_⟩ <;> simp [hmo]
          · refine ⟨(0, 0, 0, 0, 0, 0, false), ?_, ?_⟩ <;> simp [hmo]

end Go.Proofs.YtnblfcibgokccaaGreatDoor.LC
