/- Plain lemmas on reading numbers and on a text's pieces. -/
import Derived.Test.YtnblfcibgokccaaGreatDoorAid
import Derived.Test.YtnblfcibgokccaaGreatDoorPCx0
import Derived.Test.YtnblfcibgokccaaGreatDoorLCABasic
import Derived.Test.YtnblfcibgokccaaGreatDoorLCZoaBytes
import Derived.Test.YtnblfcibgokccaaGreatDoorLCZpTexts
import Derived.Test.YtnblfcibgokccaaGreatDoorPCx0
import Derived.Test.YtnblfcibgokccaaGreatDoorPCx10
import Derived.Test.YtnblfcibgokccaaGreatDoorPCx12
import Derived.Lib.ParseIntB
import Derived.Lib.ItoaNum
import Derived.Lib.SplitLaws
namespace Go.Proofs.YtnblfcibgokccaaGreatDoor.LC
open Go.RowKit Go.Proofs.YtnblfcibgokccaaGreatDoor.PC Go.Proofs.YtnblfcibgokccaaGreatDoorW.PrintWords Go.Proofs.YtnblfcibgokccaaGreatDoorW.PrintLast Go.Proofs.YtnblfcibgokccaaGreatDoor.Aid
set_option linter.unusedVariables false
set_option linter.unusedSimpArgs false

theorem puM_app (M : Nat) : ∀ (xs ys : List UInt8) (acc : Nat), Lib.parseUintM M acc (xs ++ ys) = (match Lib.parseUintM M acc xs with | .ok a => Lib.parseUintM M a ys | .range => .range | Lib.NumEnd.syntax => Lib.NumEnd.syntax)
  | [], ys, acc => by simp [Lib.parseUintM]
  | c :: r, ys, acc => by
    simp only [List.cons_append, Lib.parseUintM]
    by_cases h : 48 ≤ c.toNat ∧ c.toNat ≤ 57
    · rw [if_pos h, if_pos h]
      by_cases h1 : 1844674407370955162 ≤ acc
      · rw [if_pos h1, if_pos h1]
      · rw [if_neg h1, if_neg h1]
        by_cases h2 : M < acc * 10 + (c.toNat - 48)
        · rw [if_pos h2, if_pos h2]
        · rw [if_neg h2, if_neg h2]; exact puM_app M r ys _
    · rw [if_neg h, if_neg h]
theorem pu_dec (M : Nat) (hM : M ≤ 18446744073709551615) : ∀ (d u : Nat), u ≤ d → u ≤ M → Lib.parseUintM M 0 (Lib.decDigits u) = .ok u ∧ Lib.decDigits u ≠ [] ∧ (∀ c ∈ Lib.decDigits u, 48 ≤ c.toNat ∧ c.toNat ≤ 57) := by
  intro d
  induction d with
  | zero =>
    intro u hu _
    obtain rfl : u = 0 := by omega
    rw [Lib.decDigits_one (by omega)]
    exact ⟨by simp [Lib.parseUintM], by simp, by simp⟩
  | succ d ih =>
    intro u hu hm
    have hdig : ∀ q, q < 10 → (UInt8.ofNat (48 + q)).toNat = 48 + q := fun q hq => by rw [UInt8.toNat_ofNat']; omega
    by_cases h : u < 10
    · rw [Lib.decDigits_one h]
      refine ⟨?_, by simp, fun c hc => by rw [List.mem_singleton.1 hc, hdig u h]; omega⟩
      simp only [Lib.parseUintM, hdig u h]
      rw [if_pos (by omega), if_neg (by omega), if_neg (by omega)]
      congr 1; omega
    · obtain ⟨i1, i2, i3⟩ := ih (u / 10) (by omega) (by omega)
      rw [Lib.decDigits, dif_neg h]
      refine ⟨?_, by simp, fun c hc => ?_⟩
      · rw [puM_app, i1]
        simp only [Lib.parseUintM, hdig (u % 10) (by omega)]
        rw [if_pos (by omega), if_neg (by omega), if_neg (by omega)]
        congr 1; omega
      · rcases List.mem_append.1 hc with hc | hc
        · exact i3 c hc
        · rw [List.mem_singleton.1 hc, hdig _ (by omega)]; omega
theorem parse_itoa (n : Int) (h0 : -9223372036854775808 ≤ n) (h1 : n ≤ 9223372036854775807) : Lib.parseIntB 64 (Lib.itoa n) = .ok n := by
  unfold Lib.itoa
  by_cases h : n < 0
  · obtain ⟨p1, p2, p3⟩ := pu_dec (2 ^ 64 - 1) (by decide) n.natAbs n.natAbs (by omega) (by omega)
    have q : Lib.parseUintB 64 (Lib.decDigits n.natAbs) = .ok n.natAbs := by unfold Lib.parseUintB; rw [if_neg p2]; exact p1
    rw [if_pos h]
    have e0 : (45 : UInt8).toNat = 45 := rfl
    simp only [Lib.parseIntB, e0, or_true, if_true, q]
    rw [if_neg (by simp), if_neg (by omega)]
    congr 1; omega
  · obtain ⟨p1, p2, p3⟩ := pu_dec (2 ^ 64 - 1) (by decide) n.toNat n.toNat (by omega) (by omega)
    have q : Lib.parseUintB 64 (Lib.decDigits n.toNat) = .ok n.toNat := by unfold Lib.parseUintB; rw [if_neg p2]; exact p1
    rw [if_neg h]
    cases hd : Lib.decDigits n.toNat with
    | nil => exact absurd hd p2
    | cons c r =>
      have hc := p3 c (by rw [hd]; simp)
      rw [hd] at q
      have e1 : ¬ (c.toNat = 43 ∨ c.toNat = 45) := by omega
      have e2 : ¬ c.toNat = 45 := by omega
      have e3 : ¬ c.toNat = 43 := by omega
      simp only [Lib.parseIntB, e2, e3, or_false, if_false]
      rw [q]
      simp only [not_false_eq_true, true_and, false_and, if_false]
      rw [if_neg (by omega)]
      congr 1; omega
/-- A text's pieces at a byte. -/
def splitL (c : UInt8) : List UInt8 → List (List UInt8)
  | [] => [[]]
  | b :: r => if b = c then [] :: splitL c r else match splitL c r with
    | w :: ws => (b :: w) :: ws
    | [] => [[b]]
theorem splitL_ne (c : UInt8) : ∀ s, splitL c s ≠ []
  | [] => by simp [splitL]
  | b :: r => by
    unfold splitL
    by_cases h : b = c
    · simp [h]
    · rw [if_neg h]; cases splitL c r <;> simp
theorem splitK_eq (c : UInt8) : ∀ s : List UInt8, Lib.splitK [c] 0 (Lib.count s [c]) s = splitL c s
  | [] => by rw [Lib.count_one]; rfl
  | b :: l => by
    have ih := splitK_eq c l
    unfold splitL
    by_cases h : b = c
    · subst h
      have hix : Lib.index (b :: l) [b] = 0 := by rw [Lib.index]; simp [List.isPrefixOf]
      rw [Lib.count_cons_eq, Nat.add_comm, Lib.splitK, hix, if_pos rfl]
      simp [ih]
    · rw [if_neg h, Lib.count_cons_ne b c l h, ← ih]
      have hp : ([c] : List UInt8).isPrefixOf (b :: l) = false := by simp [List.isPrefixOf, Ne.symm h]
      have hix : Lib.index (b :: l) [c] = if Lib.index l [c] == -1 then -1 else Lib.index l [c] + 1 := by rw [Lib.index, hp]; simp
      cases hk : Lib.count l [c] with
      | zero => rfl
      | succ k =>
        have hm : Lib.index l [c] ≠ -1 := fun e => by rw [Lib.count_miss e] at hk; omega
        have hge := Lib.index_ge l [c]
        obtain ⟨j, hj⟩ : ∃ j : Nat, Lib.index l [c] = j := ⟨(Lib.index l [c]).toNat, by omega⟩
        rw [Lib.splitK, Lib.splitK, hix, hj]
        have e1 : ¬ (((j : Nat) : Int) == -1) = true := by simp
        have e2 : ¬ ((((j : Nat) : Int) + 1) == -1) = true := by simp; omega
        rw [if_neg e1, if_neg e1, if_neg e2]
        have e3 : (((j : Nat) : Int) + 1).toNat = j + 1 := by omega
        simp [e3]
theorem splitL_head (c : UInt8) : ∀ (p q : List UInt8), c ∉ p → splitL c (p ++ c :: q) = p :: splitL c q
  | [], q, _ => by rw [List.nil_append, splitL, if_pos rfl]
  | b :: p, q, h => by
    have hb : ¬ b = c := fun e => h (by simp [e])
    have ih := splitL_head c p q (fun e => h (by simp [e]))
    rw [List.cons_append, splitL, if_neg hb, ih]
theorem tl_LB (a : ByteArray) : a.toList = LB a := by cases a; exact ByteArray.toList_mk _
theorem LB_ext (s : ByteArray) (a b : Nat) : LB (s.extract a b) = ((LB s).drop a).take (b - a) := Lib.extract_data s a b
theorem ext_ba (s : ByteArray) (a b : Nat) : s.extract a b = ba (((LB s).drop a).take (b - a)) := by rw [← LB_ext, ba_LB]
theorem bt_at (s : ByteArray) (i : Nat) (h : i < (LB s).length) : bt s (i : Int) = (((LB s)[i]).toNat : Int) := by
  have h2 : i < s.size := h
  unfold bt
  rw [dif_pos (by simpa using h2)]
  rfl
/-- A text's pieces. -/
def wds (c : UInt8) (s : ByteArray) : List ByteArray := (splitL c (LB s)).map ba
def mrg (w : List UInt8) : List (List UInt8) → List (List UInt8)
  | [] => [w]
  | x :: xs => (w ++ x) :: xs
theorem l01Split_go (s : ByteArray) (c : UInt8) (hs : s.size ≤ 1048576) : ∀ (d i fr : Nat) (out : List ByteArray) (k : Nat), i + d = s.size → fr ≤ i → out.length + d ≤ 2000000 → d + 1 < k →
    spec_l01Split.l0 k s (c.toNat : Int) out (fr : Int) (i : Int) = some (out ++ (mrg (((LB s).drop fr).take (i - fr)) (splitL c ((LB s).drop i))).map ba) := by
  intro d
  induction d with
  | zero =>
    intro i fr out k hi hf ho hk
    obtain ⟨k, rfl⟩ : ∃ m, k = m + 1 + 1 := ⟨k - 2, by omega⟩
    rw [spec_l01Split.l0]
    rw [if_pos (by omega), if_pos (by omega), if_pos (by omega), if_pos (by omega), if_pos (by omega), w64s (by omega) (by omega)]
    rw [spec_l01Split.l0, if_neg (by omega), List.drop_of_length_le (by rw [LB_size]; omega : (LB s).length ≤ i), ext_ba]
    simp [splitL, mrg]
  | succ d ih =>
    intro i fr out k hi hf ho hk
    obtain ⟨k, rfl⟩ : ∃ m, k = m + 1 := ⟨k - 1, by omega⟩
    have hlt : i < (LB s).length := by rw [LB_size]; omega
    have e1 : ((i : Int) + 1) = ((i + 1 : Nat) : Int) := by omega
    rw [spec_l01Split.l0, if_pos (by omega), if_neg (by omega), if_pos (by omega), if_pos (by omega), bt_at s i hlt, List.drop_eq_getElem_cons hlt, w64s (by omega) (by omega), e1]
    by_cases hb : (LB s)[i] = c
    · rw [if_pos (by rw [hb]), if_pos (by omega), if_pos (by omega), if_pos (by omega), ih (i + 1) (i + 1) _ k (by omega) (by omega) (by simp; omega) (by omega), ext_ba]
      rw [splitL, if_pos hb]
      have hne := splitL_ne c ((LB s).drop (i + 1))
      cases hq : splitL c ((LB s).drop (i + 1)) with
      | nil => exact absurd hq hne
      | cons x xs => simp [mrg]
    · rw [if_neg (by intro e; apply hb; apply UInt8.toNat_inj.1; omega), ih (i + 1) fr _ k (by omega) (by omega) (by omega) (by omega)]
      rw [splitL, if_neg hb]
      have hne := splitL_ne c ((LB s).drop (i + 1))
      have ht : ((LB s).drop fr).take (i + 1 - fr) = ((LB s).drop fr).take (i - fr) ++ [(LB s)[i]] := by
        rw [show i + 1 - fr = (i - fr) + 1 by omega, List.take_succ_eq_append_getElem (by rw [List.length_drop]; omega), List.getElem_drop]
        congr 3; omega
      cases hq : splitL c ((LB s).drop (i + 1)) with
      | nil => exact absurd hq hne
      | cons x xs => simp [mrg, ht]
theorem l01Split_eq (s : ByteArray) (c : UInt8) (hs : s.size ≤ 1048576) {k : Nat} (hk : s.size + 1 < k) : spec_l01Split.f k s (c.toNat : Int) = some (wds c s) := by
  unfold spec_l01Split.f wds
  have := l01Split_go s c hs s.size 0 0 [] k (by omega) (by omega) (by simp; omega) hk
  rw [show ((0 : Nat) : Int) = 0 from rfl] at this
  rw [this]
  have hne := splitL_ne c (LB s)
  cases hq : splitL c (LB s) with
  | nil => exact absurd hq hne
  | cons x xs => simp [mrg, hq]
theorem splitL_len (c : UInt8) : ∀ l, (splitL c l).length ≤ l.length + 1
  | [] => by simp [splitL]
  | b :: r => by
    have ih := splitL_len c r
    unfold splitL
    by_cases h : b = c
    · rw [if_pos h]; simp; omega
    · rw [if_neg h]
      cases hq : splitL c r with
      | nil => simp
      | cons x xs => rw [hq] at ih; simp at ih ⊢; omega
theorem splitL_word (c : UInt8) : ∀ l, ∀ w ∈ splitL c l, w.length ≤ l.length
  | [], w, hw => by simp [splitL] at hw; simp [hw]
  | b :: r, w, hw => by
    have ih := splitL_word c r
    unfold splitL at hw
    by_cases h : b = c
    · rw [if_pos h] at hw
      rcases List.mem_cons.1 hw with rfl | hw
      · simp
      · have := ih w hw; simp; omega
    · rw [if_neg h] at hw
      cases hq : splitL c r with
      | nil => exact absurd hq (splitL_ne c r)
      | cons x xs =>
        rw [hq] at hw ih
        rcases List.mem_cons.1 hw with rfl | hw
        · have := ih x (by simp); simp; omega
        · have := ih w (by simp [hw]); simp; omega
theorem wds_len (c : UInt8) (s : ByteArray) : (wds c s).length ≤ s.size + 1 := by unfold wds; rw [List.length_map]; exact splitL_len c _
theorem wds_word (c : UInt8) (s : ByteArray) : ∀ w ∈ wds c s, w.size ≤ s.size := by
  intro w hw
  obtain ⟨l, h1, rfl⟩ := List.mem_map.1 hw
  have := splitL_word c _ l h1
  rw [LB_size] at this
  exact this
theorem strSplit_eq (s : ByteArray) (c : UInt8) (hs : s.size ≤ 1048576) : strings_Split.f s ⟨#[c]⟩ = some (wds c s) := by
  unfold strings_Split.f
  rw [if_pos ⟨by omega, by simp [ByteArray.size]⟩]
  congr 1
  have h := Lib.splitB_data (⟨#[c]⟩ : ByteArray) 0 (Lib.countB s ⟨#[c]⟩) s
  have h2 : Lib.splitK (⟨#[c]⟩ : ByteArray).data.toList 0 (Lib.countB s ⟨#[c]⟩) s.data.toList = splitL c (LB s) := splitK_eq c (LB s)
  rw [h2] at h
  unfold wds
  rw [← h, List.map_map]
  have : (ba ∘ fun x : ByteArray => x.data.toList) = id := by funext x; exact ba_LB x
  rw [this, List.map_id]
/-- The number that a text is, of at most ten digits. -/
def val (w : ByteArray) : Option Int := match Lib.parseIntB 64 (LB w) with
  | .ok v => if Lib.itoa v = LB w ∧ -9999999999 ≤ v ∧ v ≤ 9999999999 then some v else none
  | .range => none
  | Lib.NumEnd.syntax => none
theorem val_iff (w : ByteArray) (n : Int) : val w = some n ↔ (Lib.itoa n = LB w ∧ -9999999999 ≤ n ∧ n ≤ 9999999999) := by
  constructor
  · intro h
    unfold val at h
    cases hp : Lib.parseIntB 64 (LB w) with
    | ok v =>
      rw [hp] at h
      simp only at h
      by_cases c : Lib.itoa v = LB w ∧ -9999999999 ≤ v ∧ v ≤ 9999999999
      · rw [if_pos c] at h
        obtain rfl := Option.some.inj h
        exact c
      · rw [if_neg c] at h; cases h
    | range => rw [hp] at h; cases h
    | _ => rw [hp] at h; cases h
  · intro h
    unfold val
    rw [← h.1, parse_itoa n (by omega) (by omega)]
    simp [h.2]
def vals : List ByteArray → Option (List Int)
  | [] => some []
  | w :: ws => match val w, vals ws with
    | some v, some vs => some (v :: vs)
    | _, _ => none
/-- The numbers whose texts these are. -/
def rdAll : List Int → List ByteArray → Prop
  | [], [] => True
  | u :: us, w :: ws => Lib.itoa u = LB w ∧ rdAll us ws
  | [], _ :: _ => False
  | _ :: _, [] => False
theorem rdAll_len : ∀ (us : List Int) (ws : List ByteArray), rdAll us ws → us.length = ws.length
  | [], [], _ => rfl
  | u :: us, w :: ws, h => by simp [rdAll_len us ws h.2]
theorem vals_of : ∀ (us : List Int) (ws : List ByteArray), rdAll us ws → (∀ u ∈ us, -9999999999 ≤ u ∧ u ≤ 9999999999) → vals ws = some us
  | [], [], _, _ => rfl
  | u :: us, w :: ws, h, hb => by
    have h1 := (val_iff w u).2 ⟨h.1, hb u (by simp)⟩
    have h2 := vals_of us ws h.2 (fun x hx => hb x (by simp [hx]))
    simp [vals, h1, h2]
theorem vals_rd : ∀ (ws : List ByteArray) (us : List Int), vals ws = some us → rdAll us ws ∧ ∀ u ∈ us, -9999999999 ≤ u ∧ u ≤ 9999999999
  | [], us, h => by simp [vals] at h; subst h; exact ⟨trivial, by simp⟩
  | w :: ws, us, h => by
    unfold vals at h
    cases h1 : val w with
    | none => rw [h1] at h; cases h
    | some v =>
      cases h2 : vals ws with
      | none => rw [h1, h2] at h; cases h
      | some vs =>
        rw [h1, h2] at h
        obtain rfl := Option.some.inj h
        obtain ⟨i1, i2⟩ := vals_rd ws vs h2
        have h3 := (val_iff w v).1 h1
        exact ⟨⟨h3.1, i1⟩, fun u hu => by rcases List.mem_cons.1 hu with rfl | hu; exact h3.2; exact i2 u hu⟩
theorem number_eq (w : ByteArray) (hs : w.size ≤ 1048576) : ∃ v ok, impl_number.f w = some (v, ok) ∧ (ok = true → Lib.itoa v = LB w) ∧ (∀ n, val w = some n → v = n ∧ ok = true) := by
  unfold impl_number.f
  rw [if_pos (by omega)]
  have hd : w.data.toList = LB w := rfl
  rw [hd]
  cases hp : Lib.parseIntB 64 (LB w) with
  | ok v =>
    refine ⟨v, _, rfl, fun h => ?_, fun n hn => ?_⟩
    · have := beq_iff_eq.1 h
      rw [tl_LB, tl_LB] at this
      exact (LB_ba _).symm.trans this
    · have h1 := (val_iff w n).1 hn
      have h2 := parse_itoa n (by omega) (by omega)
      rw [h1.1, hp] at h2
      injection h2 with h2
      subst h2
      refine ⟨rfl, ?_⟩
      rw [beq_iff_eq, tl_LB, tl_LB, ← h1.1]
      exact LB_ba _
  | range =>
    refine ⟨_, _, rfl, by simp, fun n hn => ?_⟩
    have h1 := (val_iff w n).1 hn
    have h2 := parse_itoa n (by omega) (by omega)
    rw [h1.1, hp] at h2; cases h2
  | _ =>
    refine ⟨_, _, rfl, by simp, fun n hn => ?_⟩
    have h1 := (val_iff w n).1 hn
    have h2 := parse_itoa n (by omega) (by omega)
    rw [h1.1, hp] at h2; cases h2
/-- A row of digits as a number. -/
def dv (a : Nat) (l : List UInt8) : Nat := l.foldl (fun a c => 10 * a + (c.toNat - 48)) a
theorem dv_dec : ∀ (d u : Nat), u ≤ d → dv 0 (Lib.decDigits u) = u ∧ (∀ c ∈ Lib.decDigits u, dig c) ∧ Lib.decDigits u ≠ [] := by
  intro d
  induction d with
  | zero =>
    intro u hu
    obtain rfl : u = 0 := by omega
    rw [Lib.decDigits_one (by omega)]
    exact ⟨by simp [dv], by simp [dig], by simp⟩
  | succ d ih =>
    intro u hu
    have hdig : ∀ q, q < 10 → (UInt8.ofNat (48 + q)).toNat = 48 + q := fun q hq => by rw [UInt8.toNat_ofNat']; omega
    by_cases h : u < 10
    · rw [Lib.decDigits_one h]
      refine ⟨?_, fun c hc => ?_, by simp⟩
      · simp only [dv, List.foldl_cons, List.foldl_nil, hdig u h]; omega
      · rw [List.mem_singleton.1 hc]; unfold dig; rw [hdig u h]; omega
    · obtain ⟨i1, i2, i3⟩ := ih (u / 10) (by omega)
      rw [Lib.decDigits, dif_neg h]
      refine ⟨?_, fun c hc => ?_, by simp⟩
      · unfold dv at i1 ⊢
        rw [List.foldl_append, i1]
        simp only [List.foldl_cons, List.foldl_nil, hdig (u % 10) (by omega)]; omega
      · rcases List.mem_append.1 hc with hc | hc
        · exact i2 c hc
        · rw [List.mem_singleton.1 hc]; unfold dig; rw [hdig _ (by omega)]; omega
theorem dv_lt : ∀ (l : List UInt8) (a n : Nat), (∀ c ∈ l, dig c) → a < 10 ^ n → dv a l < 10 ^ (n + l.length)
  | [], a, n, _, h => by simpa [dv] using h
  | c :: l, a, n, hd, h => by
    have hc := hd c (by simp)
    unfold dig at hc
    have := dv_lt l (10 * a + (c.toNat - 48)) (n + 1) (fun x hx => hd x (by simp [hx])) (by rw [Nat.pow_succ]; omega)
    rw [show n + (c :: l).length = n + 1 + l.length by simp; omega]
    exact this
theorem l01Digits_go (w : ByteArray) (hw : w.size ≤ 10) : ∀ (d i acc k : Nat), i + d = w.size → acc < 10 ^ i → d + 25 < k →
    spec_l01Digits.l0 k w (acc : Int) (i : Int) = if (∀ c ∈ (LB w).drop i, dig c) then some ((dv acc ((LB w).drop i) : Int), (ba (Lib.decDigits (dv acc ((LB w).drop i)))).toList == w.toList) else some (0, false) := by
  intro d
  induction d with
  | zero =>
    intro i acc k hi ha hk
    obtain ⟨k, rfl⟩ : ∃ m, k = m + 1 := ⟨k - 1, by omega⟩
    have hp : (10 : Nat) ^ i ≤ 10 ^ 10 := Nat.pow_le_pow_right (by decide) (by omega)
    have p19 : (10 : Nat) ^ 10 = 10000000000 := by decide
    have p20 : (10 : Nat) ^ (18 + 1) = 10000000000000000000 := by decide
    have hdec := (l01Dec_eq 18 acc (by omega) (by omega) (by omega) k (by omega)).1
    rw [spec_l01Digits.l0, if_neg (by omega), hdec, List.drop_of_length_le (by rw [LB_size]; omega : (LB w).length ≤ i)]
    simp [dv, ba]
  | succ d ih =>
    intro i acc k hi ha hk
    obtain ⟨k, rfl⟩ : ∃ m, k = m + 1 := ⟨k - 1, by omega⟩
    have hp : (10 : Nat) ^ i ≤ 10 ^ 10 := Nat.pow_le_pow_right (by decide) (by omega)
    have p19 : (10 : Nat) ^ 10 = 10000000000 := by decide
    have hlt : i < (LB w).length := by rw [LB_size]; omega
    rw [spec_l01Digits.l0, if_pos (by omega), if_pos (by omega), bt_at w i hlt, List.drop_eq_getElem_cons hlt]
    have hb := UInt8.toNat_lt ((LB w)[i])
    by_cases hc : dig ((LB w)[i])
    · have hc2 := hc
      unfold dig at hc2
      rw [if_neg (by omega), if_neg (by omega), w64s (x := 10 * (acc : Int)) (by omega) (by omega), w64s (x := (i : Int) + 1) (by omega) (by omega), w64s (by omega) (by omega)]
      rw [show 10 * (acc : Int) + ((((LB w)[i]).toNat : Int) - 48) % 256 = ((10 * acc + (((LB w)[i]).toNat - 48) : Nat) : Int) by omega, show ((i : Int) + 1) = ((i + 1 : Nat) : Int) by omega, ih (i + 1) _ k (by omega) (by rw [Nat.pow_succ]; omega) (by omega)]
      by_cases hr : ∀ c ∈ (LB w).drop (i + 1), dig c
      · rw [if_pos hr, if_pos (by intro c hx; rcases List.mem_cons.1 hx with rfl | hx; exact hc; exact hr c hx)]
        rfl
      · rw [if_neg hr, if_neg (fun h => hr (fun c hx => h c (List.mem_cons_of_mem _ hx)))]
    · have hn : ¬ ∀ c ∈ (LB w)[i] :: (LB w).drop (i + 1), dig c := fun h => hc (h _ List.mem_cons_self)
      rw [if_neg hn]
      unfold dig at hc
      by_cases h1 : (((LB w)[i]).toNat : Int) < 48
      · rw [if_pos h1]
      · rw [if_neg h1, if_pos (by omega)]
theorem l01Digits_eq (w : ByteArray) {k : Nat} (hk : 100 < k) : ∃ (v : Nat) (ok : Bool), spec_l01Digits.f k w = some ((v : Int), ok) ∧ v ≤ 9999999999 ∧ (ok = true → Lib.decDigits v = LB w) ∧ (∀ n : Nat, n ≤ 9999999999 → Lib.decDigits n = LB w → v = n ∧ ok = true) := by
  obtain ⟨k, rfl⟩ : ∃ m, k = m + 1 := ⟨k - 1, by omega⟩
  have p10 : (10 : Nat) ^ (9 + 1) = 10000000000 := by decide
  have hlen : ∀ n : Nat, n ≤ 9999999999 → (Lib.decDigits n).length ≤ 10 := fun n hn => (l01Dec_eq 9 n (by omega) (by omega) (by omega) 100 (by omega)).2
  unfold spec_l01Digits.f
  by_cases h1 : (w.size : Int) < 1
  · rw [if_pos h1, spec_l01Digits.j0, if_pos rfl]
    refine ⟨0, false, rfl, by omega, by simp, fun n hn e => ?_⟩
    have hz : LB w = [] := List.eq_nil_of_length_eq_zero (by rw [LB_size]; omega)
    exact absurd (e.trans hz) (dv_dec n n (Nat.le_refl _)).2.2
  · rw [if_neg h1]
    by_cases h2 : (w.size : Int) > 10
    · rw [decide_eq_true h2, spec_l01Digits.j0, if_pos rfl]
      refine ⟨0, false, rfl, by omega, by simp, fun n hn e => ?_⟩
      have := hlen n hn
      rw [e, LB_size] at this
      omega
    · rw [decide_eq_false h2, spec_l01Digits.j0, if_neg (by decide)]
      have hg := l01Digits_go w (by omega) w.size 0 0 k (by omega) (by decide) (by omega)
      rw [show ((0 : Nat) : Int) = 0 from rfl] at hg
      rw [hg, List.drop_zero]
      by_cases hd : ∀ c ∈ LB w, dig c
      · rw [if_pos hd]
        have hb := dv_lt (LB w) 0 0 hd (by decide)
        have hp : (10 : Nat) ^ (0 + (LB w).length) ≤ 10 ^ 10 := Nat.pow_le_pow_right (by decide) (by rw [LB_size]; omega)
        have p19 : (10 : Nat) ^ 10 = 10000000000 := by decide
        refine ⟨_, _, rfl, by omega, fun h => ?_, fun n hn e => ?_⟩
        · have := beq_iff_eq.1 h
          rw [tl_LB, tl_LB, LB_ba] at this
          exact this
        · have hv : dv 0 (LB w) = n := by rw [← e]; exact (dv_dec n n (Nat.le_refl _)).1
          refine ⟨hv, ?_⟩
          rw [hv, beq_iff_eq, tl_LB, tl_LB, LB_ba, e]
      · rw [if_neg hd]
        refine ⟨0, false, rfl, by omega, by simp, fun n hn e => ?_⟩
        exact absurd (fun c hc => (dv_dec n n (Nat.le_refl _)).2.1 c (by rw [e]; exact hc)) hd
theorem l01Signed_eq (w : ByteArray) {k : Nat} (hk : 200 < k) : ∃ v ok, spec_l01Signed.f k w = some (v, ok) ∧ ok = (val w).isSome ∧ (∀ n, val w = some n → v = n) := by
  obtain ⟨k, rfl⟩ : ∃ m, k = m + 1 := ⟨k - 1, by omega⟩
  have pos : ∀ n : Int, ¬ n < 0 → Lib.itoa n = Lib.decDigits n.toNat := fun n hn => by unfold Lib.itoa; rw [if_neg hn]
  have neg : ∀ n : Int, n < 0 → Lib.itoa n = 45 :: Lib.decDigits n.natAbs := fun n hn => by unfold Lib.itoa; rw [if_pos hn]
  -- at a text that does not begin with a minus
  have plain : (∀ n : Int, Lib.itoa n = LB w → ¬ n < 0) → ∃ v ok, ((spec_l01Digits.f k w).bind fun bt120 => (some (bt120.1, bt120.2))) = some (v, ok) ∧ ok = (val w).isSome ∧ (∀ n, val w = some n → v = n) := by
    intro hn
    obtain ⟨v, ok, d1, d2, d3, d4⟩ := l01Digits_eq w (k := k) (by omega)
    rw [d1]
    refine ⟨v, ok, rfl, ?_, fun n h => ?_⟩
    · cases hv : val w with
      | none =>
        cases ok with
        | false => rfl
        | true =>
          have := (val_iff w (v : Int)).2 ⟨by rw [pos _ (by omega)]; exact d3 rfl, by omega, by omega⟩
          rw [hv] at this; cases this
      | some n =>
        have h1 := (val_iff w n).1 hv
        have h0 := hn n h1.1
        exact (d4 n.toNat (by omega) (by rw [← pos n h0]; exact h1.1)).2
    · have h1 := (val_iff w n).1 h
      have h0 := hn n h1.1
      have := (d4 n.toNat (by omega) (by rw [← pos n h0]; exact h1.1)).1
      omega
  unfold spec_l01Signed.f
  by_cases h0 : (w.size : Int) > 0
  · rw [if_pos h0, if_pos h0]
    have hlt : 0 < (LB w).length := by rw [LB_size]; omega
    have hb := bt_at w 0 hlt
    rw [show ((0 : Nat) : Int) = 0 from rfl] at hb
    rw [spec_l01Signed.j0, hb]
    obtain ⟨c, r, hw⟩ : ∃ c r, LB w = c :: r := by
      cases h : LB w with
      | nil => rw [h] at hlt; cases hlt
      | cons c r => exact ⟨c, r, rfl⟩
    · have hc : (LB w)[0] = c := by simp only [hw, List.getElem_cons_zero]
      rw [hc]
      by_cases hm : c.toNat = 45
      · have hm' : c = 45 := UInt8.toNat_inj.1 hm
        subst hm'
        rw [if_pos (by decide), if_pos (by omega)]
        have hr : LB (w.extract 1 w.size) = r := by rw [LB_ext, hw, List.drop_succ_cons, List.drop_zero, List.take_of_length_le]; have := LB_size w; rw [hw] at this; simp at this; omega
        obtain ⟨v, ok, d1, d2, d3, d4⟩ := l01Digits_eq (w.extract 1 w.size) (k := k) (by omega)
        rw [hr] at d3 d4
        rw [d1]
        simp only [Option.bind_some]
        rw [show wrap64 (-(v : Int)) = -(v : Int) from w64s (by omega) (by omega)]
        have back : ∀ n, val w = some n → v = n.natAbs ∧ n < 0 ∧ ok = true := fun n h => by
          have h1 := (val_iff w n).1 h
          rw [hw] at h1
          have hneg : n < 0 := by
            by_cases hx : n < 0
            · exact hx
            · exfalso
              have h2 := h1.1
              rw [pos n hx] at h2
              have := (dv_dec n.toNat n.toNat (Nat.le_refl _)).2.1 45 (by rw [h2]; simp)
              unfold dig at this
              exact absurd this (by decide)
          have h2 := h1.1
          rw [neg n hneg] at h2
          have := d4 n.natAbs (by omega) (List.cons.inj h2).2
          exact ⟨this.1, hneg, this.2⟩
        cases hv : val w with
        | none =>
          refine ⟨-(v : Int), false, ?_, rfl, by simp⟩
          cases ok with
          | false => rfl
          | true =>
            simp only [if_true]
            have : ¬ ((v : Int) > 0) := fun hp => by
              have := (val_iff w (-(v : Int))).2 ⟨by rw [neg _ (by omega), hw, ← d3 rfl, show (-(v : Int)).natAbs = v by omega], by omega, by omega⟩
              rw [hv] at this; cases this
            rw [decide_eq_false this]
        | some n =>
          obtain ⟨b1, b2, b3⟩ := back n hv
          subst b3
          refine ⟨-(v : Int), true, ?_, rfl, fun q hq => ?_⟩
          · simp only [if_true]
            rw [decide_eq_true (by omega : (v : Int) > 0)]
          · obtain rfl := Option.some.inj hq; omega
      · have hm2 : ¬ (((c.toNat : Int) == 45) = true) := by simp; omega
        rw [if_neg hm2]
        refine plain (fun n e hneg => ?_)
        rw [neg n hneg, hw] at e
        exact hm (by rw [← (List.cons.inj e).1]; rfl)
  · rw [if_neg h0, spec_l01Signed.j0, if_neg (by decide)]
    refine plain (fun n e hneg => ?_)
    have hz : LB w = [] := List.eq_nil_of_length_eq_zero (by rw [LB_size]; omega)
    rw [neg n hneg, hz] at e
    cases e

end Go.Proofs.YtnblfcibgokccaaGreatDoor.LC
