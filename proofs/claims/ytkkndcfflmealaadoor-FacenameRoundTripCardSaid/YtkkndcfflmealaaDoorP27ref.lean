/- The reference's functions of chapter 27, as the printer writes them: what each comes to, over lists of bytes. -/
import Derived.Test.YtkkndcfflmealaaDoorX27x
import Derived.Test.YtkkndcfflmealaaDoorPlain2
namespace Go.Proofs.YtkkndcfflmealaaDoor.P27
open Go.RowKit Go.Lib Go.Proofs.YtkkndcfflmealaaDoorW.PrintWords Go.Proofs.YtkkndcfflmealaaDoorW.PrintLast Go.Proofs.YtkkndcfflmealaaDoor.X27 Go.Proofs.Facename

/-! ### bytes of strings -/

theorem size_list (s : ByteArray) : s.size = s.data.toList.length := by simp only [Array.length_toList]; rfl
theorem bt_app {s : ByteArray} {pre rest : List UInt8} {c : UInt8} (h : s.data.toList = pre ++ c :: rest) {i : Int} (hi : i = pre.length) : bt s i = c.toNat ∧ i < s.size ∧ 0 ≤ i := by
  subst hi
  have hsz : s.size = pre.length + rest.length + 1 := by rw [size_list, h]; simp; omega
  refine ⟨?_, by omega, by omega⟩
  unfold bt
  have e : ((pre.length : Int)).toNat = pre.length := by omega
  rw [dif_pos (by omega)]
  have g : s.data.toList[pre.length]? = some c := by rw [h]; simp
  have g2 : s.data.toList[pre.length]? = some s[pre.length] := data_getElem? s pre.length (by omega)
  rw [g2] at g
  have := Option.some.inj g
  simp only [e]
  exact congrArg (fun b : UInt8 => (b.toNat : Int)) this
theorem w64 {i : Int} (h0 : -9223372036854775808 ≤ i) (h : i ≤ 9223372036854775807) : wrap64 i = i := by unfold wrap64; omega
theorem extract_list (s : ByteArray) (a b : Nat) : (s.extract a b).data.toList = (s.data.toList.take b).drop a := by
  simp [ByteArray.data_extract, Array.toList_extract, List.extract, List.drop_take]
theorem toNat_eq {a b : UInt8} (h : (a.toNat : Int) = b.toNat) : a = b := UInt8.toNat_inj.1 (by omega)
theorem str_ext {s t : ByteArray} (h : s.data.toList = t.data.toList) : s = t := by
  cases s; cases t; simp only [ByteArray.mk.injEq]; exact Array.toList_inj.1 h
theorem str_mk {s : ByteArray} {l : List UInt8} (h : s.data.toList = l) : s = ⟨l.toArray⟩ := str_ext (by rw [h])

theorem indexByte_cons (b : UInt8) (l : List UInt8) (c : UInt8) : indexByte (b :: l) c = if b == c then 0 else if indexByte l c == -1 then -1 else indexByte l c + 1 := rfl

theorem first_l0 (s : ByteArray) (c : UInt8) (hs : s.size ≤ 140737488351232) : ∀ (rest pre : List UInt8), s.data.toList = pre ++ rest → ∀ k, rest.length < k →
    voussoirref27_first.l0 k s c.toNat pre.length = some (if indexByte rest c = -1 then -1 else pre.length + indexByte rest c) := by
  intro rest
  induction rest with
  | nil =>
    intro pre h k hk
    obtain ⟨k, rfl⟩ : ∃ m, k = m + 1 := ⟨k - 1, by simp at hk; omega⟩
    have hsz : s.size = pre.length := by rw [size_list, h]; simp
    simp only [voussoirref27_first.l0]
    rw [if_neg (by omega)]; simp [indexByte]
  | cons b rest ih =>
    intro pre h k hk
    obtain ⟨k, rfl⟩ : ∃ m, k = m + 1 := ⟨k - 1, by simp at hk; omega⟩
    obtain ⟨h1, h2, h3⟩ := bt_app h rfl
    simp only [voussoirref27_first.l0]
    rw [if_pos h2, if_pos h3, h1]
    by_cases e : b = c
    · subst e
      rw [if_pos rfl]; simp [indexByte]
    · rw [if_neg (fun x => e (toNat_eq x)), w64 (by omega) (by omega)]
      have := ih (pre ++ [b]) (by rw [h]; simp) k (by simp at hk; omega)
      simp only [List.length_append, List.length_cons, List.length_nil, Nat.zero_add, Int.natCast_add, Int.cast_ofNat_Int] at this
      rw [this]
      have e1 : (b == c) = false := by simpa using e
      rw [indexByte_cons, e1]
      have hge := indexByte_ge rest c
      by_cases e2 : indexByte rest c = -1
      · simp [e2]
      · have e3 : (indexByte rest c == -1) = false := by simpa using e2
        simp only [e3, Bool.false_eq_true, if_false]
        rw [if_neg e2, if_neg (by omega)]; congr 1; omega

theorem first_ev (s : ByteArray) (c : UInt8) (hs : s.size ≤ 140737488351232) (n : Int) (hn : n = c.toNat) : Ev (fun k => voussoirref27_first.f k s n) (indexByte s.data.toList c) := by
  subst hn
  refine ⟨s.size + 1, fun k hk => ?_⟩
  have := first_l0 s c hs s.data.toList [] rfl k (by rw [← size_list]; omega)
  show voussoirref27_first.l0 k s c.toNat 0 = _
  simp only [List.length_nil, Int.cast_ofNat_Int] at this
  rw [this]
  have hge := indexByte_ge s.data.toList c
  split
  · next h => rw [h]
  · congr 1; omega

/-! ### digits -/

theorem digits_l0 (s : ByteArray) (hs : s.size ≤ 9) : ∀ (rest pre : List UInt8), s.data.toList = pre ++ rest → ∀ (acc : Nat), acc < 10 ^ pre.length → ∀ k, rest.length < k →
    voussoirref27_digits.l0 k s acc pre.length = some (decVal (decFrom acc rest)) := by
  intro rest
  induction rest with
  | nil =>
    intro pre h acc _ k hk
    obtain ⟨k, rfl⟩ : ∃ m, k = m + 1 := ⟨k - 1, by simp at hk; omega⟩
    have hsz : s.size = pre.length := by rw [size_list, h]; simp
    simp only [voussoirref27_digits.l0]
    rw [if_neg (by omega)]; simp [decFrom, decVal]
  | cons b rest ih =>
    intro pre h acc ha k hk
    obtain ⟨k, rfl⟩ : ∃ m, k = m + 1 := ⟨k - 1, by simp at hk; omega⟩
    obtain ⟨h1, h2, h3⟩ := bt_app h rfl
    have hlen : pre.length + rest.length + 1 ≤ 9 := by have := size_list s; rw [h] at this; simp at this; omega
    have hp : 10 ^ pre.length ≤ 10 ^ 8 := Nat.pow_le_pow_right (by omega) (by omega)
    have hbt := b.toNat_lt
    simp only [voussoirref27_digits.l0]
    rw [if_pos h2, if_pos h3, h1]
    simp only [decFrom, digitVal]
    by_cases e1 : (b.toNat : Int) < 48
    · rw [if_pos e1, if_neg (by omega)]; rfl
    · rw [if_neg e1]
      by_cases e2 : (b.toNat : Int) > 57
      · rw [if_pos e2, if_neg (by omega)]; rfl
      · rw [if_neg e2, if_pos (by omega), w64 (i := 10 * (acc : Int)) (by omega) (by omega), w64 (i := 10 * (acc : Int) + ((b.toNat : Int) - 48) % 256) (by omega) (by omega), w64 (i := (pre.length : Int) + 1) (by omega) (by omega)]
        have hacc : acc * 10 + (b.toNat - 48) < 10 ^ (pre ++ [b]).length := by simp only [List.length_append, List.length_cons, List.length_nil, Nat.pow_succ]; omega
        have := ih (pre ++ [b]) (by rw [h]; simp) (acc * 10 + (b.toNat - 48)) hacc k (by simp at hk; omega)
        rw [← this]
        have e3 : ((acc * 10 + (b.toNat - 48) : Nat) : Int) = 10 * (acc : Int) + (((b.toNat : Int)) - 48) % 256 := by omega
        rw [e3]
        simp

theorem digits_ev (s : ByteArray) (m : Nat) (hm : m ≤ 9) (hs : s.size ≤ 140737488351232) (n : Int) (hn : n = m) : Ev (fun k => voussoirref27_digits.f k s n) (dig s.data.toList m) := by
  subst hn
  refine ⟨11, fun k hk => ?_⟩
  obtain ⟨k, rfl⟩ : ∃ j, k = j + 1 := ⟨k - 1, by omega⟩
  have hl := size_list s
  show voussoirref27_digits.f (k + 1) s m = _
  unfold voussoirref27_digits.f dig
  cases hd : s.data.toList with
  | nil =>
    rw [hd] at hl
    simp only [List.length_nil] at hl
    rw [if_pos (by omega), if_pos (.inl rfl)]; simp [voussoirref27_digits.j0]
  | cons c t =>
    rw [hd] at hl
    simp only [List.length_cons] at hl
    rw [if_neg (by omega)]
    by_cases e1 : (s.size : Int) > m
    · rw [if_pos e1, if_pos (.inr (.inl (by simp; omega)))]; simp [voussoirref27_digits.j0]
    · rw [if_neg e1, if_pos (by omega)]
      obtain ⟨h1, -, -⟩ := bt_app (s := s) (pre := []) (rest := t) (c := c) (by rw [hd]; rfl) (i := 0) rfl
      rw [h1]
      by_cases e2 : (c.toNat : Int) = 48
      · have ec : c = 48 := UInt8.toNat_inj.1 (by simpa using (by omega : c.toNat = 48))
        rw [if_pos e2]
        by_cases e3 : 1 < (c :: t).length
        · rw [if_pos (.inr (.inr ⟨by simp [ec], e3⟩))]
          have : decide ((s.size : Int) > 1) = true := by simp only [List.length_cons] at e3; simp; omega
          rw [this]; simp [voussoirref27_digits.j0]
        · have : decide ((s.size : Int) > 1) = false := by simp only [List.length_cons] at e3; simp; omega
          rw [this, if_neg (by
            rintro (h | h | ⟨_, h⟩)
            · cases h
            · simp only [List.length_cons] at h; omega
            · exact e3 h)]
          simp only [voussoirref27_digits.j0, Bool.false_eq_true, if_false]
          have := digits_l0 s (by omega) (c :: t) [] (by rw [hd]; rfl) 0 (by simp) k (by simp; omega)
          simpa using this
      · have ec : ¬ c = 48 := fun e => e2 (by rw [e]; rfl)
        rw [if_neg e2, if_neg (by
          rintro (h | h | ⟨h, _⟩)
          · cases h
          · simp only [List.length_cons] at h; omega
          · exact ec (by simpa using h))]
        simp only [voussoirref27_digits.j0, Bool.false_eq_true, if_false]
        have := digits_l0 s (by omega) (c :: t) [] (by rw [hd]; rfl) 0 (by simp) k (by simp; omega)
        simpa using this

/-! ### dec -/
theorem dec_ev (n : Nat) (hn : n < 9223372036854775808) : Ev (fun k => voussoirref27_dec.f k n) (⟨(decDigits n).toArray⟩ : ByteArray) := by
  induction n using Nat.strongRecOn with
  | _ n ih =>
    by_cases h : n < 10
    · refine ⟨1, fun k hk => ?_⟩
      obtain ⟨k, rfl⟩ : ∃ j, k = j + 1 := ⟨k - 1, by omega⟩
      show voussoirref27_dec.f (k + 1) n = _
      simp only [voussoirref27_dec.f]
      rw [if_pos (by omega), w64 (by omega) (by omega), decDigits, dif_pos h]
      congr 1
      have e : ((48 + (n : Int)) % 256).toNat = 48 + n := by omega
      apply str_ext
      simp [strOfNums, e]
    · obtain ⟨K1, h1⟩ := ih (n / 10) (by omega) (by omega)
      obtain ⟨K2, h2⟩ := ih (n % 10) (by omega) (by omega)
      refine ⟨K1 + K2 + 1, fun k hk => ?_⟩
      obtain ⟨k, rfl⟩ : ∃ j, k = j + 1 := ⟨k - 1, by omega⟩
      show voussoirref27_dec.f (k + 1) n = _
      simp only [voussoirref27_dec.f]
      have e0 : Int.tdiv (n : Int) 10 = ((n / 10 : Nat) : Int) := by rw [Int.tdiv_eq_ediv_of_nonneg (by omega)]; omega
      have e1 : wrap64 (Int.tdiv n 10) = ((n / 10 : Nat) : Int) := by rw [e0, w64] <;> omega
      have e2 : Int.tmod (n : Int) 10 = ((n % 10 : Nat) : Int) := by rw [Int.tmod_eq_emod_of_nonneg (by omega)]; omega
      have g1 : voussoirref27_dec.f k ((n / 10 : Nat) : Int) = _ := h1 k (by omega)
      have g2 : voussoirref27_dec.f k ((n % 10 : Nat) : Int) = _ := h2 k (by omega)
      rw [if_neg (by omega), e1, e2, g1, g2]
      simp only [Option.bind_some]
      have l1 : (decDigits (n / 10)).length ≤ 19 := by rw [decDigits_length]; exact nDigits_le 18 _ (by omega)
      have l2 : (decDigits (n % 10)).length ≤ 19 := by rw [decDigits_length]; exact nDigits_le 18 _ (by omega)
      rw [if_pos (by simp only [ByteArray.size, List.size_toArray]; omega)]
      congr 1
      apply str_ext
      have e4 : decDigits n = decDigits (n / 10) ++ [UInt8.ofNat (48 + n % 10)] := by rw [decDigits, dif_neg h]
      rw [e4]
      have e3 : decDigits (n % 10) = [UInt8.ofNat (48 + n % 10)] := by rw [decDigits, dif_pos (by omega)]
      simp [e3]

/-! ### small, Id, Role -/
theorem small_eq (c : UInt8) : voussoirref27_small.f c.toNat = some (low c) := by
  unfold voussoirref27_small.f low
  by_cases h : 97 ≤ c.toNat
  · rw [if_pos (by omega)]; simp [h]; omega
  · rw [if_neg (by omega)]; simp [h]

theorem dig_pos (q : List UInt8) (k : Nat) : 1 ≤ dig q (k + 1) ↔ ∃ n : Nat, q = decDigits n ∧ 1 ≤ n ∧ n < 10 ^ (k + 1) := by
  constructor
  · intro h
    have := (dig_iff q k (dig q (k + 1)) (by omega)).1 rfl
    exact ⟨(dig q (k + 1)).toNat, this.2, by omega, this.1⟩
  · rintro ⟨n, hq, h1, h2⟩
    have := (dig_iff q k n (by omega)).2 ⟨by simpa using h2, by simpa using hq⟩
    omega

theorem dig_nonneg (q : List UInt8) (k : Nat) : 0 ≤ dig q (k + 1) ↔ ∃ n : Nat, q = decDigits n ∧ n < 10 ^ (k + 1) := by
  constructor
  · intro h
    have := (dig_iff q k (dig q (k + 1)) h).1 rfl
    exact ⟨(dig q (k + 1)).toNat, this.2, this.1⟩
  · rintro ⟨n, hq, h2⟩
    have := (dig_iff q k n (by omega)).2 ⟨by simpa using h2, by simpa using hq⟩
    omega

theorem alnum_not46 {b : UInt8} (h : alnum b = true) : b ≠ 46 := by
  rintro rfl; revert h; decide

theorem idP_iff {p q : List UInt8} (hp : (46 : UInt8) ∉ p) : IdP (p ++ 46 :: q) ↔ p.length ≤ 24 ∧ (∃ c t, p = c :: t ∧ low c = true) ∧ (∀ b ∈ p, alnum b = true) ∧ 1 ≤ dig q 9 := by
  constructor
  · rintro ⟨p', n, e, h1, h2, h3, h4, h5⟩
    have hp' : (46 : UInt8) ∉ p' := fun hm => alnum_not46 (h3 _ hm) rfl
    obtain ⟨rfl, rfl⟩ := split_unique hp hp' e
    exact ⟨h1, h2, h3, (dig_pos _ 8).2 ⟨n, rfl, h4, by omega⟩⟩
  · rintro ⟨h1, h2, h3, h4⟩
    obtain ⟨n, rfl, h5, h6⟩ := (dig_pos _ 8).1 h4
    exact ⟨p, n, rfl, h1, h2, h3, h5, by omega⟩

theorem idP_mem {l : List UInt8} (h : IdP l) : (46 : UInt8) ∈ l := by
  obtain ⟨p, n, rfl, _⟩ := h.out
  simp

theorem Id_l0 (s : ByteArray) (hs : s.size ≤ 140737488351232) (p q : List UInt8) (hl : s.data.toList = p ++ q) : ∀ (rest pre : List UInt8), p = pre ++ rest → ∀ k, rest.length < k →
    voussoirref27_Id.l0 k s p.length pre.length = some (if ∀ b ∈ rest, alnum b = true then 1 else 0) := by
  intro rest
  induction rest with
  | nil =>
    intro pre h k hk
    obtain ⟨k, rfl⟩ : ∃ m, k = m + 1 := ⟨k - 1, by simp at hk; omega⟩
    simp only [voussoirref27_Id.l0]
    rw [if_neg (by rw [h]; simp)]; simp
  | cons b rest ih =>
    intro pre h k hk
    obtain ⟨k, rfl⟩ : ∃ m, k = m + 1 := ⟨k - 1, by simp at hk; omega⟩
    obtain ⟨h1, h2, h3⟩ := bt_app (s := s) (pre := pre) (rest := rest ++ q) (c := b) (by rw [hl, h]; simp) rfl
    have hlen : pre.length < p.length := by rw [h]; simp
    have hplen : p.length ≤ s.size := by rw [size_list, hl]; simp
    simp only [voussoirref27_Id.l0]
    rw [if_pos (by omega), if_pos h3, if_pos h2, h1, small_eq, Option.bind_some]
    have ih' := ih (pre ++ [b]) (by rw [h]; simp) k (by simp at hk; omega)
    simp only [List.length_append, List.length_cons, List.length_nil, Nat.zero_add, Int.natCast_add, Int.cast_ofNat_Int] at ih'
    rw [w64 (by omega) (by omega)]
    have hcons : (∀ x ∈ b :: rest, alnum x = true) ↔ alnum b = true ∧ ∀ x ∈ rest, alnum x = true := by simp
    by_cases hb : alnum b = true
    · have e : (if ∀ x ∈ b :: rest, alnum x = true then (1 : Int) else 0) = if ∀ x ∈ rest, alnum x = true then 1 else 0 := by
        by_cases hr : ∀ x ∈ rest, alnum x = true
        · rw [if_pos (hcons.2 ⟨hb, hr⟩), if_pos hr]
        · rw [if_neg (fun x => hr (hcons.1 x).2), if_neg hr]
      rw [e]
      by_cases hlow : low b = true
      · rw [if_pos hlow]; exact ih'
      · rw [if_neg hlow]
        have hd : 48 ≤ b.toNat ∧ b.toNat ≤ 57 := by simpa [alnum, hlow, digit] using hb
        rw [if_neg (by omega), if_neg (by omega)]; exact ih'
    · rw [if_neg (fun x => hb (hcons.1 x).1)]
      have hx : ¬ low b = true ∧ ¬ (48 ≤ b.toNat ∧ b.toNat ≤ 57) := by
        constructor
        · intro h; exact hb (by simp [alnum, h])
        · intro h; exact hb (by simp [alnum, digit, h.1, h.2])
      rw [if_neg hx.1]
      by_cases h48 : (b.toNat : Int) < 48
      · rw [if_pos h48]
      · rw [if_neg h48, if_pos (by omega)]

theorem Id_ev (s : ByteArray) (hs : s.size ≤ 140737488351232) : ∃ r : Int, Ev (fun k => voussoirref27_Id.f k s) r ∧ ((r = 1 ∧ IdP s.data.toList) ∨ (r = 0 ∧ ¬ IdP s.data.toList)) := by
  obtain ⟨K1, h1⟩ := first_ev s 46 hs 46 rfl
  have sz := size_list s
  by_cases hm : (46 : UInt8) ∈ s.data.toList
  · obtain ⟨p, q, hl, hp⟩ := split_at _ _ hm
    have hi := indexByte_mem p q hp
    have hq : (s.extract (p.length + 1) s.size).data.toList = q := by rw [extract_to_end, hl]; simp
    obtain ⟨K2, h2⟩ := digits_ev (s.extract (p.length + 1) s.size) 9 (by omega) (by have := size_list (s.extract (p.length + 1) s.size); rw [hq] at this; rw [hl] at sz; simp at sz; omega) 9 rfl
    rw [hl, hi] at h1
    rw [hq] at h2
    rw [hl] at sz ⊢
    simp only [List.length_append, List.length_cons] at sz
    have hiff := idP_iff (q := q) hp
    have none_ : ∀ (hn : ¬ IdP (p ++ 46 :: q)), (∀ k, K1 + K2 + 3 + p.length ≤ k → voussoirref27_Id.f k s = some 0) → ∃ r : Int, Ev (fun k => voussoirref27_Id.f k s) r ∧ ((r = 1 ∧ IdP (p ++ 46 :: q)) ∨ (r = 0 ∧ ¬ IdP (p ++ 46 :: q))) := fun hn h => ⟨0, ⟨_, h⟩, .inr ⟨rfl, hn⟩⟩
    have j0t : ∀ k, 0 < k → ∀ a, voussoirref27_Id.j0 k s a true = some 0 := by
      intro k hk a
      obtain ⟨k, rfl⟩ : ∃ m, k = m + 1 := ⟨k - 1, by omega⟩
      simp [voussoirref27_Id.j0]
    cases hp0 : p with
    | nil =>
      subst hp0
      refine none_ (fun h => by obtain ⟨_, ⟨c, t, e, _⟩, _⟩ := hiff.1 h; cases e) (fun k hk => ?_)
      unfold voussoirref27_Id.f
      have g1 : voussoirref27_first.f k s 46 = _ := h1 k (by omega)
      rw [g1, Option.bind_some]
      rw [if_pos (by simp)]; exact j0t k (by omega) _
    | cons c t =>
      rw [← hp0]
      obtain ⟨b1, b2, b3⟩ := bt_app (s := s) (pre := []) (c := c) (rest := t ++ 46 :: q) (by rw [hl, hp0]; simp) (i := 0) rfl
      have hplen : 1 ≤ p.length := by rw [hp0]; simp
      by_cases hle : p.length ≤ 24
      · cases hlow : low c with
        | false =>
          refine none_ (fun h => by
            obtain ⟨_, ⟨c', t', e, hl'⟩, _⟩ := hiff.1 h
            rw [hp0] at e; injection e with e1 _; subst e1; rw [hlow] at hl'; cases hl') (fun k hk => ?_)
          unfold voussoirref27_Id.f
          have g1 : voussoirref27_first.f k s 46 = _ := h1 k (by omega)
          rw [g1, Option.bind_some]
          rw [if_neg (by omega), if_neg (by omega), if_pos b2, b1, small_eq, hlow]
          rw [Option.bind_some, if_neg (by decide)]
          exact j0t k (by omega) _
        | true =>
          have run : ∀ k, K1 + K2 + 3 + p.length ≤ k → voussoirref27_Id.f k s = voussoirref27_Id.j0 k s p.length (decide (dig q 9 < 1)) := by
            intro k hk
            unfold voussoirref27_Id.f
            have g1 : voussoirref27_first.f k s 46 = _ := h1 k (by omega)
            have g2 : voussoirref27_digits.f k (s.extract (p.length + 1) s.size) 9 = _ := h2 k (by omega)
            rw [g1, Option.bind_some]
            rw [if_neg (by omega), if_neg (by omega), if_pos b2, b1, small_eq, hlow]
            rw [Option.bind_some, if_pos rfl, w64 (by omega) (by omega), if_pos (by omega), if_pos (by omega)]
            have e : ((p.length : Int) + 1).toNat = p.length + 1 := by omega
            rw [e, g2, Option.bind_some]
          by_cases hd : dig q 9 < 1
          · refine none_ (fun h => by have := (hiff.1 h).2.2.2; omega) (fun k hk => ?_)
            rw [run k hk, decide_eq_true hd]; exact j0t k (by omega) _
          · have fin : ∀ k, K1 + K2 + 3 + p.length ≤ k → voussoirref27_Id.f k s = some (if ∀ b ∈ p, alnum b = true then 1 else 0) := by
              intro k hk
              rw [run k hk, decide_eq_false hd]
              obtain ⟨k, rfl⟩ : ∃ m, k = m + 1 := ⟨k - 1, by omega⟩
              simp only [voussoirref27_Id.j0, Bool.false_eq_true, if_false]
              have z := Id_l0 s hs p (46 :: q) hl p [] rfl k (by omega)
              simp only [List.length_nil, Int.cast_ofNat_Int] at z
              exact z
            by_cases ha : ∀ b ∈ p, alnum b = true
            · exact ⟨1, ⟨_, fun k hk => by rw [← if_pos (c := ∀ b ∈ p, alnum b = true) (t := (1 : Int)) (e := 0) ha]; exact fin k hk⟩, .inl ⟨rfl, hiff.2 ⟨hle, ⟨c, t, hp0, hlow⟩, ha, by omega⟩⟩⟩
            · exact none_ (fun h => ha (hiff.1 h).2.2.1) (fun k hk => by rw [← if_neg (c := ∀ b ∈ p, alnum b = true) (t := (1 : Int)) (e := 0) ha]; exact fin k hk)
      · refine none_ (fun h => hle (hiff.1 h).1) (fun k hk => ?_)
        unfold voussoirref27_Id.f
        have g1 : voussoirref27_first.f k s 46 = _ := h1 k (by omega)
        rw [g1, Option.bind_some]
        rw [if_neg (by omega), if_pos (by omega)]; exact j0t k (by omega) _
  · refine ⟨0, ⟨K1 + 1, fun k hk => ?_⟩, .inr ⟨rfl, fun h => hm (idP_mem h)⟩⟩
    show voussoirref27_Id.f k s = _
    unfold voussoirref27_Id.f
    have g1 : voussoirref27_first.f k s 46 = _ := h1 k (by omega)
    rw [g1, indexByte_not_mem hm, Option.bind_some]
    obtain ⟨k, rfl⟩ : ∃ m, k = m + 1 := ⟨k - 1, by omega⟩
    rw [if_pos (by omega)]; simp [voussoirref27_Id.j0]

theorem Role_l0 (s : ByteArray) (hs : s.size ≤ 140737488351232) : ∀ (rest pre : List UInt8), s.data.toList = pre ++ rest → ∀ k, rest.length < k →
    voussoirref27_Role.l0 k s pre.length = some (if (∀ b ∈ rest, low b = true) ∧ 1 ≤ s.size ∧ s.size ≤ 12 then 1 else 0) := by
  intro rest
  induction rest with
  | nil =>
    intro pre h k hk
    obtain ⟨k, rfl⟩ : ∃ m, k = m + 1 := ⟨k - 1, by simp at hk; omega⟩
    have hsz : s.size = pre.length := by rw [size_list, h]; simp
    simp only [voussoirref27_Role.l0]
    rw [if_neg (by omega)]
    by_cases h1 : (s.size : Int) < 1
    · rw [if_pos h1, if_neg (by rintro ⟨_, h, _⟩; omega)]
    · rw [if_neg h1]
      by_cases h2 : (s.size : Int) > 12
      · rw [if_pos h2, if_neg (by rintro ⟨_, _, h⟩; omega)]
      · rw [if_neg h2, if_pos ⟨by simp, by omega, by omega⟩]
  | cons b rest ih =>
    intro pre h k hk
    obtain ⟨k, rfl⟩ : ∃ m, k = m + 1 := ⟨k - 1, by simp at hk; omega⟩
    obtain ⟨h1, h2, h3⟩ := bt_app h rfl
    simp only [voussoirref27_Role.l0]
    rw [if_pos h2, if_pos h3, h1, small_eq, Option.bind_some]
    by_cases hb : low b = true
    · rw [if_pos hb, w64 (by omega) (by omega)]
      have ih' := ih (pre ++ [b]) (by rw [h]; simp) k (by simp at hk; omega)
      simp only [List.length_append, List.length_cons, List.length_nil, Nat.zero_add, Int.natCast_add, Int.cast_ofNat_Int] at ih'
      rw [ih']
      simp [hb]
    · rw [if_neg hb, if_neg (by rintro ⟨h, _⟩; exact hb (h b (by simp)))]

theorem Role_ev (s : ByteArray) (hs : s.size ≤ 140737488351232) : ∃ r : Int, Ev (fun k => voussoirref27_Role.f k s) r ∧ ((r = 1 ∧ RoleP s.data.toList) ∨ (r = 0 ∧ ¬ RoleP s.data.toList)) := by
  have h := Role_l0 s hs s.data.toList [] rfl
  simp only [List.length_nil, Int.cast_ofNat_Int] at h
  have sz := size_list s
  by_cases hr : (∀ b ∈ s.data.toList, low b = true) ∧ 1 ≤ s.size ∧ s.size ≤ 12
  · rw [if_pos hr] at h
    exact ⟨1, ⟨s.data.toList.length + 1, fun k hk => h k (by omega)⟩, .inl ⟨rfl, ⟨fun e => by rw [e] at sz; simp only [List.length_nil] at sz; omega, by omega, hr.1⟩⟩⟩
  · rw [if_neg hr] at h
    refine ⟨0, ⟨s.data.toList.length + 1, fun k hk => h k (by omega)⟩, .inr ⟨rfl, fun hh => hr ⟨hh.all, ?_, by have := hh.le; omega⟩⟩⟩
    have := hh.ne
    rcases Nat.eq_zero_or_pos s.size with e | e
    · exact absurd (List.length_eq_zero_iff.1 (by omega)) this
    · exact e

end Go.Proofs.YtkkndcfflmealaaDoor.P27
