import Derived.Lib.AtoiAll
import Derived.Lib.Atoi
import Derived.Lib.ItoaLen
import Derived.Lib.SlTrimSet
import Derived.Lib.IndexMore
namespace Go.Proofs.Facename
open Go Go.Lib

/-! ### canonical numerals -/

theorem decFrom_append (l : List UInt8) (b : UInt8) (acc n : Nat) (h : decFrom acc (l ++ [b]) = some n) :
    ∃ m d, decFrom acc l = some m ∧ digitVal b = some d ∧ n = m * 10 + d := by
  induction l generalizing acc with
  | nil =>
    simp only [List.nil_append, decFrom] at h
    cases hd : digitVal b with
    | none => simp [hd] at h
    | some d =>
      simp only [hd, Option.some.injEq] at h
      exact ⟨acc, d, rfl, rfl, h.symm⟩
  | cons a t ih =>
    simp only [List.cons_append, decFrom] at h ⊢
    cases ha : digitVal a with
    | none => simp [ha] at h
    | some e =>
      simp only [ha] at h ⊢
      exact ih _ h

theorem decFrom_snoc (l : List UInt8) (b : UInt8) (acc m d : Nat) (h : decFrom acc l = some m) (hd : digitVal b = some d) :
    decFrom acc (l ++ [b]) = some (m * 10 + d) := by
  induction l generalizing acc with
  | nil => simp only [decFrom, Option.some.injEq] at h; subst h; simp [decFrom, hd]
  | cons a t ih =>
    simp only [List.cons_append, decFrom] at h ⊢
    cases ha : digitVal a with
    | none => simp [ha] at h
    | some e => simp only [ha] at h ⊢; exact ih _ h

theorem digitVal_ofNat (d : Nat) (h : d < 10) : digitVal (UInt8.ofNat (48 + d)) = some d := by
  unfold digitVal
  have : (UInt8.ofNat (48 + d)).toNat = 48 + d := by simp; omega
  rw [this, if_pos (by omega)]
  congr 1; omega

theorem digitVal_some {b : UInt8} {d : Nat} (h : digitVal b = some d) : d < 10 ∧ b = UInt8.ofNat (48 + d) := by
  unfold digitVal at h
  split at h
  · next hb =>
    simp only [Option.some.injEq] at h
    refine ⟨by omega, ?_⟩
    apply UInt8.toNat_inj.1
    simp; omega
  · cases h

theorem decFrom_decDigits (n : Nat) : decFrom 0 (decDigits n) = some n := by
  induction n using Nat.strongRecOn with
  | _ n ih =>
    rw [decDigits]
    split
    · next h => simp only [decFrom, digitVal_ofNat n h]; simp
    · next h =>
      rw [decFrom_snoc _ _ _ _ _ (ih (n / 10) (by omega)) (digitVal_ofNat (n % 10) (by omega))]
      congr 1; omega

theorem decDigits_ne (n : Nat) : decDigits n ≠ [] := by
  rw [decDigits]; split <;> simp

theorem decDigits_head (n : Nat) (h : (decDigits n).head? = some 48) : n = 0 := by
  induction n using Nat.strongRecOn with
  | _ n ih =>
    rw [decDigits] at h
    split at h
    · next hn =>
      simp only [List.head?_cons, Option.some.injEq] at h
      have := congrArg UInt8.toNat h
      simp at this; omega
    · next hn =>
      rw [List.head?_append] at h
      cases hh : (decDigits (n / 10)).head? with
      | none => exact absurd (List.head?_eq_none_iff.1 hh) (decDigits_ne _)
      | some c =>
        rw [hh] at h
        simp only [Option.some_or, Option.some.injEq] at h
        have := ih (n / 10) (by omega) (by rw [hh, h])
        omega

/-- a canonical numeral: not empty, digits only, no leading zero unless it is the one digit 0. -/
theorem canonical (k : Nat) : ∀ (l : List UInt8) (n : Nat), l.length = k → l ≠ [] → decFrom 0 l = some n → ¬ (l.head? = some 48 ∧ 1 < l.length) → l = decDigits n := by
  induction k with
  | zero => intro l n hl hne; exact absurd (List.length_eq_zero_iff.1 hl) hne
  | succ k ih =>
    intro l n hl hne hd hz
    obtain ⟨t, b, rfl⟩ : ∃ t b, l = t ++ [b] := ⟨l.dropLast, l.getLast hne, (List.dropLast_concat_getLast hne).symm⟩
    obtain ⟨m, d, hm, hb, rfl⟩ := decFrom_append _ _ _ _ hd
    obtain ⟨hd10, rfl⟩ := digitVal_some hb
    cases t with
    | nil =>
      simp only [decFrom, Option.some.injEq] at hm
      subst hm
      rw [decDigits, dif_pos (by omega)]
      simp
    | cons a t =>
      have hlen : (a :: t).length = k := by simpa using hl
      have h1 : (a :: t) = decDigits m := by
        refine ih (a :: t) m hlen (by simp) hm ?_
        rintro ⟨h48, _⟩
        exact hz ⟨by simpa using h48, by simp⟩
      have hm0 : m ≠ 0 := by
        intro h0
        subst h0
        have e0 : decDigits 0 = [48] := by rw [decDigits, dif_pos (by omega)]; rfl
        rw [e0] at h1
        simp only [List.cons.injEq] at h1
        exact hz ⟨by simp [h1.1], by simp⟩
      rw [decDigits, dif_neg (by omega), h1]
      have e1 : (m * 10 + d) / 10 = m := by omega
      have e2 : (m * 10 + d) % 10 = d := by omega
      rw [e1, e2]

theorem nDigits_le (k : Nat) : ∀ n, n < 10 ^ (k + 1) → nDigits n ≤ k + 1 := by
  induction k with
  | zero => intro n h; rw [nDigits_small (by simpa using h)]; omega
  | succ k ih =>
    intro n h
    by_cases hn : n < 10
    · rw [nDigits_small hn]; omega
    · rw [nDigits_big hn]
      have := ih (n / 10) (by rw [Nat.pow_succ] at h; omega)
      omega

/-! ### Atoi on canonical numerals -/

theorem parseUint10_of (l : List UInt8) : ∀ (acc n : Nat), decFrom acc l = some n → n < 9223372036854775808 → parseUint10 acc l = .ok n := by
  induction l with
  | nil => intro acc n h _; simp only [decFrom, Option.some.injEq] at h; subst h; rfl
  | cons c r ih =>
    intro acc n h hn
    simp only [decFrom] at h
    cases hd : digitVal c with
    | none => simp [hd] at h
    | some d =>
      simp only [hd] at h
      have hge : acc * 10 + d ≤ n := by
        clear ih hn hd
        generalize acc * 10 + d = a at h
        induction r generalizing a with
        | nil => simp only [decFrom, Option.some.injEq] at h; omega
        | cons e r ihr =>
          simp only [decFrom] at h
          cases he : digitVal e with
          | none => simp [he] at h
          | some f => simp only [he] at h; have := ihr _ h; omega
      unfold digitVal at hd
      split at hd
      · next hc =>
        simp only [Option.some.injEq] at hd
        simp only [parseUint10]
        rw [if_pos hc, if_neg (by omega), if_neg (by omega), hd]
        exact ih _ _ h hn
      · cases hd

theorem decFrom_of_parse (l : List UInt8) : ∀ (acc n : Nat), parseUint10 acc l = .ok n → decFrom acc l = some n := by
  induction l with
  | nil => intro acc n h; simp only [parseUint10] at h; injection h with h; subst h; rfl
  | cons c r ih =>
    intro acc n h
    simp only [parseUint10] at h
    split at h
    · next hc =>
      split at h
      · cases h
      · split at h
        · cases h
        · simp only [decFrom, digitVal]
          rw [if_pos hc]
          exact ih _ _ h
    · cases h

/-- 'number(s, a, b)' of the program: the value, if s is the canonical numeral of a number from a to b. -/
def num (l : List UInt8) (a b : Int) : Option Int :=
  match atoiAll l with
  | .ok v => if itoa v = l ∧ a ≤ v ∧ v ≤ b then some v else none
  | _ => none

theorem atoi_decDigits (n : Nat) (hn : n < 9223372036854775808) : atoiAll (decDigits n) = .ok (n : Int) := by
  have h0 := decFrom_decDigits n
  have hne := decDigits_ne n
  cases hl : decDigits n with
  | nil => exact absurd hl hne
  | cons c r =>
    rw [hl] at h0
    have hc : ∃ d, digitVal c = some d := by
      simp only [decFrom] at h0
      cases hd : digitVal c with
      | none => simp [hd] at h0
      | some d => exact ⟨d, rfl⟩
    obtain ⟨d, hd⟩ := hc
    have hcb : 48 ≤ c.toNat ∧ c.toNat ≤ 57 := by
      unfold digitVal at hd
      split at hd
      · assumption
      · cases hd
    have e1 : (if c.toNat = 43 ∨ c.toNat = 45 then r else c :: r) = c :: r := if_neg (by omega)
    have e2 : parseMag (c :: r) = .ok n := by unfold parseMag; rw [if_neg (by simp), parseUint10_of _ _ _ h0 hn]
    simp only [atoiAll, e1, e2]
    rw [if_neg (by omega), if_neg (by omega), if_neg (by omega)]

theorem num_iff (l : List UInt8) (a b v : Int) (ha : 0 ≤ a) (hb : b < 9223372036854775808) :
    num l a b = some v ↔ a ≤ v ∧ v ≤ b ∧ l = decDigits v.toNat := by
  constructor
  · intro h
    unfold num at h
    split at h
    · next u hu =>
      split at h
      · next hc =>
        simp only [Option.some.injEq] at h
        subst h
        refine ⟨hc.2.1, hc.2.2, ?_⟩
        rw [← hc.1]
        unfold itoa
        rw [if_neg (by omega)]
      · cases h
    · cases h
  · rintro ⟨h1, h2, rfl⟩
    unfold num
    rw [atoi_decDigits v.toNat (by omega)]
    have e : ((v.toNat : Nat) : Int) = v := by omega
    simp only [e]
    rw [if_pos ⟨by unfold itoa; rw [if_neg (by omega)], h1, h2⟩]

def decVal : Option Nat → Int
  | some n => n
  | none => -1
/-- 'digits(s, most)' of the reference. -/
def dig (l : List UInt8) (most : Nat) : Int :=
  if l = [] ∨ most < l.length ∨ (l.head? = some 48 ∧ 1 < l.length) then -1 else decVal (decFrom 0 l)

theorem dig_iff (l : List UInt8) (k : Nat) (v : Int) (hv : 0 ≤ v) : dig l (k + 1) = v ↔ v.toNat < 10 ^ (k + 1) ∧ l = decDigits v.toNat := by
  constructor
  · intro h
    unfold dig at h
    split at h
    · omega
    · next hc =>
      have h1 : ¬ l = [] := fun e => hc (.inl e)
      have h2 : ¬ k + 1 < l.length := fun e => hc (.inr (.inl e))
      have h3 : ¬ (l.head? = some 48 ∧ 1 < l.length) := fun e => hc (.inr (.inr e))
      cases hd : decFrom 0 l with
      | none => rw [hd] at h; simp only [decVal] at h; omega
      | some n =>
        rw [hd] at h
        simp only [decVal] at h
        have e : v.toNat = n := by omega
        rw [e]
        have hcan := canonical _ l n rfl h1 hd h3
        refine ⟨?_, hcan⟩
        have hlt := decFrom_lt l 0 n hd
        simp only [Nat.zero_add, Nat.one_mul] at hlt
        exact Nat.lt_of_lt_of_le hlt (Nat.pow_le_pow_right (by omega) (by omega))
  · rintro ⟨h1, rfl⟩
    unfold dig
    rw [if_neg]
    · rw [decFrom_decDigits]; simp only [decVal]; omega
    · rintro (h | h | ⟨h, h'⟩)
      · exact decDigits_ne _ h
      · rw [decDigits_length] at h
        have := nDigits_le k _ h1
        omega
      · have := decDigits_head _ h
        rw [this] at h'
        rw [decDigits, dif_pos (by omega)] at h'
        simp at h'

theorem dig_ge (l : List UInt8) (k : Nat) : -1 ≤ dig l k := by
  unfold dig; split
  · omega
  · unfold decVal; split <;> omega

theorem num_dig (l : List UInt8) (k : Nat) (a b : Int) (ha : 0 ≤ a) (hb : b < 9223372036854775808) (hk : b = (10 : Int) ^ (k + 1) - 1) :
    num l a b = if a ≤ dig l (k + 1) then some (dig l (k + 1)) else none := by
  have hp : ((10 ^ (k + 1) : Nat) : Int) = (10 : Int) ^ (k + 1) := by simp
  split
  · next h =>
    rw [num_iff _ _ _ _ ha hb]
    have hd := (dig_iff l k (dig l (k + 1)) (by omega)).1 rfl
    refine ⟨h, ?_, hd.2⟩
    have := hd.1
    omega
  · next h =>
    cases hn : num l a b with
    | none => rfl
    | some v =>
      exfalso
      obtain ⟨h1, h2, h3⟩ := (num_iff _ _ _ _ ha hb).1 hn
      have := (dig_iff l k v (by omega)).2 ⟨by omega, h3⟩
      omega

end Go.Proofs.Facename
