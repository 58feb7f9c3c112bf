/-  The terms of chapter 27 over lists of bytes: what a feature ID, a role, a plain term and a copy are, and that a term is parsed in one way. No program in sight. -/
import Derived.Lib.AtoiAll
import Derived.Lib.Atoi
import Derived.Lib.ItoaLen
import Derived.Lib.SlTrimSet
import Derived.Lib.IndexMore
import Derived.Lib.IndexBytes
import Derived.Lib.IndexLaws
namespace Go.Proofs.Facename
open Go Go.Lib

/-! ### canonical numerals -/

theorem decFrom_append (l : List UInt8) (b : UInt8) (acc n : Nat) (h : decFrom acc (l ++ [b]) = some n) :
    ∃ m d, decFrom acc l = some m ∧ digitVal b = some d ∧ n = m * 10 + d := by
  induction l generalizing acc with
  | nil =>
    simp only [List.nil_append, decFrom] at h
    cases hd : digitVal b with
    | none => simp [hd] at h
    | some d =>
      simp only [hd, Option.some.injEq] at h
      exact ⟨acc, d, rfl, rfl, h.symm⟩
  | cons a t ih =>
    simp only [List.cons_append, decFrom] at h ⊢
    cases ha : digitVal a with
    | none => simp [ha] at h
    | some e =>
      simp only [ha] at h ⊢
      exact ih _ h

theorem decFrom_snoc (l : List UInt8) (b : UInt8) (acc m d : Nat) (h : decFrom acc l = some m) (hd : digitVal b = some d) :
    decFrom acc (l ++ [b]) = some (m * 10 + d) := by
  induction l generalizing acc with
  | nil => simp only [decFrom, Option.some.injEq] at h; subst h; simp [decFrom, hd]
  | cons a t ih =>
    simp only [List.cons_append, decFrom] at h ⊢
    cases ha : digitVal a with
    | none => simp [ha] at h
    | some e => simp only [ha] at h ⊢; exact ih _ h

theorem digitVal_ofNat (d : Nat) (h : d < 10) : digitVal (UInt8.ofNat (48 + d)) = some d := by
  unfold digitVal
  have : (UInt8.ofNat (48 + d)).toNat = 48 + d := by simp; omega
  rw [this, if_pos (by omega)]
  congr 1; omega

theorem digitVal_some {b : UInt8} {d : Nat} (h : digitVal b = some d) : d < 10 ∧ b = UInt8.ofNat (48 + d) := by
  unfold digitVal at h
  split at h
  · next hb =>
    simp only [Option.some.injEq] at h
    refine ⟨by omega, ?_⟩
    apply UInt8.toNat_inj.1
    simp; omega
  · cases h

theorem decFrom_decDigits (n : Nat) : decFrom 0 (decDigits n) = some n := by
  induction n using Nat.strongRecOn with
  | _ n ih =>
    rw [decDigits]
    split
    · next h => simp only [decFrom, digitVal_ofNat n h]; simp
    · next h =>
      rw [decFrom_snoc _ _ _ _ _ (ih (n / 10) (by omega)) (digitVal_ofNat (n % 10) (by omega))]
      congr 1; omega

theorem decDigits_ne (n : Nat) : decDigits n ≠ [] := by
  rw [decDigits]; split <;> simp

theorem decDigits_head (n : Nat) (h : (decDigits n).head? = some 48) : n = 0 := by
  induction n using Nat.strongRecOn with
  | _ n ih =>
    rw [decDigits] at h
    split at h
    · next hn =>
      simp only [List.head?_cons, Option.some.injEq] at h
      have := congrArg UInt8.toNat h
      simp at this; omega
    · next hn =>
      rw [List.head?_append] at h
      cases hh : (decDigits (n / 10)).head? with
      | none => exact absurd (List.head?_eq_none_iff.1 hh) (decDigits_ne _)
      | some c =>
        rw [hh] at h
        simp only [Option.some_or, Option.some.injEq] at h
        have := ih (n / 10) (by omega) (by rw [hh, h])
        omega

/-- a canonical numeral: not empty, digits only, no leading zero unless it is the one digit 0. -/
theorem canonical (k : Nat) : ∀ (l : List UInt8) (n : Nat), l.length = k → l ≠ [] → decFrom 0 l = some n → ¬ (l.head? = some 48 ∧ 1 < l.length) → l = decDigits n := by
  induction k with
  | zero => intro l n hl hne; exact absurd (List.length_eq_zero_iff.1 hl) hne
  | succ k ih =>
    intro l n hl hne hd hz
    obtain ⟨t, b, rfl⟩ : ∃ t b, l = t ++ [b] := ⟨l.dropLast, l.getLast hne, (List.dropLast_concat_getLast hne).symm⟩
    obtain ⟨m, d, hm, hb, rfl⟩ := decFrom_append _ _ _ _ hd
    obtain ⟨hd10, rfl⟩ := digitVal_some hb
    cases t with
    | nil =>
      simp only [decFrom, Option.some.injEq] at hm
      subst hm
      rw [decDigits, dif_pos (by omega)]
      simp
    | cons a t =>
      have hlen : (a :: t).length = k := by simpa using hl
      have h1 : (a :: t) = decDigits m := by
        refine ih (a :: t) m hlen (by simp) hm ?_
        rintro ⟨h48, _⟩
        exact hz ⟨by simpa using h48, by simp⟩
      have hm0 : m ≠ 0 := by
        intro h0
        subst h0
        have e0 : decDigits 0 = [48] := by rw [decDigits, dif_pos (by omega)]; rfl
        rw [e0] at h1
        simp only [List.cons.injEq] at h1
        exact hz ⟨by simp [h1.1], by simp⟩
      rw [decDigits, dif_neg (by omega), h1]
      have e1 : (m * 10 + d) / 10 = m := by omega
      have e2 : (m * 10 + d) % 10 = d := by omega
      rw [e1, e2]

theorem nDigits_le (k : Nat) : ∀ n, n < 10 ^ (k + 1) → nDigits n ≤ k + 1 := by
  induction k with
  | zero => intro n h; rw [nDigits_small (by simpa using h)]; omega
  | succ k ih =>
    intro n h
    by_cases hn : n < 10
    · rw [nDigits_small hn]; omega
    · rw [nDigits_big hn]
      have := ih (n / 10) (by rw [Nat.pow_succ] at h; omega)
      omega

/-! ### Atoi on canonical numerals -/

theorem parseUint10_of (l : List UInt8) : ∀ (acc n : Nat), decFrom acc l = some n → n < 9223372036854775808 → parseUint10 acc l = .ok n := by
  induction l with
  | nil => intro acc n h _; simp only [decFrom, Option.some.injEq] at h; subst h; rfl
  | cons c r ih =>
    intro acc n h hn
    simp only [decFrom] at h
    cases hd : digitVal c with
    | none => simp [hd] at h
    | some d =>
      simp only [hd] at h
      have hge : acc * 10 + d ≤ n := by
        clear ih hn hd
        generalize acc * 10 + d = a at h
        induction r generalizing a with
        | nil => simp only [decFrom, Option.some.injEq] at h; omega
        | cons e r ihr =>
          simp only [decFrom] at h
          cases he : digitVal e with
          | none => simp [he] at h
          | some f => simp only [he] at h; have := ihr _ h; omega
      unfold digitVal at hd
      split at hd
      · next hc =>
        simp only [Option.some.injEq] at hd
        simp only [parseUint10]
        rw [if_pos hc, if_neg (by omega), if_neg (by omega), hd]
        exact ih _ _ h hn
      · cases hd

/-- 'number(s, a, b)' of the program: the value, if s is the canonical numeral of a number from a to b. -/
def num (l : List UInt8) (a b : Int) : Option Int :=
  match atoiAll l with
  | .ok v => if itoa v = l ∧ a ≤ v ∧ v ≤ b then some v else none
  | _ => none

theorem atoi_decDigits (n : Nat) (hn : n < 9223372036854775808) : atoiAll (decDigits n) = .ok (n : Int) := by
  have h0 := decFrom_decDigits n
  have hne := decDigits_ne n
  cases hl : decDigits n with
  | nil => exact absurd hl hne
  | cons c r =>
    rw [hl] at h0
    have hc : ∃ d, digitVal c = some d := by
      simp only [decFrom] at h0
      cases hd : digitVal c with
      | none => simp [hd] at h0
      | some d => exact ⟨d, rfl⟩
    obtain ⟨d, hd⟩ := hc
    have hcb : 48 ≤ c.toNat ∧ c.toNat ≤ 57 := by
      unfold digitVal at hd
      split at hd
      · assumption
      · cases hd
    have e1 : (if c.toNat = 43 ∨ c.toNat = 45 then r else c :: r) = c :: r := if_neg (by omega)
    have e2 : parseMag (c :: r) = .ok n := by unfold parseMag; rw [if_neg (by simp), parseUint10_of _ _ _ h0 hn]
    simp only [atoiAll, e1, e2]
    rw [if_neg (by omega), if_neg (by omega), if_neg (by omega)]

theorem num_iff (l : List UInt8) (a b v : Int) (ha : 0 ≤ a) (hb : b < 9223372036854775808) :
    num l a b = some v ↔ a ≤ v ∧ v ≤ b ∧ l = decDigits v.toNat := by
  constructor
  · intro h
    unfold num at h
    split at h
    · next u hu =>
      split at h
      · next hc =>
        simp only [Option.some.injEq] at h
        subst h
        refine ⟨hc.2.1, hc.2.2, ?_⟩
        rw [← hc.1]
        unfold itoa
        rw [if_neg (by omega)]
      · cases h
    · cases h
  · rintro ⟨h1, h2, rfl⟩
    unfold num
    rw [atoi_decDigits v.toNat (by omega)]
    have e : ((v.toNat : Nat) : Int) = v := by omega
    simp only [e]
    rw [if_pos ⟨by unfold itoa; rw [if_neg (by omega)], h1, h2⟩]

def decVal : Option Nat → Int
  | some n => n
  | none => -1
/-- 'digits(s, most)' of the reference. -/
def dig (l : List UInt8) (most : Nat) : Int :=
  if l = [] ∨ most < l.length ∨ (l.head? = some 48 ∧ 1 < l.length) then -1 else decVal (decFrom 0 l)

theorem dig_iff (l : List UInt8) (k : Nat) (v : Int) (hv : 0 ≤ v) : dig l (k + 1) = v ↔ v.toNat < 10 ^ (k + 1) ∧ l = decDigits v.toNat := by
  constructor
  · intro h
    unfold dig at h
    split at h
    · omega
    · next hc =>
      have h1 : ¬ l = [] := fun e => hc (.inl e)
      have h2 : ¬ k + 1 < l.length := fun e => hc (.inr (.inl e))
      have h3 : ¬ (l.head? = some 48 ∧ 1 < l.length) := fun e => hc (.inr (.inr e))
      cases hd : decFrom 0 l with
      | none => rw [hd] at h; simp only [decVal] at h; omega
      | some n =>
        rw [hd] at h
        simp only [decVal] at h
        have e : v.toNat = n := by omega
        rw [e]
        have hcan := canonical _ l n rfl h1 hd h3
        refine ⟨?_, hcan⟩
        have hlt := decFrom_lt l 0 n hd
        simp only [Nat.zero_add, Nat.one_mul] at hlt
        exact Nat.lt_of_lt_of_le hlt (Nat.pow_le_pow_right (by omega) (by omega))
  · rintro ⟨h1, rfl⟩
    unfold dig
    rw [if_neg]
    · rw [decFrom_decDigits]; simp only [decVal]; omega
    · rintro (h | h | ⟨h, h'⟩)
      · exact decDigits_ne _ h
      · rw [decDigits_length] at h
        have := nDigits_le k _ h1
        omega
      · have := decDigits_head _ h
        rw [this] at h'
        rw [decDigits, dif_pos (by omega)] at h'
        simp at h'

theorem num_dig (l : List UInt8) (k : Nat) (a b : Int) (ha : 0 ≤ a) (hb : b < 9223372036854775808) (hk : b = (10 : Int) ^ (k + 1) - 1) :
    num l a b = if a ≤ dig l (k + 1) then some (dig l (k + 1)) else none := by
  have hp : ((10 ^ (k + 1) : Nat) : Int) = (10 : Int) ^ (k + 1) := by simp
  split
  · next h =>
    rw [num_iff _ _ _ _ ha hb]
    have hd := (dig_iff l k (dig l (k + 1)) (by omega)).1 rfl
    refine ⟨h, ?_, hd.2⟩
    have := hd.1
    omega
  · next h =>
    cases hn : num l a b with
    | none => rfl
    | some v =>
      exfalso
      obtain ⟨h1, h2, h3⟩ := (num_iff _ _ _ _ ha hb).1 hn
      have := (dig_iff l k v (by omega)).2 ⟨by omega, h3⟩
      omega

end Go.Proofs.Facename

namespace Go.Proofs.Facename
open Go Go.Lib

def low (b : UInt8) : Bool := decide (97 ≤ b.toNat) && decide (b.toNat ≤ 122)
def digit (b : UInt8) : Bool := decide (48 ≤ b.toNat) && decide (b.toNat ≤ 57)
def alnum (b : UInt8) : Bool := low b || digit b

theorem all_bytes {p : UInt8 → Bool} (h : ∀ n : Fin 256, p (UInt8.ofNat n.1) = true) (b : UInt8) : p b = true := by
  have := h ⟨b.toNat, b.toNat_lt⟩
  simpa using this

theorem cs26_low (b : UInt8) : ([97,98,99,100,101,102,103,104,105,106,107,108,109,110,111,112,113,114,115,116,117,118,119,120,121,122] : List UInt8).contains b = low b := by
  have := all_bytes (p := fun b => ([97,98,99,100,101,102,103,104,105,106,107,108,109,110,111,112,113,114,115,116,117,118,119,120,121,122] : List UInt8).contains b == low b) (by decide +kernel) b
  simpa using this
theorem cs36_alnum (b : UInt8) : ([97,98,99,100,101,102,103,104,105,106,107,108,109,110,111,112,113,114,115,116,117,118,119,120,121,122,48,49,50,51,52,53,54,55,56,57] : List UInt8).contains b = alnum b := by
  have := all_bytes (p := fun b => ([97,98,99,100,101,102,103,104,105,106,107,108,109,110,111,112,113,114,115,116,117,118,119,120,121,122,48,49,50,51,52,53,54,55,56,57] : List UInt8).contains b == alnum b) (by decide +kernel) b
  simpa using this
theorem cs10_digit (b : UInt8) : ([48,49,50,51,52,53,54,55,56,57] : List UInt8).contains b = digit b := by
  have := all_bytes (p := fun b => ([48,49,50,51,52,53,54,55,56,57] : List UInt8).contains b == digit b) (by decide +kernel) b
  simpa using this

/-! ### cutting at a byte -/

theorem indexByte_not_mem {l : List UInt8} {c : UInt8} (h : c ∉ l) : indexByte l c = -1 := by
  induction l with
  | nil => rfl
  | cons b l ih =>
    unfold indexByte
    have h1 : (b == c) = false := by simp; intro e; exact h (by simp [e])
    have h2 := ih (fun e => h (List.mem_cons_of_mem _ e))
    rw [h1, h2]; rfl

theorem indexByte_mem (p q : List UInt8) {c : UInt8} (h : c ∉ p) : indexByte (p ++ c :: q) c = p.length := by
  induction p with
  | nil => simp [indexByte]
  | cons b p ih =>
    have h1 : (b == c) = false := by simp; intro e; exact h (by simp [e])
    have h2 := ih (fun e => h (List.mem_cons_of_mem _ e))
    simp only [List.cons_append, indexByte, h1, h2]
    simp only [Bool.false_eq_true, if_false, List.length_cons]
    rw [if_neg (by simp)]
    omega

theorem split_at (l : List UInt8) (c : UInt8) (h : c ∈ l) : ∃ p q, l = p ++ c :: q ∧ c ∉ p := by
  induction l with
  | nil => simp at h
  | cons b l ih =>
    by_cases e : b = c
    · exact ⟨[], l, by simp [e], by simp⟩
    · have : c ∈ l := by
        rcases List.mem_cons.1 h with h | h
        · exact absurd h.symm e
        · exact h
      obtain ⟨p, q, rfl, hp⟩ := ih this
      refine ⟨b :: p, q, rfl, ?_⟩
      simp only [List.mem_cons, not_or]
      exact ⟨fun e' => e e'.symm, hp⟩

/-- at most one way to cut at the first c. -/
theorem split_unique {p q p' q' : List UInt8} {c : UInt8} (hp : c ∉ p) (hp' : c ∉ p') (h : p ++ c :: q = p' ++ c :: q') : p = p' ∧ q = q' := by
  have e1 := indexByte_mem p q hp
  have e2 := indexByte_mem p' q' hp'
  rw [h, e2] at e1
  have hl : p.length = p'.length := by omega
  have h1 := List.append_inj h hl
  simp only [List.cons.injEq, true_and] at h1
  exact h1

theorem cut_not_mem {l : List UInt8} {c : UInt8} (h : c ∉ l) : cut l [c] = (l, [], false) := by
  unfold cut
  rw [index_one, indexByte_not_mem h, if_neg (by omega)]
theorem cut_mem (p q : List UInt8) {c : UInt8} (h : c ∉ p) : cut (p ++ c :: q) [c] = (p, q, true) := by
  unfold cut
  rw [index_one, indexByte_mem p q h, if_pos (by omega)]
  simp

theorem trimS_nil (l cs : List UInt8) : trimS l cs = [] ↔ ∀ b ∈ l, cs.contains b = true := by
  have key : ∀ (r : List UInt8), r.dropWhile (cs.contains ·) = [] ↔ ∀ b ∈ r, cs.contains b = true := by
    intro r
    induction r with
    | nil => simp
    | cons a r ih =>
      rw [List.dropWhile_cons]
      split
      · next h => rw [ih]; simp only [List.mem_cons, forall_eq_or_imp]; exact ⟨fun k => ⟨h, k⟩, fun k => k.2⟩
      · next h => simp only [List.mem_cons, forall_eq_or_imp, reduceCtorEq, false_iff]; exact fun k => h k.1
  unfold trimS trimLeftS trimRightS
  constructor
  · intro h
    rw [key] at h
    by_cases e : l.reverse.dropWhile (cs.contains ·) = []
    · rw [key] at e
      intro b hb; exact e b (by simpa using hb)
    · -- the head of what is left is not in the set, but lies in it
      exfalso
      cases hd : l.reverse.dropWhile (cs.contains ·) with
      | nil => exact e hd
      | cons a t =>
        have h1 := h a (by rw [hd]; simp)
        have h2 := List.head?_dropWhile_not (cs.contains ·) l.reverse
        rw [hd] at h2
        simp only [List.head?_cons] at h2
        rw [h1] at h2
        simp at h2
  · intro h
    have e : l.reverse.dropWhile (cs.contains ·) = [] := (key _).2 (fun b hb => h b (by simpa using hb))
    rw [e]; rfl

/-! ### IDs, roles, terms -/

structure IdP (l : List UInt8) : Prop where
  mk :: (out : ∃ p n, l = p ++ 46 :: decDigits n ∧ p.length ≤ 24 ∧ (∃ c t, p = c :: t ∧ low c = true) ∧ (∀ b ∈ p, alnum b = true) ∧ 1 ≤ n ∧ n ≤ 999999999)
structure RoleP (l : List UInt8) : Prop where
  ne : l ≠ []
  le : l.length ≤ 12
  all : ∀ b ∈ l, low b = true
structure PlainP (l id role : List UInt8) (n : Nat) : Prop where
  eq : l = id ++ 58 :: (role ++ decDigits n)
  id : IdP id
  role : RoleP role
  le : n ≤ 999
structure CopyP (l id : List UInt8) (n : Nat) (of : List UInt8) : Prop where
  eq : l = id ++ 35 :: (decDigits n ++ 40 :: (of ++ [41]))
  id : IdP id
  ge : 1 ≤ n
  le : n ≤ 99

theorem digits_all (n : Nat) : ∀ b ∈ decDigits n, digit b = true := by
  intro b hb
  obtain ⟨k, hk, rfl⟩ := List.getElem_of_mem hb
  obtain ⟨d, hd⟩ := digit_of_decFrom _ 0 n (decFrom_decDigits n) k _ (List.getElem?_eq_getElem hk)
  unfold digitVal at hd
  split at hd
  · next h => simp [digit, h.1, h.2]
  · cases hd

theorem IdP.all {l : List UInt8} (h : IdP l) : ∀ b ∈ l, (alnum b || b == 46) = true := by
  obtain ⟨p, n, rfl, _, _, hp, _, _⟩ := h.out
  intro b hb
  simp only [List.mem_append, List.mem_cons] at hb
  rcases hb with hb | rfl | hb
  · simp [hp b hb]
  · simp
  · have := digits_all n b hb
    simp [alnum, this]

theorem IdP.not_mem {l : List UInt8} (h : IdP l) {c : UInt8} (hc : (alnum c || c == 46) = false) : c ∉ l := fun e => by
  have := h.all c e
  rw [hc] at this; cases this
theorem IdP.length {l : List UInt8} (h : IdP l) : l.length ≤ 34 := by
  obtain ⟨p, n, rfl, h1, _, _, _, h2⟩ := h.out
  have := nDigits_le 8 n (by omega)
  simp [decDigits_length]; omega

theorem role_digits {r r' : List UInt8} {n n' : Nat} (h : ∀ b ∈ r, low b = true) (h' : ∀ b ∈ r', low b = true) (e : r ++ decDigits n = r' ++ decDigits n') : r = r' ∧ n = n' := by
  have nl : ∀ m, ∀ b ∈ decDigits m, low b = false := fun m b hb => by
    have := digits_all m b hb
    simp only [digit, low, Bool.and_eq_true, decide_eq_true_eq] at this ⊢
    simp; omega
  have t : ∀ (r : List UInt8) m, (∀ b ∈ r, low b = true) → (r ++ decDigits m).takeWhile low = r := by
    intro r m hr
    induction r with
    | nil =>
      cases hd : decDigits m with
      | nil => rfl
      | cons a t => simp [nl m a (by rw [hd]; simp)]
    | cons a r ih => simp [hr a (by simp), ih (fun b hb => hr b (by simp [hb]))]
  have e1 : r = r' := by rw [← t r n h, ← t r' n' h', e]
  subst e1
  have e2 := List.append_cancel_left e
  have e3 := decFrom_decDigits n
  rw [e2, decFrom_decDigits n'] at e3
  exact ⟨rfl, (Option.some.inj e3).symm⟩

theorem PlainP.unique {l id role id' role' : List UInt8} {n n' : Nat} (h : PlainP l id role n) (h' : PlainP l id' role' n') : id = id' ∧ role = role' ∧ n = n' := by
  have e := h.eq.symm.trans h'.eq
  obtain ⟨e1, e2⟩ := split_unique (h.id.not_mem (by decide)) (h'.id.not_mem (by decide)) e
  obtain ⟨e3, e4⟩ := role_digits h.role.all h'.role.all e2
  exact ⟨e1, e3, e4⟩

theorem CopyP.unique {l id of id' of' : List UInt8} {n n' : Nat} (h : CopyP l id n of) (h' : CopyP l id' n' of') : id = id' ∧ n = n' ∧ of = of' := by
  have e := h.eq.symm.trans h'.eq
  obtain ⟨e1, e2⟩ := split_unique (h.id.not_mem (by decide)) (h'.id.not_mem (by decide)) e
  have nd : ∀ m, (40 : UInt8) ∉ decDigits m := fun m hm => by have := digits_all m _ hm; revert this; decide
  obtain ⟨e3, e4⟩ := split_unique (nd n) (nd n') e2
  have e5 := decFrom_decDigits n
  rw [e3, decFrom_decDigits n'] at e5
  exact ⟨e1, (Option.some.inj e5).symm, List.append_cancel_right e4⟩

theorem plain_not_hash {l id role : List UInt8} {n : Nat} (h : PlainP l id role n) : (35 : UInt8) ∉ l := by
  rw [h.eq]
  simp only [List.mem_append, List.mem_cons, not_or]
  refine ⟨h.id.not_mem (by decide), by decide, fun e => ?_, fun e => ?_⟩
  · have := h.role.all _ e; revert this; decide
  · have := digits_all n _ e; revert this; decide

theorem plain_copy {l id role id' of : List UInt8} {n n' : Nat} (h : PlainP l id role n) (h' : CopyP l id' n' of) : False := by
  apply plain_not_hash h
  rw [h'.eq]; simp

/-- a term and its parts. -/
inductive Parsed : List UInt8 → List UInt8 → List UInt8 → Nat → List UInt8 → Prop where
  | plain {l id role : List UInt8} {n : Nat} : l.length ≤ 200 → PlainP l id role n → Parsed l id role n []
  | copy {l id of a b c : List UInt8} {n m : Nat} : l.length ≤ 200 → CopyP l id n of → Parsed of a b m c → Parsed l id [] n of

theorem Parsed.length {l a b c : List UInt8} {n : Nat} (h : Parsed l a b n c) : l.length ≤ 200 := by cases h <;> assumption

theorem Parsed.unique {l a b c a' b' c' : List UInt8} {n n' : Nat} (h : Parsed l a b n c) (h' : Parsed l a' b' n' c') : a = a' ∧ b = b' ∧ n = n' ∧ c = c' := by
  cases h with
  | plain _ h =>
    cases h' with
    | plain _ h' => obtain ⟨h1, h2, h3⟩ := h.unique h'; exact ⟨h1, h2, h3, rfl⟩
    | copy _ h' _ => exact (plain_copy h h').elim
  | copy _ h _ =>
    cases h' with
    | plain _ h' => exact (plain_copy h' h).elim
    | copy _ h' _ => obtain ⟨h1, h2, h3⟩ := h.unique h'; exact ⟨h1, rfl, h2, h3⟩

theorem Parsed.ne {l a b c : List UInt8} {n : Nat} (h : Parsed l a b n c) : l ≠ [] := by
  cases h with
  | plain _ h => rw [h.eq]; simp
  | copy _ h _ => rw [h.eq]; simp

/-- is it a term? -/
def Term (l : List UInt8) : Prop := ∃ a b n c, Parsed l a b n c

end Go.Proofs.Facename
