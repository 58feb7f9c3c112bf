/- The reference's functions of chapter 27, as the printer writes them: what each comes to, over lists of bytes. Parse of chapter 27, the program's and the reference's: both answer by the one grammar of terms. The reference's functions of chapter 27, as the printer writes them: what each comes to, over lists of bytes. Parse of the reference of chapter 27 answers by the same grammar of terms. -/
import Derived.Test.YtkceipkedmfeiaaGreatDoorPlain
import Derived.Test.YtkceipkedmfeiaaGreatDoorX30x0
import Derived.Test.YtkceipkedmfeiaaGreatDoorX30x3
import Derived.Test.YtkceipkedmfeiaaGreatDoorX30x4
namespace Go.Proofs.YtkceipkedmfeiaaGreatDoor.P27
open Go.RowKit Go.Lib Go.Proofs.YtkceipkedmfeiaaGreatDoorW.PrintWords Go.Proofs.YtkceipkedmfeiaaGreatDoorW.PrintLast Go.Proofs.YtkceipkedmfeiaaGreatDoor.X30 Go.Proofs.Facename

/-! ### bytes of strings -/

theorem size_list (s : ByteArray) : s.size = s.data.toList.length := by simp only [Array.length_toList]; rfl
theorem bt_app {s : ByteArray} {pre rest : List UInt8} {c : UInt8} (h : s.data.toList = pre ++ c :: rest) {i : Int} (hi : i = pre.length) : bt s i = c.toNat ∧ i < s.size ∧ 0 ≤ i := by
  subst hi
  have hsz : s.size = pre.length + rest.length + 1 := by rw [size_list, h]; simp; omega
  refine ⟨?_, by omega, by omega⟩
  unfold bt
  have e : ((pre.length : Int)).toNat = pre.length := by omega
  rw [dif_pos (by omega)]
  have g : s.data.toList[pre.length]? = some c := by rw [h]; simp
  have g2 : s.data.toList[pre.length]? = some s[pre.length] := data_getElem? s pre.length (by omega)
  rw [g2] at g
  have := Option.some.inj g
  simp only [e]
  exact congrArg (fun b : UInt8 => (b.toNat : Int)) this
theorem w64 {i : Int} (h0 : -9223372036854775808 ≤ i) (h : i ≤ 9223372036854775807) : wrap64 i = i := by unfold wrap64; omega
theorem extract_list (s : ByteArray) (a b : Nat) : (s.extract a b).data.toList = (s.data.toList.take b).drop a := by
  simp [ByteArray.data_extract, Array.toList_extract, List.extract, List.drop_take]
theorem toNat_eq {a b : UInt8} (h : (a.toNat : Int) = b.toNat) : a = b := UInt8.toNat_inj.1 (by omega)
theorem str_ext {s t : ByteArray} (h : s.data.toList = t.data.toList) : s = t := by
  cases s; cases t; simp only [ByteArray.mk.injEq]; exact Array.toList_inj.1 h
theorem str_mk {s : ByteArray} {l : List UInt8} (h : s.data.toList = l) : s = ⟨l.toArray⟩ := str_ext (by rw [h])

theorem indexByte_cons (b : UInt8) (l : List UInt8) (c : UInt8) : indexByte (b :: l) c = if b == c then 0 else if indexByte l c == -1 then -1 else indexByte l c + 1 := rfl

/-! ### digits -/

/-! ### dec -/
/-! ### small, Id, Role -/
theorem dig_pos (q : List UInt8) (k : Nat) : 1 ≤ dig q (k + 1) ↔ ∃ n : Nat, q = decDigits n ∧ 1 ≤ n ∧ n < 10 ^ (k + 1) := by
  constructor
  · intro h
    have := (dig_iff q k (dig q (k + 1)) (by omega)).1 rfl
    exact ⟨(dig q (k + 1)).toNat, this.2, by omega, this.1⟩
  · rintro ⟨n, hq, h1, h2⟩
    have := (dig_iff q k n (by omega)).2 ⟨by simpa using h2, by simpa using hq⟩
    omega

theorem dig_nonneg (q : List UInt8) (k : Nat) : 0 ≤ dig q (k + 1) ↔ ∃ n : Nat, q = decDigits n ∧ n < 10 ^ (k + 1) := by
  constructor
  · intro h
    have := (dig_iff q k (dig q (k + 1)) h).1 rfl
    exact ⟨(dig q (k + 1)).toNat, this.2, this.1⟩
  · rintro ⟨n, hq, h2⟩
    have := (dig_iff q k n (by omega)).2 ⟨by simpa using h2, by simpa using hq⟩
    omega

theorem alnum_not46 {b : UInt8} (h : alnum b = true) : b ≠ 46 := by
  rintro rfl; revert h; decide

theorem idP_iff {p q : List UInt8} (hp : (46 : UInt8) ∉ p) : IdP (p ++ 46 :: q) ↔ p.length ≤ 24 ∧ (∃ c t, p = c :: t ∧ low c = true) ∧ (∀ b ∈ p, alnum b = true) ∧ 1 ≤ dig q 9 := by
  constructor
  · rintro ⟨p', n, e, h1, h2, h3, h4, h5⟩
    have hp' : (46 : UInt8) ∉ p' := fun hm => alnum_not46 (h3 _ hm) rfl
    obtain ⟨rfl, rfl⟩ := split_unique hp hp' e
    exact ⟨h1, h2, h3, (dig_pos _ 8).2 ⟨n, rfl, h4, by omega⟩⟩
  · rintro ⟨h1, h2, h3, h4⟩
    obtain ⟨n, rfl, h5, h6⟩ := (dig_pos _ 8).1 h4
    exact ⟨p, n, rfl, h1, h2, h3, h5, by omega⟩

theorem idP_mem {l : List UInt8} (h : IdP l) : (46 : UInt8) ∈ l := by
  obtain ⟨p, n, rfl, _⟩ := h.out
  simp

end Go.Proofs.YtkceipkedmfeiaaGreatDoor.P27
namespace Go.Proofs.YtkceipkedmfeiaaGreatDoor.P27
open Go.RowKit Go.Lib Go.Proofs.YtkceipkedmfeiaaGreatDoorW.PrintWords Go.Proofs.YtkceipkedmfeiaaGreatDoorW.PrintLast Go.Proofs.YtkceipkedmfeiaaGreatDoor.X30 Go.Proofs.Facename

theorem toList_mk (l : List UInt8) : (⟨l.toArray⟩ : ByteArray).toList = l := by simp [ByteArray.toList_eq]
theorem toList_data (s : ByteArray) : s.toList = s.data.toList := by simp [ByteArray.toList_eq]
theorem size_mk (l : List UInt8) : (⟨l.toArray⟩ : ByteArray).size = l.length := by rw [size_list]

/-! ### plain -/

theorem digits_trim (q : List UInt8) : ∃ r d, q = r ++ d ∧ trimRightS q [48, 49, 50, 51, 52, 53, 54, 55, 56, 57] = r ∧ (∀ r' n, (∀ b ∈ r', low b = true) → q = r' ++ decDigits n → r' = r ∧ d = decDigits n) := by
  have hf : (fun b => ([48, 49, 50, 51, 52, 53, 54, 55, 56, 57] : List UInt8).contains b) = digit := by funext b; exact cs10_digit b
  have e : trimRightS q [48, 49, 50, 51, 52, 53, 54, 55, 56, 57] = (q.reverse.dropWhile digit).reverse := by
    unfold trimRightS
    rw [show (fun x => ([48, 49, 50, 51, 52, 53, 54, 55, 56, 57] : List UInt8).contains x) = digit from hf]
  refine ⟨(q.reverse.dropWhile digit).reverse, (q.reverse.takeWhile digit).reverse, ?_, e, ?_⟩
  · rw [← List.reverse_append, List.takeWhile_append_dropWhile, List.reverse_reverse]
  · intro r' n hr' hq
    have hrev : q.reverse = (decDigits n).reverse ++ r'.reverse := by rw [hq, List.reverse_append]
    have hd : ∀ b ∈ (decDigits n).reverse, digit b = true := fun b hb => digits_all n b (List.mem_reverse.1 hb)
    have hnr : r'.reverse.dropWhile digit = r'.reverse ∧ r'.reverse.takeWhile digit = [] := by
      cases hc : r'.reverse with
      | nil => simp
      | cons c t =>
        have hlow := hr' c (List.mem_reverse.1 (by rw [hc]; simp))
        have hnd : digit c = false := by
          simp only [digit, low, Bool.and_eq_true, decide_eq_true_eq, Bool.and_eq_false_iff, decide_eq_false_iff_not] at hlow ⊢
          omega
        simp [hnd]
    have h1 : q.reverse.dropWhile digit = r'.reverse := by
      rw [hrev, List.dropWhile_append_of_pos hd]; exact hnr.1
    have h2 : q.reverse.takeWhile digit = (decDigits n).reverse := by
      rw [hrev, List.takeWhile_append_of_pos hd, hnr.2, List.append_nil]
    rw [h1, h2, List.reverse_reverse, List.reverse_reverse]
    exact ⟨rfl, rfl⟩

theorem num0_of_digits {d : List UInt8} : 0 ≤ dig d 3 ↔ ∃ n : Nat, d = decDigits n ∧ n < 1000 := dig_nonneg d 2

theorem plainP_iff {p q r d : List UInt8} (hp : (58 : UInt8) ∉ p) (hq : q = r ++ d) (hu : ∀ r' n, (∀ b ∈ r', low b = true) → q = r' ++ decDigits n → r' = r ∧ d = decDigits n) (id role : List UInt8) (n : Nat) :
    PlainP (p ++ 58 :: q) id role n ↔ id = p ∧ role = r ∧ IdP p ∧ RoleP r ∧ d = decDigits n ∧ n ≤ 999 := by
  constructor
  · intro h
    obtain ⟨rfl, e⟩ := split_unique hp (h.id.not_mem (by decide)) h.eq
    obtain ⟨rfl, e2⟩ := hu role n h.role.all e
    exact ⟨rfl, rfl, h.id, h.role, e2, h.le⟩
  · rintro ⟨rfl, rfl, h1, h2, rfl, h3⟩
    exact ⟨by rw [hq], h1, h2, h3⟩

end Go.Proofs.YtkceipkedmfeiaaGreatDoor.P27
namespace Go.Proofs.YtkceipkedmfeiaaGreatDoor.P27
open Go Go.RowKit Go.Lib Go.Proofs.YtkceipkedmfeiaaGreatDoorW.PrintWords Go.Proofs.YtkceipkedmfeiaaGreatDoorW.PrintLast Go.Proofs.YtkceipkedmfeiaaGreatDoor.X30 Go.Proofs.Facename

open Classical in
noncomputable def newR (id role : List UInt8) (i : Int) : ByteArray × Int :=
  if IdP id ∧ RoleP role then (if 0 ≤ i ∧ i ≤ 999 then (⟨(id ++ 58 :: (role ++ decDigits i.toNat)).toArray⟩, 0) else (⟨#[]⟩, 2)) else (⟨#[]⟩, 7)
theorem decLen (n : Int) (h1 : n ≤ 999) : (decDigits n.toNat).length ≤ 3 := by
  rw [decDigits_length]; exact nDigits_le 2 _ (by omega)
theorem cat_new (a0 a1 d : ByteArray) : ((a0 ++ (⟨#[58]⟩ : ByteArray)) ++ a1) ++ d = ⟨(a0.data.toList ++ 58 :: (a1.data.toList ++ d.data.toList)).toArray⟩ := by
  apply str_ext; simp
theorem sz_app (a b : ByteArray) : (a ++ b).size = a.size + b.size := ByteArray.size_append
theorem sz1 (c : UInt8) : (⟨#[c]⟩ : ByteArray).size = 1 := rfl

/-! ### the example of the chapter -/
theorem id_of (p : List UInt8) (n : Nat) (h1 : p.length ≤ 24) (h2 : ∃ c t, p = c :: t ∧ low c = true) (h3 : p.all alnum = true) (hn : 1 ≤ n) (hn2 : n < 10) : IdP (p ++ [46, UInt8.ofNat (48 + n)]) :=
  ⟨p, n, by rw [decDigits, dif_pos hn2], h1, h2, List.all_eq_true.1 h3, hn, by omega⟩
theorem idAnn : IdP [97, 110, 110, 46, 51] := id_of [97, 110, 110] 3 (by decide) ⟨97, [110, 110], rfl, by decide⟩ (by decide) (by decide) (by decide)
theorem idBob : IdP [98, 111, 98, 46, 55] := id_of [98, 111, 98] 7 (by decide) ⟨98, [111, 98], rfl, by decide⟩ (by decide) (by decide) (by decide)
theorem roleSide : RoleP [115, 105, 100, 101] := ⟨by decide, by decide, List.all_eq_true.1 (by decide)⟩
/-! ### the laws -/
end Go.Proofs.YtkceipkedmfeiaaGreatDoor.P27

namespace Go.Proofs.YtkceipkedmfeiaaGreatDoor.P27
open Go.RowKit Go.Lib Go.Proofs.YtkceipkedmfeiaaGreatDoorW.PrintWords Go.Proofs.YtkceipkedmfeiaaGreatDoorW.PrintLast Go.Proofs.YtkceipkedmfeiaaGreatDoor.X30 Go.Proofs.Facename

abbrev R5 := ByteArray × ByteArray × Int × ByteArray × Int
def bad : R5 := ((⟨#[]⟩ : ByteArray), (⟨#[]⟩ : ByteArray), 0, (⟨#[]⟩ : ByteArray), 3)
/-- what Parse is to answer. -/
def PRes (l : List UInt8) (r : R5) : Prop :=
  (∃ a b n c, Parsed l a b n c ∧ r = (⟨a.toArray⟩, ⟨b.toArray⟩, (n : Int), ⟨c.toArray⟩, 0)) ∨ (¬ Term l ∧ r = bad)

theorem PRes.unique {l : List UInt8} {r r' : R5} (h : PRes l r) (h' : PRes l r') : r = r' := by
  rcases h with ⟨a, b, n, c, h, rfl⟩ | ⟨h, rfl⟩
  · rcases h' with ⟨a', b', n', c', h', rfl⟩ | ⟨h', rfl⟩
    · obtain ⟨rfl, rfl, rfl, rfl⟩ := h.unique h'; rfl
    · exact (h' ⟨_, _, _, _, h⟩).elim
  · rcases h' with ⟨a', b', n', c', h', rfl⟩ | ⟨h', rfl⟩
    · exact (h ⟨_, _, _, _, h'⟩).elim
    · rfl

theorem PRes.code {l : List UInt8} {r : R5} (h : PRes l r) : (r.2.2.2.2 = 0 ∧ Term l) ∨ (r.2.2.2.2 = 3 ∧ ¬ Term l) := by
  rcases h with ⟨a, b, n, c, h, rfl⟩ | ⟨h, rfl⟩
  · exact .inl ⟨rfl, _, _, _, _, h⟩
  · exact .inr ⟨rfl, h⟩

/-! ### copies -/
theorem dig2 (u : List UInt8) : 1 ≤ dig u 2 ↔ ∃ n : Nat, u = decDigits n ∧ 1 ≤ n ∧ n < 100 := dig_pos u 1

theorem copyP_iff {p u v : List UInt8} (hp : (35 : UInt8) ∉ p) (hu : (40 : UInt8) ∉ u) (id : List UInt8) (n : Nat) (of : List UInt8) :
    CopyP (p ++ 35 :: (u ++ 40 :: v)) id n of ↔ id = p ∧ IdP p ∧ u = decDigits n ∧ 1 ≤ n ∧ n ≤ 99 ∧ v = of ++ [41] := by
  have nd : ∀ m, (40 : UInt8) ∉ decDigits m := fun m hm => by have := digits_all m _ hm; revert this; decide
  constructor
  · intro h
    obtain ⟨rfl, e⟩ := split_unique hp (h.id.not_mem (by decide)) h.eq
    obtain ⟨e1, e2⟩ := split_unique hu (nd n) e
    exact ⟨rfl, h.id, e1, h.ge, h.le, e2⟩
  · rintro ⟨rfl, h1, rfl, h2, h3, rfl⟩
    exact ⟨rfl, h1, h2, h3⟩

theorem copy_mem {l id of : List UInt8} {n : Nat} (h : CopyP l id n of) : (35 : UInt8) ∈ l := by rw [h.eq]; simp

theorem suffix41 (v : List UInt8) : (hasSuffix v [41] = true ↔ ∃ of, v = of ++ [41]) := by
  unfold hasSuffix
  rw [List.isSuffixOf_iff_suffix]
  exact ⟨fun ⟨t, h⟩ => ⟨t, h.symm⟩, fun ⟨t, h⟩ => ⟨t, h.symm⟩⟩
theorem trim41 (of : List UInt8) : trimSuffix (of ++ [41]) [41] = of := by
  unfold trimSuffix
  rw [if_pos ((suffix41 _).2 ⟨of, rfl⟩)]
  simp

theorem not_term_big {l : List UInt8} (h : 200 < l.length) : ¬ Term l := fun ⟨_, _, _, _, hp⟩ => by have := hp.length; omega
theorem not_term {l : List UInt8} (h1 : ∀ id role n, ¬ PlainP l id role n) (h2 : ∀ id n of, CopyP l id n of → ¬ Term of) : ¬ Term l := by
  rintro ⟨_, _, _, _, hp⟩
  cases hp with
  | plain _ h => exact h1 _ _ _ h
  | copy _ h h' => exact h2 _ _ _ h ⟨_, _, _, _, h'⟩

end Go.Proofs.YtkceipkedmfeiaaGreatDoor.P27

namespace Go.Proofs.YtkceipkedmfeiaaGreatDoor.P27
open Go.RowKit Go.Lib Go.Proofs.YtkceipkedmfeiaaGreatDoorW.PrintWords Go.Proofs.YtkceipkedmfeiaaGreatDoorW.PrintLast Go.Proofs.YtkceipkedmfeiaaGreatDoor.X30 Go.Proofs.Facename

/-! ### bytes of strings -/

theorem first_l0 (s : ByteArray) (c : UInt8) (hs : s.size ≤ 140737488351232) : ∀ (rest pre : List UInt8), s.data.toList = pre ++ rest → ∀ k, rest.length < k →
    voussoirref27_first.l0 k s c.toNat pre.length = some (if indexByte rest c = -1 then -1 else pre.length + indexByte rest c) := by
  intro rest
  induction rest with
  | nil =>
    intro pre h k hk
    obtain ⟨k, rfl⟩ : ∃ m, k = m + 1 := ⟨k - 1, by simp at hk; omega⟩
    have hsz : s.size = pre.length := by rw [size_list, h]; simp
    simp only [voussoirref27_first.l0]
    rw [if_neg (by omega)]; simp [indexByte]
  | cons b rest ih =>
    intro pre h k hk
    obtain ⟨k, rfl⟩ : ∃ m, k = m + 1 := ⟨k - 1, by simp at hk; omega⟩
    obtain ⟨h1, h2, h3⟩ := bt_app h rfl
    simp only [voussoirref27_first.l0]
    rw [if_pos h2, if_pos h3, h1]
    by_cases e : b = c
    · subst e
      rw [if_pos rfl]; simp [indexByte]
    · rw [if_neg (fun x => e (toNat_eq x)), w64 (by omega) (by omega)]
      have := ih (pre ++ [b]) (by rw [h]; simp) k (by simp at hk; omega)
      simp only [List.length_append, List.length_cons, List.length_nil, Nat.zero_add, Int.natCast_add, Int.cast_ofNat_Int] at this
      rw [this]
      have e1 : (b == c) = false := by simpa using e
      rw [indexByte_cons, e1]
      have hge := indexByte_ge rest c
      by_cases e2 : indexByte rest c = -1
      · simp [e2]
      · have e3 : (indexByte rest c == -1) = false := by simpa using e2
        simp only [e3, Bool.false_eq_true, if_false]
        rw [if_neg e2, if_neg (by omega)]; congr 1; omega

theorem first_ev (s : ByteArray) (c : UInt8) (hs : s.size ≤ 140737488351232) (n : Int) (hn : n = c.toNat) : Ev (fun k => voussoirref27_first.f k s n) (indexByte s.data.toList c) := by
  subst hn
  refine ⟨s.size + 1, fun k hk => ?_⟩
  have := first_l0 s c hs s.data.toList [] rfl k (by rw [← size_list]; omega)
  show voussoirref27_first.l0 k s c.toNat 0 = _
  simp only [List.length_nil, Int.cast_ofNat_Int] at this
  rw [this]
  have hge := indexByte_ge s.data.toList c
  split
  · next h => rw [h]
  · congr 1; omega

/-! ### digits -/

theorem digits_l0 (s : ByteArray) (hs : s.size ≤ 9) : ∀ (rest pre : List UInt8), s.data.toList = pre ++ rest → ∀ (acc : Nat), acc < 10 ^ pre.length → ∀ k, rest.length < k →
    voussoirref27_digits.l0 k s acc pre.length = some (decVal (decFrom acc rest)) := by
  intro rest
  induction rest with
  | nil =>
    intro pre h acc _ k hk
    obtain ⟨k, rfl⟩ : ∃ m, k = m + 1 := ⟨k - 1, by simp at hk; omega⟩
    have hsz : s.size = pre.length := by rw [size_list, h]; simp
    simp only [voussoirref27_digits.l0]
    rw [if_neg (by omega)]; simp [decFrom, decVal]
  | cons b rest ih =>
    intro pre h acc ha k hk
    obtain ⟨k, rfl⟩ : ∃ m, k = m + 1 := ⟨k - 1, by simp at hk; omega⟩
    obtain ⟨h1, h2, h3⟩ := bt_app h rfl
    have hlen : pre.length + rest.length + 1 ≤ 9 := by have := size_list s; rw [h] at this; simp at this; omega
    have hp : 10 ^ pre.length ≤ 10 ^ 8 := Nat.pow_le_pow_right (by omega) (by omega)
    have hbt := b.toNat_lt
    simp only [voussoirref27_digits.l0]
    rw [if_pos h2, if_pos h3, h1]
    simp only [decFrom, digitVal]
    by_cases e1 : (b.toNat : Int) < 48
    · rw [if_pos e1, if_neg (by omega)]; rfl
    · rw [if_neg e1]
      by_cases e2 : (b.toNat : Int) > 57
      · rw [if_pos e2, if_neg (by omega)]; rfl
      · rw [if_neg e2, if_pos (by omega), w64 (i := 10 * (acc : Int)) (by omega) (by omega), w64 (i := 10 * (acc : Int) + ((b.toNat : Int) - 48) % 256) (by omega) (by omega), w64 (i := (pre.length : Int) + 1) (by omega) (by omega)]
        have hacc : acc * 10 + (b.toNat - 48) < 10 ^ (pre ++ [b]).length := by simp only [List.length_append, List.length_cons, List.length_nil, Nat.pow_succ]; omega
        have := ih (pre ++ [b]) (by rw [h]; simp) (acc * 10 + (b.toNat - 48)) hacc k (by simp at hk; omega)
        rw [← this]
        have e3 : ((acc * 10 + (b.toNat - 48) : Nat) : Int) = 10 * (acc : Int) + (((b.toNat : Int)) - 48) % 256 := by omega
        rw [e3]
        simp

theorem digits_ev (s : ByteArray) (m : Nat) (hm : m ≤ 9) (hs : s.size ≤ 140737488351232) (n : Int) (hn : n = m) : Ev (fun k => voussoirref27_digits.f k s n) (dig s.data.toList m) := by
  subst hn
  refine ⟨11, fun k hk => ?_⟩
  obtain ⟨k, rfl⟩ : ∃ j, k = j + 1 := ⟨k - 1, by omega⟩
  have hl := size_list s
  show voussoirref27_digits.f (k + 1) s m = _
  unfold voussoirref27_digits.f dig
  cases hd : s.data.toList with
  | nil =>
    rw [hd] at hl
    simp only [List.length_nil] at hl
    rw [if_pos (by omega), if_pos (.inl rfl)]; simp [voussoirref27_digits.j0]
  | cons c t =>
    rw [hd] at hl
    simp only [List.length_cons] at hl
    rw [if_neg (by omega)]
    by_cases e1 : (s.size : Int) > m
    · rw [if_pos e1, if_pos (.inr (.inl (by simp; omega)))]; simp [voussoirref27_digits.j0]
    · rw [if_neg e1, if_pos (by omega)]
      obtain ⟨h1, -, -⟩ := bt_app (s := s) (pre := []) (rest := t) (c := c) (by rw [hd]; rfl) (i := 0) rfl
      rw [h1]
      by_cases e2 : (c.toNat : Int) = 48
      · have ec : c = 48 := UInt8.toNat_inj.1 (by simpa using (by omega : c.toNat = 48))
        rw [if_pos e2]
        by_cases e3 : 1 < (c :: t).length
        · rw [if_pos (.inr (.inr ⟨by simp [ec], e3⟩))]
          have : decide ((s.size : Int) > 1) = true := by simp only [List.length_cons] at e3; simp; omega
          rw [this]; simp [voussoirref27_digits.j0]
        · have : decide ((s.size : Int) > 1) = false := by simp only [List.length_cons] at e3; simp; omega
          rw [this, if_neg (by
            rintro (h | h | ⟨_, h⟩)
            · cases h
            · simp only [List.length_cons] at h; omega
            · exact e3 h)]
          simp only [voussoirref27_digits.j0, Bool.false_eq_true, if_false]
          have := digits_l0 s (by omega) (c :: t) [] (by rw [hd]; rfl) 0 (by simp) k (by simp; omega)
          simpa using this
      · have ec : ¬ c = 48 := fun e => e2 (by rw [e]; rfl)
        rw [if_neg e2, if_neg (by
          rintro (h | h | ⟨h, _⟩)
          · cases h
          · simp only [List.length_cons] at h; omega
          · exact ec (by simpa using h))]
        simp only [voussoirref27_digits.j0, Bool.false_eq_true, if_false]
        have := digits_l0 s (by omega) (c :: t) [] (by rw [hd]; rfl) 0 (by simp) k (by simp; omega)
        simpa using this

/-! ### dec -/
/-! ### small, Id, Role -/
theorem small_eq (c : UInt8) : voussoirref27_small.f c.toNat = some (low c) := by
  unfold voussoirref27_small.f low
  by_cases h : 97 ≤ c.toNat
  · rw [if_pos (by omega)]; simp [h]; omega
  · rw [if_neg (by omega)]; simp [h]

theorem Id_l0 (s : ByteArray) (hs : s.size ≤ 140737488351232) (p q : List UInt8) (hl : s.data.toList = p ++ q) : ∀ (rest pre : List UInt8), p = pre ++ rest → ∀ k, rest.length < k →
    voussoirref27_Id.l0 k s p.length pre.length = some (if ∀ b ∈ rest, alnum b = true then 1 else 0) := by
  intro rest
  induction rest with
  | nil =>
    intro pre h k hk
    obtain ⟨k, rfl⟩ : ∃ m, k = m + 1 := ⟨k - 1, by simp at hk; omega⟩
    simp only [voussoirref27_Id.l0]
    rw [if_neg (by rw [h]; simp)]; simp
  | cons b rest ih =>
    intro pre h k hk
    obtain ⟨k, rfl⟩ : ∃ m, k = m + 1 := ⟨k - 1, by simp at hk; omega⟩
    obtain ⟨h1, h2, h3⟩ := bt_app (s := s) (pre := pre) (rest := rest ++ q) (c := b) (by rw [hl, h]; simp) rfl
    have hlen : pre.length < p.length := by rw [h]; simp
    have hplen : p.length ≤ s.size := by rw [size_list, hl]; simp
    simp only [voussoirref27_Id.l0]
    rw [if_pos (by omega), if_pos h3, if_pos h2, h1, small_eq, Option.bind_some]
    have ih' := ih (pre ++ [b]) (by rw [h]; simp) k (by simp at hk; omega)
    simp only [List.length_append, List.length_cons, List.length_nil, Nat.zero_add, Int.natCast_add, Int.cast_ofNat_Int] at ih'
    rw [w64 (by omega) (by omega)]
    have hcons : (∀ x ∈ b :: rest, alnum x = true) ↔ alnum b = true ∧ ∀ x ∈ rest, alnum x = true := by simp
    by_cases hb : alnum b = true
    · have e : (if ∀ x ∈ b :: rest, alnum x = true then (1 : Int) else 0) = if ∀ x ∈ rest, alnum x = true then 1 else 0 := by
        by_cases hr : ∀ x ∈ rest, alnum x = true
        · rw [if_pos (hcons.2 ⟨hb, hr⟩), if_pos hr]
        · rw [if_neg (fun x => hr (hcons.1 x).2), if_neg hr]
      rw [e]
      by_cases hlow : low b = true
      · rw [if_pos hlow]; exact ih'
      · rw [if_neg hlow]
        have hd : 48 ≤ b.toNat ∧ b.toNat ≤ 57 := by simpa [alnum, hlow, digit] using hb
        rw [if_neg (by omega), if_neg (by omega)]; exact ih'
    · rw [if_neg (fun x => hb (hcons.1 x).1)]
      have hx : ¬ low b = true ∧ ¬ (48 ≤ b.toNat ∧ b.toNat ≤ 57) := by
        constructor
        · intro h; exact hb (by simp [alnum, h])
        · intro h; exact hb (by simp [alnum, digit, h.1, h.2])
      rw [if_neg hx.1]
      by_cases h48 : (b.toNat : Int) < 48
      · rw [if_pos h48]
      · rw [if_neg h48, if_pos (by omega)]

theorem Id_ev (s : ByteArray) (hs : s.size ≤ 140737488351232) : ∃ r : Int, Ev (fun k => voussoirref27_Id.f k s) r ∧ ((r = 1 ∧ IdP s.data.toList) ∨ (r = 0 ∧ ¬ IdP s.data.toList)) := by
  obtain ⟨K1, h1⟩ := first_ev s 46 hs 46 rfl
  have sz := size_list s
  by_cases hm : (46 : UInt8) ∈ s.data.toList
  · obtain ⟨p, q, hl, hp⟩ := split_at _ _ hm
    have hi := indexByte_mem p q hp
    have hq : (s.extract (p.length + 1) s.size).data.toList = q := by rw [extract_to_end, hl]; simp
    obtain ⟨K2, h2⟩ := digits_ev (s.extract (p.length + 1) s.size) 9 (by omega) (by have := size_list (s.extract (p.length + 1) s.size); rw [hq] at this; rw [hl] at sz; simp at sz; omega) 9 rfl
    rw [hl, hi] at h1
    rw [hq] at h2
    rw [hl] at sz ⊢
    simp only [List.length_append, List.length_cons] at sz
    have hiff := idP_iff (q := q) hp
    have none_ : ∀ (hn : ¬ IdP (p ++ 46 :: q)), (∀ k, K1 + K2 + 3 + p.length ≤ k → voussoirref27_Id.f k s = some 0) → ∃ r : Int, Ev (fun k => voussoirref27_Id.f k s) r ∧ ((r = 1 ∧ IdP (p ++ 46 :: q)) ∨ (r = 0 ∧ ¬ IdP (p ++ 46 :: q))) := fun hn h => ⟨0, ⟨_, h⟩, .inr ⟨rfl, hn⟩⟩
    have j0t : ∀ k, 0 < k → ∀ a, voussoirref27_Id.j0 k s a true = some 0 := by
      intro k hk a
      obtain ⟨k, rfl⟩ : ∃ m, k = m + 1 := ⟨k - 1, by omega⟩
      simp [voussoirref27_Id.j0]
    cases hp0 : p with
    | nil =>
      subst hp0
      refine none_ (fun h => by obtain ⟨_, ⟨c, t, e, _⟩, _⟩ := hiff.1 h; cases e) (fun k hk => ?_)
      unfold voussoirref27_Id.f
      have g1 : voussoirref27_first.f k s 46 = _ := h1 k (by omega)
      rw [g1, Option.bind_some]
      rw [if_pos (by simp)]; exact j0t k (by omega) _
    | cons c t =>
      rw [← hp0]
      obtain ⟨b1, b2, b3⟩ := bt_app (s := s) (pre := []) (c := c) (rest := t ++ 46 :: q) (by rw [hl, hp0]; simp) (i := 0) rfl
      have hplen : 1 ≤ p.length := by rw [hp0]; simp
      by_cases hle : p.length ≤ 24
      · cases hlow : low c with
        | false =>
          refine none_ (fun h => by
            obtain ⟨_, ⟨c', t', e, hl'⟩, _⟩ := hiff.1 h
            rw [hp0] at e; injection e with e1 _; subst e1; rw [hlow] at hl'; cases hl') (fun k hk => ?_)
          unfold voussoirref27_Id.f
          have g1 : voussoirref27_first.f k s 46 = _ := h1 k (by omega)
          rw [g1, Option.bind_some]
          rw [if_neg (by omega), if_neg (by omega), if_pos b2, b1, small_eq, hlow]
          rw [Option.bind_some, if_neg (by decide)]
          exact j0t k (by omega) _
        | true =>
          have run : ∀ k, K1 + K2 + 3 + p.length ≤ k → voussoirref27_Id.f k s = voussoirref27_Id.j0 k s p.length (decide (dig q 9 < 1)) := by
            intro k hk
            unfold voussoirref27_Id.f
            have g1 : voussoirref27_first.f k s 46 = _ := h1 k (by omega)
            have g2 : voussoirref27_digits.f k (s.extract (p.length + 1) s.size) 9 = _ := h2 k (by omega)
            rw [g1, Option.bind_some]
            rw [if_neg (by omega), if_neg (by omega), if_pos b2, b1, small_eq, hlow]
            rw [Option.bind_some, if_pos rfl, w64 (by omega) (by omega), if_pos (by omega), if_pos (by omega)]
            have e : ((p.length : Int) + 1).toNat = p.length + 1 := by omega
            rw [e, g2, Option.bind_some]
          by_cases hd : dig q 9 < 1
          · refine none_ (fun h => by have := (hiff.1 h).2.2.2; omega) (fun k hk => ?_)
            rw [run k hk, decide_eq_true hd]; exact j0t k (by omega) _
          · have fin : ∀ k, K1 + K2 + 3 + p.length ≤ k → voussoirref27_Id.f k s = some (if ∀ b ∈ p, alnum b = true then 1 else 0) := by
              intro k hk
              rw [run k hk, decide_eq_false hd]
              obtain ⟨k, rfl⟩ : ∃ m, k = m + 1 := ⟨k - 1, by omega⟩
              simp only [voussoirref27_Id.j0, Bool.false_eq_true, if_false]
              have z := Id_l0 s hs p (46 :: q) hl p [] rfl k (by omega)
              simp only [List.length_nil, Int.cast_ofNat_Int] at z
              exact z
            by_cases ha : ∀ b ∈ p, alnum b = true
            · exact ⟨1, ⟨_, fun k hk => by rw [← if_pos (c := ∀ b ∈ p, alnum b = true) (t := (1 : Int)) (e := 0) ha]; exact fin k hk⟩, .inl ⟨rfl, hiff.2 ⟨hle, ⟨c, t, hp0, hlow⟩, ha, by omega⟩⟩⟩
            · exact none_ (fun h => ha (hiff.1 h).2.2.1) (fun k hk => by rw [← if_neg (c := ∀ b ∈ p, alnum b = true) (t := (1 : Int)) (e := 0) ha]; exact fin k hk)
      · refine none_ (fun h => hle (hiff.1 h).1) (fun k hk => ?_)
        unfold voussoirref27_Id.f
        have g1 : voussoirref27_first.f k s 46 = _ := h1 k (by omega)
        rw [g1, Option.bind_some]
        rw [if_neg (by omega), if_pos (by omega)]; exact j0t k (by omega) _
  · refine ⟨0, ⟨K1 + 1, fun k hk => ?_⟩, .inr ⟨rfl, fun h => hm (idP_mem h)⟩⟩
    show voussoirref27_Id.f k s = _
    unfold voussoirref27_Id.f
    have g1 : voussoirref27_first.f k s 46 = _ := h1 k (by omega)
    rw [g1, indexByte_not_mem hm, Option.bind_some]
    obtain ⟨k, rfl⟩ : ∃ m, k = m + 1 := ⟨k - 1, by omega⟩
    rw [if_pos (by omega)]; simp [voussoirref27_Id.j0]

theorem Role_l0 (s : ByteArray) (hs : s.size ≤ 140737488351232) : ∀ (rest pre : List UInt8), s.data.toList = pre ++ rest → ∀ k, rest.length < k →
    voussoirref27_Role.l0 k s pre.length = some (if (∀ b ∈ rest, low b = true) ∧ 1 ≤ s.size ∧ s.size ≤ 12 then 1 else 0) := by
  intro rest
  induction rest with
  | nil =>
    intro pre h k hk
    obtain ⟨k, rfl⟩ : ∃ m, k = m + 1 := ⟨k - 1, by simp at hk; omega⟩
    have hsz : s.size = pre.length := by rw [size_list, h]; simp
    simp only [voussoirref27_Role.l0]
    rw [if_neg (by omega)]
    by_cases h1 : (s.size : Int) < 1
    · rw [if_pos h1, if_neg (by rintro ⟨_, h, _⟩; omega)]
    · rw [if_neg h1]
      by_cases h2 : (s.size : Int) > 12
      · rw [if_pos h2, if_neg (by rintro ⟨_, _, h⟩; omega)]
      · rw [if_neg h2, if_pos ⟨by simp, by omega, by omega⟩]
  | cons b rest ih =>
    intro pre h k hk
    obtain ⟨k, rfl⟩ : ∃ m, k = m + 1 := ⟨k - 1, by simp at hk; omega⟩
    obtain ⟨h1, h2, h3⟩ := bt_app h rfl
    simp only [voussoirref27_Role.l0]
    rw [if_pos h2, if_pos h3, h1, small_eq, Option.bind_some]
    by_cases hb : low b = true
    · rw [if_pos hb, w64 (by omega) (by omega)]
      have ih' := ih (pre ++ [b]) (by rw [h]; simp) k (by simp at hk; omega)
      simp only [List.length_append, List.length_cons, List.length_nil, Nat.zero_add, Int.natCast_add, Int.cast_ofNat_Int] at ih'
      rw [ih']
      simp [hb]
    · rw [if_neg hb, if_neg (by rintro ⟨h, _⟩; exact hb (h b (by simp)))]

theorem Role_ev (s : ByteArray) (hs : s.size ≤ 140737488351232) : ∃ r : Int, Ev (fun k => voussoirref27_Role.f k s) r ∧ ((r = 1 ∧ RoleP s.data.toList) ∨ (r = 0 ∧ ¬ RoleP s.data.toList)) := by
  have h := Role_l0 s hs s.data.toList [] rfl
  simp only [List.length_nil, Int.cast_ofNat_Int] at h
  have sz := size_list s
  by_cases hr : (∀ b ∈ s.data.toList, low b = true) ∧ 1 ≤ s.size ∧ s.size ≤ 12
  · rw [if_pos hr] at h
    exact ⟨1, ⟨s.data.toList.length + 1, fun k hk => h k (by omega)⟩, .inl ⟨rfl, ⟨fun e => by rw [e] at sz; simp only [List.length_nil] at sz; omega, by omega, hr.1⟩⟩⟩
  · rw [if_neg hr] at h
    refine ⟨0, ⟨s.data.toList.length + 1, fun k hk => h k (by omega)⟩, .inr ⟨rfl, fun hh => hr ⟨hh.all, ?_, by have := hh.le; omega⟩⟩⟩
    have := hh.ne
    rcases Nat.eq_zero_or_pos s.size with e | e
    · exact absurd (List.length_eq_zero_iff.1 (by omega)) this
    · exact e

end Go.Proofs.YtkceipkedmfeiaaGreatDoor.P27

namespace Go.Proofs.YtkceipkedmfeiaaGreatDoor.P27
open Go.RowKit Go.Lib Go.Proofs.YtkceipkedmfeiaaGreatDoorW.PrintWords Go.Proofs.YtkceipkedmfeiaaGreatDoorW.PrintLast Go.Proofs.YtkceipkedmfeiaaGreatDoor.X30 Go.Proofs.Facename

theorem ref_big (k : Nat) (s : ByteArray) (hs : 200 < s.size) : voussoirref27_Parse.f (k + 1) s = some bad := by
  simp only [voussoirref27_Parse.f]
  rw [if_pos (by omega)]; rfl

theorem ref_head (k : Nat) (s : ByteArray) (h c : Int) (hs : s.size ≤ 200) (h1 : voussoirref27_first.f k s 35 = some h) (h2 : voussoirref27_first.f k s 58 = some c) :
    voussoirref27_Parse.f (k + 1) s = voussoirref27_Parse.j0 k s h c (decide (0 ≤ h ∧ (c < 0 ∨ h < c))) := by
  simp only [voussoirref27_Parse.f]
  rw [if_neg (by omega), h1, Option.bind_some, h2, Option.bind_some]
  by_cases h3 : h ≥ 0
  · rw [if_pos h3]
    by_cases h4 : c < 0
    · rw [if_pos h4, decide_eq_true ⟨h3, .inl h4⟩]
    · rw [if_neg h4]; congr 1; simp only [decide_eq_decide]; constructor
      · exact fun h => ⟨h3, .inr h⟩
      · exact fun h => h.2.resolve_left h4
  · rw [if_neg h3, decide_eq_false (fun h => h3 h.1)]

theorem ref_j1t (k : Nat) (s : ByteArray) (h o : Int) : voussoirref27_Parse.j1 (k + 1) s h o true = some bad := by
  simp only [voussoirref27_Parse.j1]; rw [if_pos trivial]; rfl
theorem ref_j2t (k : Nat) (s : ByteArray) (c : Int) : voussoirref27_Parse.j2 (k + 1) s c true = some bad := by
  simp only [voussoirref27_Parse.j2]; rw [if_pos trivial]; rfl

/-- the branch of a copy, with its three tests known. -/
theorem ref_copy (k : Nat) (s : ByteArray) (h o c d : Int) (i : Int) (hs : s.size ≤ 200) (h0 : 0 ≤ h) (hh : h ≤ s.size) (ho : h < o) (hos : o ≤ (s.size : Int) - 1)
    (h1 : voussoirref27_first.f k s 40 = some o) (h2 : voussoirref27_Id.f k (s.extract 0 h.toNat) = some i) (h3 : voussoirref27_digits.f k (s.extract (h + 1).toNat o.toNat) 2 = some d) :
    voussoirref27_Parse.j0 (k + 1) s h c true = voussoirref27_Parse.j1 k s h o (!(decide (bt s ((s.size : Int) - 1) = 41) && decide (i ≠ 0) && decide (1 ≤ d))) := by
  simp only [voussoirref27_Parse.j0]
  rw [if_pos trivial, h1, Option.bind_some, if_neg (by omega), w64 (i := (s.size : Int) - 1) (by omega) (by omega), if_pos (by omega), if_pos (by omega)]
  by_cases hb : bt s ((s.size : Int) - 1) = 41
  · rw [if_pos hb, if_pos h0, if_pos hh, h2, Option.bind_some, decide_eq_true hb]
    by_cases hi : i = 0
    · rw [if_pos hi, decide_eq_false (fun hx : i ≠ 0 => hx hi)]; rfl
    · rw [if_neg hi, decide_eq_true (p := i ≠ 0) hi, w64 (i := h + 1) (by omega) (by omega), if_pos (by omega), if_pos (by omega), if_pos (by omega), h3, Option.bind_some]
      by_cases hd : 1 ≤ d
      · rw [decide_eq_true hd, decide_eq_false (by omega : ¬ d < 1)]; rfl
      · rw [decide_eq_false hd, decide_eq_true (by omega : d < 1)]; rfl
  · rw [if_neg hb, decide_eq_false hb]; rfl

theorem ref_j1f (k : Nat) (s : ByteArray) (h o d : Int) (r : R5) (hs : s.size ≤ 200) (h0 : 0 ≤ h) (hh : h ≤ s.size) (ho : h < o) (hos : o + 1 ≤ (s.size : Int) - 1)
    (h3 : voussoirref27_digits.f k (s.extract (h + 1).toNat o.toNat) 2 = some d) (h4 : voussoirref27_Parse.f k (s.extract (o + 1).toNat ((s.size : Int) - 1).toNat) = some r) :
    voussoirref27_Parse.j1 (k + 1) s h o false = if r.2.2.2.2 = 0 then some (s.extract 0 h.toNat, (⟨#[]⟩ : ByteArray), d, s.extract (o + 1).toNat ((s.size : Int) - 1).toNat, 0) else some bad := by
  simp only [voussoirref27_Parse.j1]
  rw [if_neg (by exact Bool.false_ne_true), w64 (i := o + 1) (by omega) (by omega), w64 (i := (s.size : Int) - 1) (by omega) (by omega), if_pos (by omega), if_pos (by omega), if_pos (by omega), h4, Option.bind_some]
  by_cases hr : r.2.2.2.2 = 0
  · rw [if_pos hr, if_pos hr, if_pos h0, if_pos hh, w64 (i := h + 1) (by omega) (by omega), if_pos (by omega), if_pos (by omega), if_pos (by omega), h3, Option.bind_some]
  · rw [if_neg hr, if_neg hr]; rfl

/-- an open bracket that lies ahead of the '#', or none. -/
theorem ref_noopen (k : Nat) (s : ByteArray) (h o c : Int) (ho : o < h) (h1 : voussoirref27_first.f (k + 1) s 40 = some o) :
    voussoirref27_Parse.j0 (k + 2) s h c true = some bad := by
  simp only [voussoirref27_Parse.j0]
  rw [if_pos trivial, h1, Option.bind_some, if_pos ho]
  exact ref_j1t k s h o

theorem ref_nocolon (k : Nat) (s : ByteArray) (h c : Int) (hc : c < 0) : voussoirref27_Parse.j0 (k + 2) s h c false = some bad := by
  simp only [voussoirref27_Parse.j0]
  rw [if_neg (by exact Bool.false_ne_true), if_pos hc]
  exact ref_j2t k s c

theorem ref_colon (k : Nat) (s : ByteArray) (h c i : Int) (hc : 0 ≤ c) (hcs : c ≤ s.size) (h2 : voussoirref27_Id.f k (s.extract 0 c.toNat) = some i) : voussoirref27_Parse.j0 (k + 1) s h c false = voussoirref27_Parse.j2 k s c (i == 0) := by
  simp only [voussoirref27_Parse.j0]
  rw [if_neg (by exact Bool.false_ne_true), if_neg (by omega), if_pos hc, if_pos hcs, h2, Option.bind_some]

theorem ref_j2f (k : Nat) (s : ByteArray) (c : Int) (hs : s.size ≤ 200) (hc : 0 ≤ c) (hcs : c + 1 ≤ s.size) : voussoirref27_Parse.j2 (k + 1) s c false = voussoirref27_Parse.l0 k s c (s.extract (c + 1).toNat s.size) 0 := by
  simp only [voussoirref27_Parse.j2]
  rw [if_neg (by exact Bool.false_ne_true), w64 (i := c + 1) (by omega) (by omega), if_pos (by omega), if_pos (by omega)]

theorem ref_l0_step (k : Nat) (s t : ByteArray) (c i : Int) : voussoirref27_Parse.l0 (k + 1) s c t i = if i < (t.size : Int) then (if 0 ≤ i then ((voussoirref27_small.f (bt t i)).bind fun t161 => (if t161 = true then (voussoirref27_Parse.l0 k s c t (wrap64 (i + 1))) else (voussoirref27_Parse.j4 k s c t i))) else (none)) else (voussoirref27_Parse.j4 k s c t i) := by
  simp only [voussoirref27_Parse.l0]

theorem ref_l0 (s t : ByteArray) (c : Int) (hs : t.size ≤ 200) : ∀ (rest pre : List UInt8), t.data.toList = pre ++ rest → ∀ k, ∃ k', k ≤ k' ∧
    voussoirref27_Parse.l0 (k + rest.length + 1) s c t pre.length = voussoirref27_Parse.j4 k' s c t (pre.length + (rest.takeWhile low).length : Nat) := by
  intro rest
  induction rest with
  | nil =>
    intro pre h k
    have hsz : t.size = pre.length := by rw [size_list, h]; simp
    refine ⟨k, Nat.le_refl _, ?_⟩
    simp only [List.length_nil, Nat.add_zero, List.takeWhile_nil]
    rw [ref_l0_step, if_neg (by omega)]
  | cons b rest ih =>
    intro pre h k
    obtain ⟨h1, h2, h3⟩ := bt_app h rfl
    show ∃ k', k ≤ k' ∧ voussoirref27_Parse.l0 ((k + rest.length + 1) + 1) s c t pre.length = _
    rw [ref_l0_step, if_pos h2, if_pos h3, h1, small_eq, Option.bind_some]
    by_cases hb : low b = true
    · obtain ⟨k', hk', e⟩ := ih (pre ++ [b]) (by rw [h]; simp) k
      refine ⟨k', hk', ?_⟩
      rw [if_pos hb, w64 (by omega) (by omega)]
      simp only [List.length_append, List.length_cons, List.length_nil, Nat.zero_add, Int.natCast_add, Int.cast_ofNat_Int] at e
      rw [e, List.takeWhile_cons, if_pos hb]
      congr 1
      simp only [List.length_cons, Int.natCast_add]; omega
    · refine ⟨k + rest.length + 1, by omega, ?_⟩
      rw [if_neg hb, List.takeWhile_cons, if_neg hb]; rfl

theorem ref_j4 (k : Nat) (s t : ByteArray) (c n r d : Int) (hn : 0 ≤ n) (hnt : n ≤ t.size) (hc : 0 ≤ c) (hcs : c ≤ s.size) (h1 : voussoirref27_Role.f k (t.extract 0 n.toNat) = some r) (h2 : voussoirref27_digits.f k (t.extract n.toNat t.size) 3 = some d) :
    voussoirref27_Parse.j4 (k + 1) s c t n = if r ≠ 0 ∧ 0 ≤ d then some (s.extract 0 c.toNat, t.extract 0 n.toNat, d, (⟨#[]⟩ : ByteArray), 0) else some bad := by
  simp only [voussoirref27_Parse.j4]
  rw [if_pos hn, if_pos hnt, h1, Option.bind_some]
  by_cases hr : r = 0
  · rw [if_pos hr, if_neg (fun h => h.1 hr)]; rfl
  · rw [if_neg hr, h2, Option.bind_some]
    by_cases hd : d < 0
    · rw [if_pos hd, if_neg (fun h => by omega)]; rfl
    · rw [if_neg hd, if_pos hc, if_pos hcs, Option.bind_some, if_pos ⟨hr, by omega⟩]

theorem split_low (q : List UInt8) : q = q.takeWhile low ++ q.dropWhile low ∧ (∀ r' n, (∀ b ∈ r', low b = true) → q = r' ++ decDigits n → r' = q.takeWhile low ∧ q.dropWhile low = decDigits n) := by
  refine ⟨List.takeWhile_append_dropWhile.symm, fun r' n hr' hq => ?_⟩
  have nl : ∀ b ∈ decDigits n, low b = false := fun b hb => by
    have := digits_all n b hb
    simp only [digit, low, Bool.and_eq_true, decide_eq_true_eq] at this ⊢
    simp; omega
  have h : (decDigits n).takeWhile low = [] ∧ (decDigits n).dropWhile low = decDigits n := by
    cases hc : decDigits n with
    | nil => simp
    | cons c t => simp [nl c (by rw [hc]; simp)]
  rw [hq, List.takeWhile_append_of_pos hr', List.dropWhile_append_of_pos hr', h.1, h.2, List.append_nil]
  exact ⟨rfl, rfl⟩

theorem bt_last {s : ByteArray} {l : List UInt8} {c : UInt8} (h : s.data.toList = l ++ [c]) : bt s ((s.size : Int) - 1) = c.toNat := by
  have sz := size_list s
  rw [h] at sz
  simp at sz
  exact (bt_app (s := s) (pre := l) (rest := []) (c := c) h (i := (s.size : Int) - 1) (by omega)).1

/-- the reference's Parse. -/
theorem ref_ev : ∀ (N : Nat) (s : ByteArray), s.size ≤ N → ∃ r, Ev (fun k => voussoirref27_Parse.f k s) r ∧ PRes s.data.toList r := by
  intro N
  induction N using Nat.strongRecOn with
  | _ N ih =>
  intro s hN
  have sz := size_list s
  by_cases hb : 200 < s.size
  · exact ⟨bad, ⟨1, fun k hk => by
      obtain ⟨k, rfl⟩ : ∃ m, k = m + 1 := ⟨k - 1, by omega⟩
      exact ref_big k s hb⟩, .inr ⟨not_term_big (by omega), rfl⟩⟩
  have hb : s.size ≤ 200 := by omega
  obtain ⟨K1, h1⟩ := first_ev s 35 (by omega) 35 rfl
  obtain ⟨K2, h2⟩ := first_ev s 58 (by omega) 58 rfl
  obtain ⟨K3, h3⟩ := first_ev s 40 (by omega) 40 rfl
  have head : ∀ k, K1 + K2 + 1 ≤ k → voussoirref27_Parse.f k s = voussoirref27_Parse.j0 (k - 1) s (indexByte s.data.toList 35) (indexByte s.data.toList 58) (decide (0 ≤ indexByte s.data.toList 35 ∧ (indexByte s.data.toList 58 < 0 ∨ indexByte s.data.toList 35 < indexByte s.data.toList 58))) := by
    intro k hk
    obtain ⟨k, rfl⟩ : ∃ m, k = m + 1 := ⟨k - 1, by omega⟩
    exact ref_head k s _ _ hb (h1 k (by omega)) (h2 k (by omega))
  generalize hI : indexByte s.data.toList 35 = h at head h1
  generalize hC : indexByte s.data.toList 58 = c at head h2
  by_cases hbr : 0 ≤ h ∧ (c < 0 ∨ h < c)
  · -- a copy
    rw [decide_eq_true hbr] at head
    have hm : (35 : UInt8) ∈ s.data.toList := by
      by_cases hm : (35 : UInt8) ∈ s.data.toList
      · exact hm
      · rw [indexByte_not_mem hm] at hI; omega
    obtain ⟨p, q, hl, hp⟩ := split_at _ _ hm
    have hh : h = p.length := by rw [← hI, hl, indexByte_mem p q hp]
    rw [hl] at sz
    simp only [List.length_append, List.length_cons] at sz
    have hnoplain : ∀ id role n, ¬ PlainP s.data.toList id role n := fun id role n hP => plain_not_hash hP hm
    generalize hO : indexByte s.data.toList 40 = o at h3
    have hge := indexByte_ge s.data.toList 40
    by_cases hoh : o < h
    · refine ⟨bad, ⟨K1 + K2 + K3 + 3, fun k hk => ?_⟩, .inr ⟨not_term hnoplain (fun id n of hP => ?_), rfl⟩⟩
      · show voussoirref27_Parse.f k s = _
        rw [head k (by omega)]
        obtain ⟨k, rfl⟩ : ∃ m, k = m + 3 := ⟨k - 3, by omega⟩
        exact ref_noopen k s h o c hoh (h3 (k + 1) (by omega))
      · exfalso
        rw [hl] at hP
        obtain ⟨rfl, e⟩ := split_unique hp (hP.id.not_mem (by decide)) hP.eq
        have nd : (40 : UInt8) ∉ decDigits n := fun hm => by have := digits_all n _ hm; revert this; decide
        have ni : (40 : UInt8) ∉ p ++ 35 :: decDigits n := by
          simp only [List.mem_append, List.mem_cons, not_or]
          exact ⟨hP.id.not_mem (by decide), by decide, nd⟩
        have := indexByte_mem (p ++ 35 :: decDigits n) (of ++ [41]) ni
        have e2 : s.data.toList = (p ++ 35 :: decDigits n) ++ 40 :: (of ++ [41]) := by rw [hl, e]; simp
        rw [← e2, hO] at this
        simp at this; omega
    · have hmo : (40 : UInt8) ∈ s.data.toList := by
        by_cases hm : (40 : UInt8) ∈ s.data.toList
        · exact hm
        · rw [indexByte_not_mem hm] at hO; omega
      obtain ⟨p2, v, hl2, hp2⟩ := split_at _ _ hmo
      have hoo : o = p2.length := by rw [← hO, hl2, indexByte_mem p2 v hp2]
      -- p2 = p ++ '#' :: u
      obtain ⟨u, rfl⟩ : ∃ u, p2 = p ++ 35 :: u := by
        have e := hl.symm.trans hl2
        have hlen : p.length ≤ p2.length := by omega
        have e1 : p2.take p.length = p := by
          have := congrArg (List.take p.length) e
          rw [List.take_left, List.take_append_of_le_length hlen] at this
          exact this.symm
        have hne : p.length ≠ p2.length := by
          intro hx
          have e3 := List.append_inj e hx
          have := e3.2
          simp at this
        have e2 := congrArg (List.drop p.length) e
        rw [List.drop_left, List.drop_append_of_le_length hlen] at e2
        cases hd : p2.drop p.length with
        | nil => have := congrArg List.length hd; simp at this; omega
        | cons x xs =>
          rw [hd] at e2
          simp only [List.cons_append, List.cons.injEq] at e2
          refine ⟨xs, ?_⟩
          rw [← List.take_append_drop p.length p2, e1, hd, ← e2.1]
      have hu : (40 : UInt8) ∉ u := fun hm => hp2 (by simp [hm])
      have hl3 : s.data.toList = p ++ 35 :: (u ++ 40 :: v) := by rw [hl2]; simp
      have hq : q = u ++ 40 :: v := by
        have e := hl.symm.trans hl3
        have := List.append_cancel_left e
        simpa using this
      subst hq
      simp only [List.length_append, List.length_cons] at sz hoo
      have hiff := copyP_iff (v := v) hp hu
      have htake : s.extract 0 h.toNat = ⟨p.toArray⟩ := str_mk (by rw [extract_list, hl, hh]; simp)
      have hmid : s.extract (h + 1).toNat o.toNat = ⟨u.toArray⟩ := str_mk (by
        rw [extract_list, hl3, hh, hoo]
        have e1 : ((p.length : Int) + 1).toNat = p.length + 1 := by omega
        have e2 : (((p.length + (u.length + 1) : Nat) : Int)).toNat = (p ++ 35 :: u).length := by simp; omega
        rw [e1, e2]
        have e3 : p ++ 35 :: (u ++ 40 :: v) = (p ++ 35 :: u) ++ 40 :: v := by simp
        rw [e3, List.take_left]
        have e4 : p ++ 35 :: u = (p ++ [35]) ++ u := by simp
        have e5 : p.length + 1 = (p ++ [35]).length := by simp
        rw [e4, e5, List.drop_left])
      obtain ⟨i, ⟨K4, h4⟩, hi⟩ := Id_ev ⟨p.toArray⟩ (by have := size_mk p; omega)
      obtain ⟨K5, h5⟩ := digits_ev ⟨u.toArray⟩ 2 (by omega) (by have := size_mk u; omega) 2 rfl
      have ep : (⟨p.toArray⟩ : ByteArray).data.toList = p := rfl
      have eu : (⟨u.toArray⟩ : ByteArray).data.toList = u := rfl
      rw [ep] at hi
      rw [eu] at h5
      have run : ∀ k, K1 + K2 + K3 + K4 + K5 + 3 ≤ k → voussoirref27_Parse.f k s = voussoirref27_Parse.j1 (k - 2) s h o (!(decide (bt s ((s.size : Int) - 1) = 41) && decide (i ≠ 0) && decide (1 ≤ dig u 2))) := by
        intro k hk
        rw [head k (by omega)]
        obtain ⟨k, rfl⟩ : ∃ m, k = m + 2 := ⟨k - 2, by omega⟩
        refine ref_copy k s h o c (dig u 2) i hb (by omega) (by omega) (by omega) (by omega) (h3 k (by omega)) ?_ ?_
        · rw [htake]; exact h4 k (by omega)
        · rw [hmid]; exact h5 k (by omega)
      have hbt : bt s ((s.size : Int) - 1) = 41 ↔ ∃ of, v = of ++ [41] := by
        rcases List.eq_nil_or_concat v with rfl | ⟨of, x, rfl⟩
        · have := bt_last (s := s) (l := p ++ 35 :: u) (c := 40) (by rw [hl3]; simp)
          rw [this]
          constructor
          · exact fun hx => absurd hx (by decide)
          · rintro ⟨of, hx⟩; simp at hx
        · have := bt_last (s := s) (l := p ++ 35 :: (u ++ 40 :: of)) (c := x) (by rw [hl3]; simp)
          rw [this]
          constructor
          · intro hx
            obtain rfl : x = 41 := toNat_eq (by simpa using hx)
            exact ⟨of, by simp⟩
          · rintro ⟨of', hx⟩
            have := (List.append_inj' (by simpa using hx : of ++ [x] = of' ++ [41]) rfl).2
            simp only [List.cons.injEq, and_true] at this
            rw [this]; rfl
      by_cases hall : bt s ((s.size : Int) - 1) = 41 ∧ i ≠ 0 ∧ 1 ≤ dig u 2
      · obtain ⟨hx1, hx2, hx3⟩ := hall
        obtain ⟨of, rfl⟩ := hbt.1 hx1
        obtain ⟨m, hum, hm1, hm2⟩ := (dig2 u).1 hx3
        have hv : dig u 2 = m := (dig_iff u 1 m (by omega)).2 ⟨by simpa using hm2, by simpa using hum⟩
        have hid : IdP p := by rcases hi with h | h; exact h.2; exact absurd h.1 hx2
        have hCP : CopyP s.data.toList p m of := by rw [hl3]; exact (hiff p m of).2 ⟨rfl, hid, hum, hm1, by omega, rfl⟩
        simp only [List.length_append, List.length_cons, List.length_nil] at sz
        have hof : s.extract (o + 1).toNat ((s.size : Int) - 1).toNat = ⟨of.toArray⟩ := str_mk (by
          rw [extract_list, hl3, hoo]
          have e3 : p ++ 35 :: (u ++ 40 :: (of ++ [41])) = ((p ++ 35 :: (u ++ [40])) ++ of) ++ [41] := by simp
          have e1 : (((p.length + (u.length + 1) : Nat) : Int) + 1).toNat = (p ++ 35 :: (u ++ [40])).length := by simp; omega
          have e2 : ((s.size : Int) - 1).toNat = ((p ++ 35 :: (u ++ [40])) ++ of).length := by simp; omega
          rw [e1, e2, e3, List.take_left, List.drop_left])
        have zo := size_mk of
        obtain ⟨r', ⟨K, hK⟩, hr'⟩ := ih of.length (by omega) ⟨of.toArray⟩ (by omega)
        have eo : (⟨of.toArray⟩ : ByteArray).data.toList = of := rfl
        rw [eo] at hr'
        have run2 : ∀ k, K1 + K2 + K3 + K4 + K5 + K + 4 ≤ k → voussoirref27_Parse.f k s = if r'.2.2.2.2 = 0 then some (⟨p.toArray⟩, (⟨#[]⟩ : ByteArray), (m : Int), ⟨of.toArray⟩, 0) else some bad := by
          intro k hk
          rw [run k (by omega), decide_eq_true hx1, decide_eq_true hx2, decide_eq_true hx3]
          obtain ⟨k, rfl⟩ : ∃ m, k = m + 3 := ⟨k - 3, by omega⟩
          have := ref_j1f k s h o (dig u 2) r' hb (by omega) (by omega) (by omega) (by omega) (by rw [hmid]; exact h5 k (by omega)) (by rw [hof]; exact hK k (by omega))
          rw [htake, hof, hv] at this
          exact this
        rcases hr'.code with ⟨hc, hT⟩ | ⟨hc, hT⟩
        · obtain ⟨a', b', n', c', hP'⟩ := hT
          refine ⟨_, ⟨K1 + K2 + K3 + K4 + K5 + K + 4, fun k hk => by show voussoirref27_Parse.f k s = _; rw [run2 k hk, if_pos hc]⟩, .inl ⟨p, [], m, of, .copy (by rw [← size_list]; omega) hCP hP', rfl⟩⟩
        · refine ⟨bad, ⟨K1 + K2 + K3 + K4 + K5 + K + 4, fun k hk => by show voussoirref27_Parse.f k s = _; rw [run2 k hk, if_neg (by omega)]⟩, .inr ⟨not_term hnoplain (fun id n of' h => ?_), rfl⟩⟩
          obtain ⟨_, _, rfl⟩ := h.unique hCP
          exact hT
      · refine ⟨bad, ⟨K1 + K2 + K3 + K4 + K5 + 4, fun k hk => ?_⟩, .inr ⟨not_term hnoplain (fun id n of hP => ?_), rfl⟩⟩
        · show voussoirref27_Parse.f k s = _
          have e : (decide (bt s ((s.size : Int) - 1) = 41) && decide (i ≠ 0) && decide (1 ≤ dig u 2)) = false := by
            rw [Bool.eq_false_iff]
            simp only [ne_eq, Bool.and_eq_true, decide_eq_true_eq]
            exact fun h => hall ⟨h.1.1, h.1.2, h.2⟩
          rw [run k (by omega), e]
          obtain ⟨k, rfl⟩ : ∃ m, k = m + 3 := ⟨k - 3, by omega⟩
          exact ref_j1t k s h o
        · exfalso
          rw [hl3] at hP
          have := (hiff _ _ _).1 hP
          refine hall ⟨hbt.2 ⟨of, this.2.2.2.2.2⟩, ?_, (dig2 u).2 ⟨n, this.2.2.1, this.2.2.2.1, by omega⟩⟩
          rcases hi with h | h
          · omega
          · exact absurd this.2.1 h.2
  · -- a plain term
    rw [decide_eq_false hbr] at head
    have hnocopy : ∀ id n of, ¬ CopyP s.data.toList id n of := by
      intro id n of hP
      have e := hP.eq
      have n1 := hP.id.not_mem (c := 35) (by decide)
      have n2 := hP.id.not_mem (c := 58) (by decide)
      have i1 := indexByte_mem id (decDigits n ++ 40 :: (of ++ [41])) n1
      rw [← e, hI] at i1
      have hlt : c < 0 ∨ h < c := by
        by_cases hm : (58 : UInt8) ∈ s.data.toList
        · right
          obtain ⟨p, q, hl, hp⟩ := split_at _ _ hm
          have i2 := indexByte_mem p q hp
          rw [← hl, hC] at i2
          rw [i1, i2]
          have e2 := e.symm.trans hl
          have : id.length < p.length := by
            rcases Nat.lt_or_ge id.length p.length with h | h
            · exact h
            · exfalso
              rcases Nat.lt_or_eq_of_le h with h | h
              · apply n2
                have := congrArg (fun l => l[p.length]?) e2
                simp only [List.getElem?_append_right (Nat.le_refl _), Nat.sub_self, List.getElem?_cons_zero] at this
                rw [List.getElem?_append_left h] at this
                exact List.mem_of_getElem? this
              · have := (List.append_inj e2 h.symm).2
                simp at this
          omega
        · left
          rw [indexByte_not_mem hm] at hC; omega
      exact hbr ⟨by omega, hlt⟩
    by_cases hm : (58 : UInt8) ∈ s.data.toList
    · obtain ⟨p, q, hl, hp⟩ := split_at _ _ hm
      have hcp : c = p.length := by rw [← hC, hl, indexByte_mem p q hp]
      rw [hl] at sz
      simp only [List.length_append, List.length_cons] at sz
      have htake : s.extract 0 c.toNat = ⟨p.toArray⟩ := str_mk (by rw [extract_list, hl, hcp]; simp)
      have hrest : s.extract (c + 1).toNat s.size = ⟨q.toArray⟩ := str_mk (by
        have e1 : (c + 1).toNat = p.length + 1 := by omega
        rw [e1, extract_to_end, hl]; simp)
      obtain ⟨i, ⟨K4, h4⟩, hi⟩ := Id_ev ⟨p.toArray⟩ (by have := size_mk p; omega)
      have ep : (⟨p.toArray⟩ : ByteArray).data.toList = p := rfl
      rw [ep] at hi
      obtain ⟨hq, hu⟩ := split_low q
      obtain ⟨r, hr⟩ : ∃ r, r = q.takeWhile low := ⟨_, rfl⟩
      obtain ⟨d, hd⟩ : ∃ d, d = q.dropWhile low := ⟨_, rfl⟩
      rw [← hr, ← hd] at hq hu
      have hiff := plainP_iff hp hq hu
      have zq := size_mk q
      have htl : r.length ≤ q.length := by rw [hq]; simp
      have hx1 : (⟨q.toArray⟩ : ByteArray).extract 0 r.length = ⟨r.toArray⟩ := str_mk (by
        rw [extract_list]
        show List.drop 0 (List.take _ q) = _
        rw [List.drop_zero]
        rw [hq, List.take_left])
      have hx2 : (⟨q.toArray⟩ : ByteArray).extract r.length (⟨q.toArray⟩ : ByteArray).size = ⟨d.toArray⟩ := str_mk (by
        rw [extract_to_end]
        show List.drop _ q = _
        rw [hq, List.drop_left])
      have hdl : d.length ≤ q.length := by rw [hq]; simp
      obtain ⟨rr, ⟨K6, h6⟩, hrr⟩ := Role_ev ⟨r.toArray⟩ (by have := size_mk r; omega)
      obtain ⟨K7, h7⟩ := digits_ev ⟨d.toArray⟩ 3 (by omega) (by have := size_mk d; omega) 3 rfl
      have er : (⟨r.toArray⟩ : ByteArray).data.toList = r := rfl
      have ed : (⟨d.toArray⟩ : ByteArray).data.toList = d := rfl
      rw [er] at hrr
      rw [ed] at h7
      by_cases hi0 : i = 0
      · refine ⟨bad, ⟨K1 + K2 + K4 + 4, fun k hk => ?_⟩, .inr ⟨not_term (fun id role n hP => ?_) (fun id n of h => (hnocopy _ _ _ h).elim), rfl⟩⟩
        · show voussoirref27_Parse.f k s = _
          rw [head k (by omega)]
          obtain ⟨k, rfl⟩ : ∃ m, k = m + 3 := ⟨k - 3, by omega⟩
          have := ref_colon (k + 1) s h c i (by omega) (by omega) (by rw [htake]; exact h4 (k + 1) (by omega))
          show voussoirref27_Parse.j0 (k + 1 + 1) s h c false = _
          rw [this, hi0]
          exact ref_j2t k s c
        · rw [hl] at hP
          have := (hiff _ _ _).1 hP
          rcases hi with h | h
          · omega
          · exact h.2 this.2.2.1
      · have run : ∀ k, K1 + K2 + K4 + K6 + K7 + q.length + 6 ≤ k → voussoirref27_Parse.f k s = if rr ≠ 0 ∧ 0 ≤ dig d 3 then some (⟨p.toArray⟩, ⟨r.toArray⟩, dig d 3, (⟨#[]⟩ : ByteArray), 0) else some bad := by
          intro k hk
          rw [head k (by omega)]
          obtain ⟨k, rfl⟩ : ∃ m, k = m + q.length + 1 + 3 := ⟨k - q.length - 4, by omega⟩
          have := ref_colon (k + q.length + 1 + 1) s h c i (by omega) (by omega) (by rw [htake]; exact h4 _ (by omega))
          show voussoirref27_Parse.j0 (k + q.length + 1 + 1 + 1) s h c false = _
          rw [this, beq_eq_false_iff_ne.2 hi0, ref_j2f _ s c hb (by omega) (by omega), hrest]
          obtain ⟨k', hk', e⟩ := ref_l0 s ⟨q.toArray⟩ c (by omega) q [] rfl k
          simp only [List.length_nil, Nat.zero_add, Int.cast_ofNat_Int] at e
          rw [e, ← hr]
          obtain ⟨k', rfl⟩ : ∃ m, k' = m + 1 := ⟨k' - 1, by omega⟩
          have := ref_j4 k' s ⟨q.toArray⟩ c (r.length : Nat) rr (dig d 3) (by omega) (by omega) (by omega) (by omega) (by
            rw [Int.toNat_natCast, hx1]; exact h6 _ (by omega)) (by rw [Int.toNat_natCast, hx2]; exact h7 _ (by omega))
          rw [Int.toNat_natCast, hx1, htake] at this
          exact this
        have hid : IdP p := by rcases hi with h | h; exact h.2; exact absurd h.1 hi0
        by_cases hall : rr ≠ 0 ∧ 0 ≤ dig d 3
        · obtain ⟨m, hdm, hm1⟩ := num0_of_digits.1 hall.2
          have hv : dig d 3 = m := (dig_iff _ 2 m (by omega)).2 ⟨by simpa using hm1, by simpa using hdm⟩
          have hrole : RoleP r := by rcases hrr with h | h; exact h.2; exact absurd h.1 hall.1
          refine ⟨_, ⟨K1 + K2 + K4 + K6 + K7 + q.length + 6, fun k hk => by show voussoirref27_Parse.f k s = _; rw [run k hk, if_pos hall, hv]⟩, .inl ⟨p, r, m, [], .plain (by rw [← size_list]; omega) ?_, rfl⟩⟩
          rw [hl]
          exact (hiff _ _ _).2 ⟨rfl, rfl, hid, hrole, hdm, by omega⟩
        · refine ⟨bad, ⟨K1 + K2 + K4 + K6 + K7 + q.length + 6, fun k hk => by show voussoirref27_Parse.f k s = _; rw [run k hk, if_neg hall]⟩, .inr ⟨not_term (fun id role n hP => ?_) (fun id n of h => (hnocopy _ _ _ h).elim), rfl⟩⟩
          rw [hl] at hP
          have := (hiff _ _ _).1 hP
          refine hall ⟨?_, num0_of_digits.2 ⟨n, this.2.2.2.2.1, by omega⟩⟩
          rcases hrr with h | h
          · omega
          · exact absurd this.2.2.2.1 h.2
    · have hc0 : c < 0 := by rw [indexByte_not_mem hm] at hC; omega
      refine ⟨bad, ⟨K1 + K2 + 4, fun k hk => ?_⟩, .inr ⟨not_term (fun id role n hP => hm (by rw [hP.eq]; simp)) (fun id n of h => (hnocopy _ _ _ h).elim), rfl⟩⟩
      show voussoirref27_Parse.f k s = _
      rw [head k (by omega)]
      obtain ⟨k, rfl⟩ : ∃ m, k = m + 3 := ⟨k - 3, by omega⟩
      exact ref_nocolon k s h c hc0

end Go.Proofs.YtkceipkedmfeiaaGreatDoor.P27
