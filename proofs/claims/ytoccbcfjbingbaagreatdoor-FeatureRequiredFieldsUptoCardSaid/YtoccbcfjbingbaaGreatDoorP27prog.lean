/- The reference's functions of chapter 27, as the printer writes them: what each comes to, over lists of bytes. -/
import Derived.Test.YtoccbcfjbingbaaGreatDoorPlain
import Derived.Test.YtoccbcfjbingbaaGreatDoorX30x0
import Derived.Test.YtoccbcfjbingbaaGreatDoorX30x4
namespace Go.Proofs.YtoccbcfjbingbaaGreatDoor.P27
open Go.RowKit Go.Lib Go.Proofs.YtoccbcfjbingbaaGreatDoorW.PrintWords Go.Proofs.YtoccbcfjbingbaaGreatDoorW.PrintLast Go.Proofs.YtoccbcfjbingbaaGreatDoor.X30 Go.Proofs.Facename

/-! ### bytes of strings -/

theorem size_list (s : ByteArray) : s.size = s.data.toList.length := by simp only [Array.length_toList]; rfl
theorem bt_app {s : ByteArray} {pre rest : List UInt8} {c : UInt8} (h : s.data.toList = pre ++ c :: rest) {i : Int} (hi : i = pre.length) : bt s i = c.toNat ∧ i < s.size ∧ 0 ≤ i := by
  subst hi
  have hsz : s.size = pre.length + rest.length + 1 := by rw [size_list, h]; simp; omega
  refine ⟨?_, by omega, by omega⟩
  unfold bt
  have e : ((pre.length : Int)).toNat = pre.length := by omega
  rw [dif_pos (by omega)]
  have g : s.data.toList[pre.length]? = some c := by rw [h]; simp
  have g2 : s.data.toList[pre.length]? = some s[pre.length] := data_getElem? s pre.length (by omega)
  rw [g2] at g
  have := Option.some.inj g
  simp only [e]
  exact congrArg (fun b : UInt8 => (b.toNat : Int)) this
theorem w64 {i : Int} (h0 : -9223372036854775808 ≤ i) (h : i ≤ 9223372036854775807) : wrap64 i = i := by unfold wrap64; omega
theorem extract_list (s : ByteArray) (a b : Nat) : (s.extract a b).data.toList = (s.data.toList.take b).drop a := by
  simp [ByteArray.data_extract, Array.toList_extract, List.extract, List.drop_take]
theorem toNat_eq {a b : UInt8} (h : (a.toNat : Int) = b.toNat) : a = b := UInt8.toNat_inj.1 (by omega)
theorem str_ext {s t : ByteArray} (h : s.data.toList = t.data.toList) : s = t := by
  cases s; cases t; simp only [ByteArray.mk.injEq]; exact Array.toList_inj.1 h
theorem str_mk {s : ByteArray} {l : List UInt8} (h : s.data.toList = l) : s = ⟨l.toArray⟩ := str_ext (by rw [h])

theorem indexByte_cons (b : UInt8) (l : List UInt8) (c : UInt8) : indexByte (b :: l) c = if b == c then 0 else if indexByte l c == -1 then -1 else indexByte l c + 1 := rfl

/-! ### digits -/

/-! ### dec -/
/-! ### small, Id, Role -/
theorem dig_pos (q : List UInt8) (k : Nat) : 1 ≤ dig q (k + 1) ↔ ∃ n : Nat, q = decDigits n ∧ 1 ≤ n ∧ n < 10 ^ (k + 1) := by
  constructor
  · intro h
    have := (dig_iff q k (dig q (k + 1)) (by omega)).1 rfl
    exact ⟨(dig q (k + 1)).toNat, this.2, by omega, this.1⟩
  · rintro ⟨n, hq, h1, h2⟩
    have := (dig_iff q k n (by omega)).2 ⟨by simpa using h2, by simpa using hq⟩
    omega

theorem dig_nonneg (q : List UInt8) (k : Nat) : 0 ≤ dig q (k + 1) ↔ ∃ n : Nat, q = decDigits n ∧ n < 10 ^ (k + 1) := by
  constructor
  · intro h
    have := (dig_iff q k (dig q (k + 1)) h).1 rfl
    exact ⟨(dig q (k + 1)).toNat, this.2, this.1⟩
  · rintro ⟨n, hq, h2⟩
    have := (dig_iff q k n (by omega)).2 ⟨by simpa using h2, by simpa using hq⟩
    omega

theorem alnum_not46 {b : UInt8} (h : alnum b = true) : b ≠ 46 := by
  rintro rfl; revert h; decide

theorem idP_iff {p q : List UInt8} (hp : (46 : UInt8) ∉ p) : IdP (p ++ 46 :: q) ↔ p.length ≤ 24 ∧ (∃ c t, p = c :: t ∧ low c = true) ∧ (∀ b ∈ p, alnum b = true) ∧ 1 ≤ dig q 9 := by
  constructor
  · rintro ⟨p', n, e, h1, h2, h3, h4, h5⟩
    have hp' : (46 : UInt8) ∉ p' := fun hm => alnum_not46 (h3 _ hm) rfl
    obtain ⟨rfl, rfl⟩ := split_unique hp hp' e
    exact ⟨h1, h2, h3, (dig_pos _ 8).2 ⟨n, rfl, h4, by omega⟩⟩
  · rintro ⟨h1, h2, h3, h4⟩
    obtain ⟨n, rfl, h5, h6⟩ := (dig_pos _ 8).1 h4
    exact ⟨p, n, rfl, h1, h2, h3, h5, by omega⟩

theorem idP_mem {l : List UInt8} (h : IdP l) : (46 : UInt8) ∈ l := by
  obtain ⟨p, n, rfl, _⟩ := h.out
  simp

end Go.Proofs.YtoccbcfjbingbaaGreatDoor.P27
namespace Go.Proofs.YtoccbcfjbingbaaGreatDoor.P27
open Go.RowKit Go.Lib Go.Proofs.YtoccbcfjbingbaaGreatDoorW.PrintWords Go.Proofs.YtoccbcfjbingbaaGreatDoorW.PrintLast Go.Proofs.YtoccbcfjbingbaaGreatDoor.X30 Go.Proofs.Facename

theorem toList_mk (l : List UInt8) : (⟨l.toArray⟩ : ByteArray).toList = l := by simp [ByteArray.toList_eq]
theorem toList_data (s : ByteArray) : s.toList = s.data.toList := by simp [ByteArray.toList_eq]
theorem size_mk (l : List UInt8) : (⟨l.toArray⟩ : ByteArray).size = l.length := by rw [size_list]

theorem lower_eq (c : UInt8) : facename_lower.f c.toNat = some (low c) := by
  unfold facename_lower.f low
  by_cases h : 97 ≤ c.toNat
  · rw [if_pos (by omega)]; simp [h]; omega
  · rw [if_neg (by omega)]; simp [h]

theorem number_eq (s : ByteArray) (hs : s.size ≤ 140737488351232) (k : Nat) (a b : Int) (ha : 0 ≤ a) (hb : b < 9223372036854775808) (hk : b = (10 : Int) ^ (k + 1) - 1) :
    facename_number.f s a b = some (if a ≤ dig s.data.toList (k + 1) then (dig s.data.toList (k + 1), true) else (0, false)) := by
  unfold facename_number.f
  rw [if_pos (by omega), num_dig _ k a b ha hb hk]
  by_cases h : a ≤ dig s.data.toList (k + 1)
  · rw [if_pos h, if_pos h]
  · rw [if_neg h, if_neg h]

theorem cut_no (s : ByteArray) (hs : s.size ≤ 4294967280) (c : UInt8) (h : c ∉ s.data.toList) : strings_Cut.f s ⟨#[c]⟩ = some (s, ⟨#[]⟩, false) := by
  unfold strings_Cut.f
  rw [if_pos (by omega), cut_not_mem h]
theorem cut_yes (s : ByteArray) (hs : s.size ≤ 4294967280) (c : UInt8) (p q : List UInt8) (hl : s.data.toList = p ++ c :: q) (h : c ∉ p) : strings_Cut.f s ⟨#[c]⟩ = some (⟨p.toArray⟩, ⟨q.toArray⟩, true) := by
  unfold strings_Cut.f
  rw [if_pos (by omega), hl, cut_mem p q h]

theorem trim26 (s : ByteArray) (hs : s.size ≤ 140737488351232) : ∃ t, strings_Trim.f s ⟨#[97, 98, 99, 100, 101, 102, 103, 104, 105, 106, 107, 108, 109, 110, 111, 112, 113, 114, 115, 116, 117, 118, 119, 120, 121, 122]⟩ = some t ∧ (t.toList = ([] : List UInt8) ↔ ∀ b ∈ s.data.toList, low b = true) := by
  refine ⟨_, by unfold strings_Trim.f; rw [if_pos ⟨by omega, by decide, by decide⟩], ?_⟩
  rw [toList_mk, trimS_nil]
  exact ⟨fun h b hb => by rw [← cs26_low]; exact h b hb, fun h b hb => by have := h b hb; rw [← cs26_low] at this; exact this⟩
theorem trim36 (s : ByteArray) (hs : s.size ≤ 140737488351232) : ∃ t, strings_Trim.f s ⟨#[97, 98, 99, 100, 101, 102, 103, 104, 105, 106, 107, 108, 109, 110, 111, 112, 113, 114, 115, 116, 117, 118, 119, 120, 121, 122, 48, 49, 50, 51, 52, 53, 54, 55, 56, 57]⟩ = some t ∧ (t.toList = ([] : List UInt8) ↔ ∀ b ∈ s.data.toList, alnum b = true) := by
  refine ⟨_, by unfold strings_Trim.f; rw [if_pos ⟨by omega, by decide, by decide⟩], ?_⟩
  rw [toList_mk, trimS_nil]
  exact ⟨fun h b hb => by rw [← cs36_alnum]; exact h b hb, fun h b hb => by have := h b hb; rw [← cs36_alnum] at this; exact this⟩

theorem isId_j0 (k : Nat) (a b : ByteArray) : facename_isId.j0 (k + 1) a b true = some false := by
  simp [facename_isId.j0]

theorem isId_eq (s : ByteArray) (hs : s.size ≤ 4294967280) : ∃ r : Bool, (∀ k, facename_isId.f (k + 1) s = some r) ∧ (r = true ↔ IdP s.data.toList) := by
  have sz := size_list s
  by_cases hm : (46 : UInt8) ∈ s.data.toList
  · obtain ⟨p, q, hl, hp⟩ := split_at _ _ hm
    have hc := cut_yes s hs 46 p q hl hp
    have hiff := idP_iff (q := q) hp
    rw [hl] at sz ⊢
    simp only [List.length_append, List.length_cons] at sz
    cases p with
    | nil =>
      refine ⟨false, fun k => ?_, by simp only [Bool.false_eq_true, false_iff]; intro h; obtain ⟨_, ⟨c, t, e, _⟩, _⟩ := hiff.1 h; cases e⟩
      unfold facename_isId.f
      rw [hc, Option.bind_some]
      show (if true = true then _ else _) = _
      rw [if_pos rfl, if_pos (by exact toList_mk [])]
      exact isId_j0 _ _ _
    | cons c t =>
      have hb : bt (⟨(c :: t).toArray⟩ : ByteArray) 0 = c.toNat := (bt_app (s := ⟨(c :: t).toArray⟩) (pre := []) (c := c) (rest := t) rfl (i := 0) rfl).1
      have zp := size_mk (c :: t)
      have zq := size_mk q
      by_cases hle : (c :: t).length ≤ 24
      · obtain ⟨tr, ht, htr⟩ := trim36 ⟨(c :: t).toArray⟩ (by rw [zp]; simp at hle ⊢; omega)
        have hn := number_eq ⟨q.toArray⟩ (by rw [zq]; omega) 8 1 999999999 (by omega) (by omega) (by rfl)
        have run : ∀ k, facename_isId.f (k + 1) s = facename_isId.j0 (k + 1) ⟨(c :: t).toArray⟩ ⟨q.toArray⟩ (!low c) := by
          intro k
          unfold facename_isId.f
          rw [hc, Option.bind_some]
          show (if true = true then _ else _) = _
          rw [if_pos rfl, if_neg (by rw [toList_mk]; simp), if_neg (by rw [zp]; omega), if_pos (by rw [zp]; simp), hb, lower_eq, Option.bind_some]
        have body : facename_isId.j0 1 ⟨(c :: t).toArray⟩ ⟨q.toArray⟩ (!low c) = facename_isId.j0 1 ⟨(c :: t).toArray⟩ ⟨q.toArray⟩ (!low c) := rfl
        cases hlow : low c with
        | false =>
          refine ⟨false, fun k => by rw [run, hlow]; exact isId_j0 _ _ _, ?_⟩
          simp only [Bool.false_eq_true, false_iff]
          intro h
          obtain ⟨_, ⟨c', t', e, h1⟩, _⟩ := hiff.1 h
          injection e with e1 _; subst e1; rw [hlow] at h1; cases h1
        | true =>
          by_cases ha : tr.toList = []
          · refine ⟨decide (1 ≤ dig q 9), fun k => ?_, ?_⟩
            · rw [run, hlow]
              simp only [facename_isId.j0]
              rw [if_neg (by decide), ht, Option.bind_some, if_pos ha, hn, Option.bind_some]
              by_cases h1 : 1 ≤ dig q 9
              · rw [if_pos h1, decide_eq_true h1]
              · rw [if_neg h1, decide_eq_false h1]
            · rw [decide_eq_true_iff, hiff]
              exact ⟨fun h => ⟨hle, ⟨c, t, rfl, hlow⟩, htr.1 ha, h⟩, fun h => h.2.2.2⟩
          · refine ⟨false, fun k => ?_, ?_⟩
            · rw [run, hlow]
              simp only [facename_isId.j0]
              rw [if_neg (by decide), ht, Option.bind_some, if_neg ha]
            · simp only [Bool.false_eq_true, false_iff]
              exact fun h => ha (htr.2 (hiff.1 h).2.2.1)
      · refine ⟨false, fun k => ?_, by simp only [Bool.false_eq_true, false_iff]; exact fun h => hle (hiff.1 h).1⟩
        unfold facename_isId.f
        rw [hc, Option.bind_some]
        show (if true = true then _ else _) = _
        rw [if_pos rfl, if_neg (by rw [toList_mk]; simp), if_pos (by rw [zp]; omega)]
        exact isId_j0 _ _ _
  · refine ⟨false, fun k => ?_, by simp only [Bool.false_eq_true, false_iff]; exact fun h => hm (idP_mem h)⟩
    unfold facename_isId.f
    rw [cut_no s hs 46 hm, Option.bind_some]
    show (if false = true then _ else _) = _
    rw [if_neg (by decide)]
    exact isId_j0 _ _ _

theorem isRole_eq (s : ByteArray) (hs : s.size ≤ 140737488351232) : ∃ r : Bool, facename_isRole.f s = some r ∧ (r = true ↔ RoleP s.data.toList) := by
  have sz := size_list s
  unfold facename_isRole.f
  rw [toList_data]
  by_cases h0 : s.data.toList = []
  · refine ⟨false, by rw [if_pos h0], ?_⟩
    simp only [Bool.false_eq_true, false_iff]
    exact fun h => h.ne h0
  · rw [if_neg h0]
    by_cases h1 : (s.size : Int) ≤ 12
    · obtain ⟨tr, ht, htr⟩ := trim26 s hs
      refine ⟨tr.toList == [], by rw [if_pos h1, ht, Option.bind_some], ?_⟩
      rw [beq_iff_eq, htr]
      exact ⟨fun h => ⟨h0, by omega, h⟩, fun h => h.all⟩
    · refine ⟨false, by rw [if_neg h1], ?_⟩
      simp only [Bool.false_eq_true, false_iff]
      exact fun h => h1 (by have := h.le; omega)

/-! ### plain -/

theorem digits_trim (q : List UInt8) : ∃ r d, q = r ++ d ∧ trimRightS q [48, 49, 50, 51, 52, 53, 54, 55, 56, 57] = r ∧ (∀ r' n, (∀ b ∈ r', low b = true) → q = r' ++ decDigits n → r' = r ∧ d = decDigits n) := by
  have hf : (fun b => ([48, 49, 50, 51, 52, 53, 54, 55, 56, 57] : List UInt8).contains b) = digit := by funext b; exact cs10_digit b
  have e : trimRightS q [48, 49, 50, 51, 52, 53, 54, 55, 56, 57] = (q.reverse.dropWhile digit).reverse := by
    unfold trimRightS
    rw [show (fun x => ([48, 49, 50, 51, 52, 53, 54, 55, 56, 57] : List UInt8).contains x) = digit from hf]
  refine ⟨(q.reverse.dropWhile digit).reverse, (q.reverse.takeWhile digit).reverse, ?_, e, ?_⟩
  · rw [← List.reverse_append, List.takeWhile_append_dropWhile, List.reverse_reverse]
  · intro r' n hr' hq
    have hrev : q.reverse = (decDigits n).reverse ++ r'.reverse := by rw [hq, List.reverse_append]
    have hd : ∀ b ∈ (decDigits n).reverse, digit b = true := fun b hb => digits_all n b (List.mem_reverse.1 hb)
    have hnr : r'.reverse.dropWhile digit = r'.reverse ∧ r'.reverse.takeWhile digit = [] := by
      cases hc : r'.reverse with
      | nil => simp
      | cons c t =>
        have hlow := hr' c (List.mem_reverse.1 (by rw [hc]; simp))
        have hnd : digit c = false := by
          simp only [digit, low, Bool.and_eq_true, decide_eq_true_eq, Bool.and_eq_false_iff, decide_eq_false_iff_not] at hlow ⊢
          omega
        simp [hnd]
    have h1 : q.reverse.dropWhile digit = r'.reverse := by
      rw [hrev, List.dropWhile_append_of_pos hd]; exact hnr.1
    have h2 : q.reverse.takeWhile digit = (decDigits n).reverse := by
      rw [hrev, List.takeWhile_append_of_pos hd, hnr.2, List.append_nil]
    rw [h1, h2, List.reverse_reverse, List.reverse_reverse]
    exact ⟨rfl, rfl⟩

theorem num0_of_digits {d : List UInt8} : 0 ≤ dig d 3 ↔ ∃ n : Nat, d = decDigits n ∧ n < 1000 := dig_nonneg d 2

theorem plainP_iff {p q r d : List UInt8} (hp : (58 : UInt8) ∉ p) (hq : q = r ++ d) (hu : ∀ r' n, (∀ b ∈ r', low b = true) → q = r' ++ decDigits n → r' = r ∧ d = decDigits n) (id role : List UInt8) (n : Nat) :
    PlainP (p ++ 58 :: q) id role n ↔ id = p ∧ role = r ∧ IdP p ∧ RoleP r ∧ d = decDigits n ∧ n ≤ 999 := by
  constructor
  · intro h
    obtain ⟨rfl, e⟩ := split_unique hp (h.id.not_mem (by decide)) h.eq
    obtain ⟨rfl, e2⟩ := hu role n h.role.all e
    exact ⟨rfl, rfl, h.id, h.role, e2, h.le⟩
  · rintro ⟨rfl, rfl, h1, h2, rfl, h3⟩
    exact ⟨by rw [hq], h1, h2, h3⟩

theorem plain_eq (s : ByteArray) (hs : s.size ≤ 4294967280) :
    ∃ (a b : ByteArray) (n : Int) (ok : Bool), (∀ k, facename_plain.f (k + 1) s = some (a, b, n, ok)) ∧
      (ok = true → ∃ m : Nat, n = m ∧ PlainP s.data.toList a.data.toList b.data.toList m) ∧ (ok = false → ∀ id role m, ¬ PlainP s.data.toList id role m) := by
  have sz := size_list s
  have hT : ∀ (x : ByteArray), x.size ≤ 4294967280 → strings_TrimRight.f x ⟨#[48, 49, 50, 51, 52, 53, 54, 55, 56, 57]⟩ = some ⟨(trimRightS x.data.toList [48, 49, 50, 51, 52, 53, 54, 55, 56, 57]).toArray⟩ := fun x hx => by
    unfold strings_TrimRight.f
    rw [if_pos ⟨by omega, by decide, by decide⟩]
  by_cases hm : (58 : UInt8) ∈ s.data.toList
  · obtain ⟨p, q, hl, hp⟩ := split_at _ _ hm
    have hc := cut_yes s hs 58 p q hl hp
    obtain ⟨r, d, hq, htr, hu⟩ := digits_trim q
    have hiff := plainP_iff hp hq hu
    rw [hl] at sz ⊢
    simp only [List.length_append, List.length_cons] at sz
    have zp := size_mk p
    have zq := size_mk q
    have zr := size_mk r
    have hrq : r.length ≤ q.length := by rw [hq]; simp
    have hT' := hT ⟨q.toArray⟩ (by omega)
    have eq0 : (⟨q.toArray⟩ : ByteArray).data.toList = q := rfl
    rw [eq0, htr] at hT'
    have hd' : ((⟨q.toArray⟩ : ByteArray).extract r.length q.length).data.toList = d := by
      have h := extract_to_end (⟨q.toArray⟩ : ByteArray) r.length
      rw [zq] at h
      rw [h]; simp [hq]
    have zd := size_list ((⟨q.toArray⟩ : ByteArray).extract r.length q.length)
    rw [hd'] at zd
    have hdl : d.length ≤ q.length := by rw [hq]; simp
    have hn := number_eq ((⟨q.toArray⟩ : ByteArray).extract r.length q.length) (by omega) 2 0 999 (by omega) (by omega) (by rfl)
    rw [hd'] at hn
    obtain ⟨ri, hri, hid⟩ := isId_eq ⟨p.toArray⟩ (by omega)
    obtain ⟨rr, hrr, hrole⟩ := isRole_eq ⟨r.toArray⟩ (by omega)
    have run : ∀ k (res : Int × Bool), facename_number.f ((⟨q.toArray⟩ : ByteArray).extract r.length q.length) 0 999 = some res → facename_plain.f (k + 1) s =
        (if res.2 = true then (if ri = true then some (⟨p.toArray⟩, ⟨r.toArray⟩, res.1, rr) else some (⟨p.toArray⟩, ⟨r.toArray⟩, res.1, false)) else some (⟨p.toArray⟩, ⟨r.toArray⟩, res.1, false)) := by
      intro k res hres
      unfold facename_plain.f
      rw [hc, Option.bind_some]
      simp only []
      rw [hT', Option.bind_some, if_pos (by omega), if_pos (by omega)]
      have e1 : (((⟨r.toArray⟩ : ByteArray).size : Int)).toNat = r.length := by omega
      rw [e1, zq, hres, Option.bind_some, if_pos trivial]
      by_cases h2 : res.2 = true
      · rw [if_pos h2, if_pos h2, hri, Option.bind_some]
        by_cases h3 : ri = true
        · rw [if_pos h3, if_pos h3, hrr, Option.bind_some]
        · rw [if_neg h3, if_neg h3]
      · rw [if_neg h2, if_neg h2]
    have eqp : (⟨p.toArray⟩ : ByteArray).data.toList = p := rfl
    have eqr : (⟨r.toArray⟩ : ByteArray).data.toList = r := rfl
    rw [eqp] at hid
    rw [eqr] at hrole
    by_cases h0 : 0 ≤ dig d 3
    · rw [if_pos h0] at hn
      obtain ⟨m, hdm, hm1⟩ := num0_of_digits.1 h0
      have hv : dig d 3 = m := (dig_iff d 2 m (by omega)).2 ⟨by simpa using hm1, by simpa using hdm⟩
      refine ⟨⟨p.toArray⟩, ⟨r.toArray⟩, dig d 3, ri && rr, fun k => ?_, ?_, ?_⟩
      · rw [run k _ hn, if_pos rfl]
        cases ri
        · rw [if_neg (by decide)]; rfl
        · rw [if_pos rfl]; rfl
      · intro h
        simp only [Bool.and_eq_true] at h
        exact ⟨m, hv, (hiff _ _ _).2 ⟨rfl, rfl, hid.1 h.1, hrole.1 h.2, hdm, by omega⟩⟩
      · intro h id role m' hP
        have := (hiff _ _ _).1 hP
        rw [hid.2 this.2.2.1, hrole.2 this.2.2.2.1] at h
        cases h
    · rw [if_neg h0] at hn
      refine ⟨⟨p.toArray⟩, ⟨r.toArray⟩, 0, false, fun k => ?_, fun h => (by cases h), ?_⟩
      · rw [run k _ hn, if_neg (by decide)]
      · intro _ id role m' hP
        have := (hiff _ _ _).1 hP
        exact h0 (num0_of_digits.2 ⟨m', this.2.2.2.2.1, by omega⟩)
  · have hc := cut_no s hs 58 hm
    have hT' := hT ⟨#[]⟩ (by decide)
    have hn := number_eq ((⟨#[]⟩ : ByteArray).extract 0 0) (by decide) 2 0 999 (by omega) (by omega) (by rfl)
    refine ⟨s, ⟨#[]⟩, 0, false, fun k => ?_, fun h => (by cases h), fun _ id role m hP => hm (by rw [hP.eq]; simp)⟩
    unfold facename_plain.f
    rw [hc, Option.bind_some]
    simp only []
    have e0 : trimRightS (⟨#[]⟩ : ByteArray).data.toList [48, 49, 50, 51, 52, 53, 54, 55, 56, 57] = [] := rfl
    rw [hT', e0, Option.bind_some, if_pos (by omega), if_pos (by omega)]
    have e1 : (((⟨([] : List UInt8).toArray⟩ : ByteArray).size : Int)).toNat = 0 := rfl
    have e2 : (⟨#[]⟩ : ByteArray).size = 0 := rfl
    rw [e1, e2, hn]
    have e3 : dig ((⟨#[]⟩ : ByteArray).extract 0 0).data.toList 3 = -1 := rfl
    rw [e3, if_neg (by omega), Option.bind_some, if_neg (by decide)]

end Go.Proofs.YtoccbcfjbingbaaGreatDoor.P27
namespace Go.Proofs.YtoccbcfjbingbaaGreatDoor.P27
open Go Go.RowKit Go.Lib Go.Proofs.YtoccbcfjbingbaaGreatDoorW.PrintWords Go.Proofs.YtoccbcfjbingbaaGreatDoorW.PrintLast Go.Proofs.YtoccbcfjbingbaaGreatDoor.X30 Go.Proofs.Facename

open Classical in
noncomputable def newR (id role : List UInt8) (i : Int) : ByteArray × Int :=
  if IdP id ∧ RoleP role then (if 0 ≤ i ∧ i ≤ 999 then (⟨(id ++ 58 :: (role ++ decDigits i.toNat)).toArray⟩, 0) else (⟨#[]⟩, 2)) else (⟨#[]⟩, 7)
theorem itoa_eq (n : Int) (h0 : 0 ≤ n) (h1 : n ≤ 999) : strconv_Itoa.f n = some ⟨(decDigits n.toNat).toArray⟩ := by
  unfold strconv_Itoa.f itoa
  rw [if_pos (by omega), if_neg (by omega)]
theorem decLen (n : Int) (h1 : n ≤ 999) : (decDigits n.toNat).length ≤ 3 := by
  rw [decDigits_length]; exact nDigits_le 2 _ (by omega)
theorem cat_new (a0 a1 d : ByteArray) : ((a0 ++ (⟨#[58]⟩ : ByteArray)) ++ a1) ++ d = ⟨(a0.data.toList ++ 58 :: (a1.data.toList ++ d.data.toList)).toArray⟩ := by
  apply str_ext; simp
theorem sz_app (a b : ByteArray) : (a ++ b).size = a.size + b.size := ByteArray.size_append
theorem sz1 (c : UInt8) : (⟨#[c]⟩ : ByteArray).size = 1 := rfl

theorem new_ev (a0 a1 : ByteArray) (i : Int) (h0 : a0.size ≤ 100000) (h1 : a1.size ≤ 100000) : Ev (fun k => facename_New.f k a0 a1 i) (newR a0.data.toList a1.data.toList i) := by
  obtain ⟨r0, e0, p0⟩ := isId_eq a0 (by omega)
  obtain ⟨r1, e1, p1⟩ := isRole_eq a1 (by omega)
  refine ⟨2, fun k hk => ?_⟩
  obtain ⟨k, rfl⟩ : ∃ m, k = m + 2 := ⟨k - 2, by omega⟩
  have j0t : facename_New.j0 (k + 2) a0 a1 i true = some ((⟨#[]⟩ : ByteArray), 7) := by
    simp only [facename_New.j0]; rw [if_pos trivial]
  show facename_New.f (k + 1 + 1) a0 a1 i = _
  unfold facename_New.f newR
  rw [e0 (k + 1), Option.bind_some]
  by_cases hr0 : r0 = true
  · rw [if_pos hr0, e1, Option.bind_some]
    by_cases hr1 : r1 = true
    · rw [if_pos ⟨p0.1 hr0, p1.1 hr1⟩, hr1]
      show facename_New.j0 (k + 1 + 1) a0 a1 i false = _
      simp only [facename_New.j0]
      rw [if_neg (by exact Bool.false_ne_true)]
      by_cases hi : 0 ≤ i ∧ i ≤ 999
      · have hd := decLen i hi.2
        have z1 := sz_app a0 ⟨#[58]⟩
        have z2 := sz_app (a0 ++ (⟨#[58]⟩ : ByteArray)) a1
        have z3 := size_mk (decDigits i.toNat)
        rw [sz1] at z1
        rw [if_pos hi, if_neg (by omega), if_neg (by omega), if_pos (by omega), if_pos (by omega), itoa_eq i hi.1 hi.2, Option.bind_some, if_pos (by omega), cat_new]
      · rw [if_neg hi]
        by_cases h : i < 0
        · rw [if_pos h]
        · rw [if_neg h, if_pos (by omega)]
    · rw [if_neg (fun h => hr1 (p1.2 h.2))]
      cases r1
      · exact j0t
      · exact absurd rfl hr1
  · rw [if_neg hr0, if_neg (fun h => hr0 (p0.2 h.1))]
    exact j0t

/-! ### the example of the chapter -/
theorem id_of (p : List UInt8) (n : Nat) (h1 : p.length ≤ 24) (h2 : ∃ c t, p = c :: t ∧ low c = true) (h3 : p.all alnum = true) (hn : 1 ≤ n) (hn2 : n < 10) : IdP (p ++ [46, UInt8.ofNat (48 + n)]) :=
  ⟨p, n, by rw [decDigits, dif_pos hn2], h1, h2, List.all_eq_true.1 h3, hn, by omega⟩
theorem idAnn : IdP [97, 110, 110, 46, 51] := id_of [97, 110, 110] 3 (by decide) ⟨97, [110, 110], rfl, by decide⟩ (by decide) (by decide) (by decide)
theorem idBob : IdP [98, 111, 98, 46, 55] := id_of [98, 111, 98] 7 (by decide) ⟨98, [111, 98], rfl, by decide⟩ (by decide) (by decide) (by decide)
theorem roleSide : RoleP [115, 105, 100, 101] := ⟨by decide, by decide, List.all_eq_true.1 (by decide)⟩
/-! ### the laws -/
end Go.Proofs.YtoccbcfjbingbaaGreatDoor.P27
