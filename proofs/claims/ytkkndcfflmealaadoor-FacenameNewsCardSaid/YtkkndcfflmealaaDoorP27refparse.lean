/- Parse of the reference of chapter 27 answers by the same grammar of terms. -/
import Derived.Test.YtkkndcfflmealaaDoorP27parse
namespace Go.Proofs.YtkkndcfflmealaaDoor.P27
open Go.RowKit Go.Lib Go.Proofs.YtkkndcfflmealaaDoorW.PrintWords Go.Proofs.YtkkndcfflmealaaDoorW.PrintLast Go.Proofs.YtkkndcfflmealaaDoor.X27 Go.Proofs.Facename

theorem ref_big (k : Nat) (s : ByteArray) (hs : 200 < s.size) : voussoirref27_Parse.f (k + 1) s = some bad := by
  simp only [voussoirref27_Parse.f]
  rw [if_pos (by omega)]; rfl

theorem ref_head (k : Nat) (s : ByteArray) (h c : Int) (hs : s.size ≤ 200) (h1 : voussoirref27_first.f k s 35 = some h) (h2 : voussoirref27_first.f k s 58 = some c) :
    voussoirref27_Parse.f (k + 1) s = voussoirref27_Parse.j0 k s h c (decide (0 ≤ h ∧ (c < 0 ∨ h < c))) := by
  simp only [voussoirref27_Parse.f]
  rw [if_neg (by omega), h1, Option.bind_some, h2, Option.bind_some]
  by_cases h3 : h ≥ 0
  · rw [if_pos h3]
    by_cases h4 : c < 0
    · rw [if_pos h4, decide_eq_true ⟨h3, .inl h4⟩]
    · rw [if_neg h4]; congr 1; simp only [decide_eq_decide]; constructor
      · exact fun h => ⟨h3, .inr h⟩
      · exact fun h => h.2.resolve_left h4
  · rw [if_neg h3, decide_eq_false (fun h => h3 h.1)]

theorem ref_j1t (k : Nat) (s : ByteArray) (h o : Int) : voussoirref27_Parse.j1 (k + 1) s h o true = some bad := by
  simp only [voussoirref27_Parse.j1]; rw [if_pos trivial]; rfl
theorem ref_j2t (k : Nat) (s : ByteArray) (c : Int) : voussoirref27_Parse.j2 (k + 1) s c true = some bad := by
  simp only [voussoirref27_Parse.j2]; rw [if_pos trivial]; rfl

/-- the branch of a copy, with its three tests known. -/
theorem ref_copy (k : Nat) (s : ByteArray) (h o c d : Int) (i : Int) (hs : s.size ≤ 200) (h0 : 0 ≤ h) (hh : h ≤ s.size) (ho : h < o) (hos : o ≤ (s.size : Int) - 1)
    (h1 : voussoirref27_first.f k s 40 = some o) (h2 : voussoirref27_Id.f k (s.extract 0 h.toNat) = some i) (h3 : voussoirref27_digits.f k (s.extract (h + 1).toNat o.toNat) 2 = some d) :
    voussoirref27_Parse.j0 (k + 1) s h c true = voussoirref27_Parse.j1 k s h o (!(decide (bt s ((s.size : Int) - 1) = 41) && decide (i ≠ 0) && decide (1 ≤ d))) := by
  simp only [voussoirref27_Parse.j0]
  rw [if_pos trivial, h1, Option.bind_some, if_neg (by omega), w64 (i := (s.size : Int) - 1) (by omega) (by omega), if_pos (by omega), if_pos (by omega)]
  by_cases hb : bt s ((s.size : Int) - 1) = 41
  · rw [if_pos hb, if_pos h0, if_pos hh, h2, Option.bind_some, decide_eq_true hb]
    by_cases hi : i = 0
    · rw [if_pos hi, decide_eq_false (fun hx : i ≠ 0 => hx hi)]; rfl
    · rw [if_neg hi, decide_eq_true (p := i ≠ 0) hi, w64 (i := h + 1) (by omega) (by omega), if_pos (by omega), if_pos (by omega), if_pos (by omega), h3, Option.bind_some]
      by_cases hd : 1 ≤ d
      · rw [decide_eq_true hd, decide_eq_false (by omega : ¬ d < 1)]; rfl
      · rw [decide_eq_false hd, decide_eq_true (by omega : d < 1)]; rfl
  · rw [if_neg hb, decide_eq_false hb]; rfl

theorem ref_j1f (k : Nat) (s : ByteArray) (h o d : Int) (r : R5) (hs : s.size ≤ 200) (h0 : 0 ≤ h) (hh : h ≤ s.size) (ho : h < o) (hos : o + 1 ≤ (s.size : Int) - 1)
    (h3 : voussoirref27_digits.f k (s.extract (h + 1).toNat o.toNat) 2 = some d) (h4 : voussoirref27_Parse.f k (s.extract (o + 1).toNat ((s.size : Int) - 1).toNat) = some r) :
    voussoirref27_Parse.j1 (k + 1) s h o false = if r.2.2.2.2 = 0 then some (s.extract 0 h.toNat, (⟨#[]⟩ : ByteArray), d, s.extract (o + 1).toNat ((s.size : Int) - 1).toNat, 0) else some bad := by
  simp only [voussoirref27_Parse.j1]
  rw [if_neg (by exact Bool.false_ne_true), w64 (i := o + 1) (by omega) (by omega), w64 (i := (s.size : Int) - 1) (by omega) (by omega), if_pos (by omega), if_pos (by omega), if_pos (by omega), h4, Option.bind_some]
  by_cases hr : r.2.2.2.2 = 0
  · rw [if_pos hr, if_pos hr, if_pos h0, if_pos hh, w64 (i := h + 1) (by omega) (by omega), if_pos (by omega), if_pos (by omega), if_pos (by omega), h3, Option.bind_some]
  · rw [if_neg hr, if_neg hr]; rfl

/-- an open bracket that lies ahead of the '#', or none. -/
theorem ref_noopen (k : Nat) (s : ByteArray) (h o c : Int) (ho : o < h) (h1 : voussoirref27_first.f (k + 1) s 40 = some o) :
    voussoirref27_Parse.j0 (k + 2) s h c true = some bad := by
  simp only [voussoirref27_Parse.j0]
  rw [if_pos trivial, h1, Option.bind_some, if_pos ho]
  exact ref_j1t k s h o

theorem ref_nocolon (k : Nat) (s : ByteArray) (h c : Int) (hc : c < 0) : voussoirref27_Parse.j0 (k + 2) s h c false = some bad := by
  simp only [voussoirref27_Parse.j0]
  rw [if_neg (by exact Bool.false_ne_true), if_pos hc]
  exact ref_j2t k s c

theorem ref_colon (k : Nat) (s : ByteArray) (h c i : Int) (hc : 0 ≤ c) (hcs : c ≤ s.size) (h2 : voussoirref27_Id.f k (s.extract 0 c.toNat) = some i) : voussoirref27_Parse.j0 (k + 1) s h c false = voussoirref27_Parse.j2 k s c (i == 0) := by
  simp only [voussoirref27_Parse.j0]
  rw [if_neg (by exact Bool.false_ne_true), if_neg (by omega), if_pos hc, if_pos hcs, h2, Option.bind_some]

theorem ref_j2f (k : Nat) (s : ByteArray) (c : Int) (hs : s.size ≤ 200) (hc : 0 ≤ c) (hcs : c + 1 ≤ s.size) : voussoirref27_Parse.j2 (k + 1) s c false = voussoirref27_Parse.l0 k s c (s.extract (c + 1).toNat s.size) 0 := by
  simp only [voussoirref27_Parse.j2]
  rw [if_neg (by exact Bool.false_ne_true), w64 (i := c + 1) (by omega) (by omega), if_pos (by omega), if_pos (by omega)]

theorem ref_l0_step (k : Nat) (s t : ByteArray) (c i : Int) : voussoirref27_Parse.l0 (k + 1) s c t i = if i < (t.size : Int) then (if 0 ≤ i then ((voussoirref27_small.f (bt t i)).bind fun t161 => (if t161 = true then (voussoirref27_Parse.l0 k s c t (wrap64 (i + 1))) else (voussoirref27_Parse.j4 k s c t i))) else (none)) else (voussoirref27_Parse.j4 k s c t i) := by
  simp only [voussoirref27_Parse.l0]

theorem ref_l0 (s t : ByteArray) (c : Int) (hs : t.size ≤ 200) : ∀ (rest pre : List UInt8), t.data.toList = pre ++ rest → ∀ k, ∃ k', k ≤ k' ∧
    voussoirref27_Parse.l0 (k + rest.length + 1) s c t pre.length = voussoirref27_Parse.j4 k' s c t (pre.length + (rest.takeWhile low).length : Nat) := by
  intro rest
  induction rest with
  | nil =>
    intro pre h k
    have hsz : t.size = pre.length := by rw [size_list, h]; simp
    refine ⟨k, Nat.le_refl _, ?_⟩
    simp only [List.length_nil, Nat.add_zero, List.takeWhile_nil]
    rw [ref_l0_step, if_neg (by omega)]
  | cons b rest ih =>
    intro pre h k
    obtain ⟨h1, h2, h3⟩ := bt_app h rfl
    show ∃ k', k ≤ k' ∧ voussoirref27_Parse.l0 ((k + rest.length + 1) + 1) s c t pre.length = _
    rw [ref_l0_step, if_pos h2, if_pos h3, h1, small_eq, Option.bind_some]
    by_cases hb : low b = true
    · obtain ⟨k', hk', e⟩ := ih (pre ++ [b]) (by rw [h]; simp) k
      refine ⟨k', hk', ?_⟩
      rw [if_pos hb, w64 (by omega) (by omega)]
      simp only [List.length_append, List.length_cons, List.length_nil, Nat.zero_add, Int.natCast_add, Int.cast_ofNat_Int] at e
      rw [e, List.takeWhile_cons, if_pos hb]
      congr 1
      simp only [List.length_cons, Int.natCast_add]; omega
    · refine ⟨k + rest.length + 1, by omega, ?_⟩
      rw [if_neg hb, List.takeWhile_cons, if_neg hb]; rfl

theorem ref_j4 (k : Nat) (s t : ByteArray) (c n r d : Int) (hn : 0 ≤ n) (hnt : n ≤ t.size) (hc : 0 ≤ c) (hcs : c ≤ s.size) (h1 : voussoirref27_Role.f k (t.extract 0 n.toNat) = some r) (h2 : voussoirref27_digits.f k (t.extract n.toNat t.size) 3 = some d) :
    voussoirref27_Parse.j4 (k + 1) s c t n = if r ≠ 0 ∧ 0 ≤ d then some (s.extract 0 c.toNat, t.extract 0 n.toNat, d, (⟨#[]⟩ : ByteArray), 0) else some bad := by
  simp only [voussoirref27_Parse.j4]
  rw [if_pos hn, if_pos hnt, h1, Option.bind_some]
  by_cases hr : r = 0
  · rw [if_pos hr, if_neg (fun h => h.1 hr)]; rfl
  · rw [if_neg hr, h2, Option.bind_some]
    by_cases hd : d < 0
    · rw [if_pos hd, if_neg (fun h => by omega)]; rfl
    · rw [if_neg hd, if_pos hc, if_pos hcs, Option.bind_some, if_pos ⟨hr, by omega⟩]

theorem split_low (q : List UInt8) : q = q.takeWhile low ++ q.dropWhile low ∧ (∀ r' n, (∀ b ∈ r', low b = true) → q = r' ++ decDigits n → r' = q.takeWhile low ∧ q.dropWhile low = decDigits n) := by
  refine ⟨List.takeWhile_append_dropWhile.symm, fun r' n hr' hq => ?_⟩
  have nl : ∀ b ∈ decDigits n, low b = false := fun b hb => by
    have := digits_all n b hb
    simp only [digit, low, Bool.and_eq_true, decide_eq_true_eq] at this ⊢
    simp; omega
  have h : (decDigits n).takeWhile low = [] ∧ (decDigits n).dropWhile low = decDigits n := by
    cases hc : decDigits n with
    | nil => simp
    | cons c t => simp [nl c (by rw [hc]; simp)]
  rw [hq, List.takeWhile_append_of_pos hr', List.dropWhile_append_of_pos hr', h.1, h.2, List.append_nil]
  exact ⟨rfl, rfl⟩

theorem bt_last {s : ByteArray} {l : List UInt8} {c : UInt8} (h : s.data.toList = l ++ [c]) : bt s ((s.size : Int) - 1) = c.toNat := by
  have sz := size_list s
  rw [h] at sz
  simp at sz
  exact (bt_app (s := s) (pre := l) (rest := []) (c := c) h (i := (s.size : Int) - 1) (by omega)).1

/-- the reference's Parse. -/
theorem ref_ev : ∀ (N : Nat) (s : ByteArray), s.size ≤ N → ∃ r, Ev (fun k => voussoirref27_Parse.f k s) r ∧ PRes s.data.toList r := by
  intro N
  induction N using Nat.strongRecOn with
  | _ N ih =>
  intro s hN
  have sz := size_list s
  by_cases hb : 200 < s.size
  · exact ⟨bad, ⟨1, fun k hk => by
      obtain ⟨k, rfl⟩ : ∃ m, k = m + 1 := ⟨k - 1, by omega⟩
      exact ref_big k s hb⟩, .inr ⟨not_term_big (by omega), rfl⟩⟩
  have hb : s.size ≤ 200 := by omega
  obtain ⟨K1, h1⟩ := first_ev s 35 (by omega) 35 rfl
  obtain ⟨K2, h2⟩ := first_ev s 58 (by omega) 58 rfl
  obtain ⟨K3, h3⟩ := first_ev s 40 (by omega) 40 rfl
  have head : ∀ k, K1 + K2 + 1 ≤ k → voussoirref27_Parse.f k s = voussoirref27_Parse.j0 (k - 1) s (indexByte s.data.toList 35) (indexByte s.data.toList 58) (decide (0 ≤ indexByte s.data.toList 35 ∧ (indexByte s.data.toList 58 < 0 ∨ indexByte s.data.toList 35 < indexByte s.data.toList 58))) := by
    intro k hk
    obtain ⟨k, rfl⟩ : ∃ m, k = m + 1 := ⟨k - 1, by omega⟩
    exact ref_head k s _ _ hb (h1 k (by omega)) (h2 k (by omega))
  generalize hI : indexByte s.data.toList 35 = h at head h1
  generalize hC : indexByte s.data.toList 58 = c at head h2
  by_cases hbr : 0 ≤ h ∧ (c < 0 ∨ h < c)
  · -- a copy
    rw [decide_eq_true hbr] at head
    have hm : (35 : UInt8) ∈ s.data.toList := by
      by_cases hm : (35 : UInt8) ∈ s.data.toList
      · exact hm
      · rw [indexByte_not_mem hm] at hI; omega
    obtain ⟨p, q, hl, hp⟩ := split_at _ _ hm
    have hh : h = p.length := by rw [← hI, hl, indexByte_mem p q hp]
    rw [hl] at sz
    simp only [List.length_append, List.length_cons] at sz
    have hnoplain : ∀ id role n, ¬ PlainP s.data.toList id role n := fun id role n hP => plain_not_hash hP hm
    generalize hO : indexByte s.data.toList 40 = o at h3
    have hge := indexByte_ge s.data.toList 40
    by_cases hoh : o < h
    · refine ⟨bad, ⟨K1 + K2 + K3 + 3, fun k hk => ?_⟩, .inr ⟨not_term hnoplain (fun id n of hP => ?_), rfl⟩⟩
      · show voussoirref27_Parse.f k s = _
        rw [head k (by omega)]
        obtain ⟨k, rfl⟩ : ∃ m, k = m + 3 := ⟨k - 3, by omega⟩
        exact ref_noopen k s h o c hoh (h3 (k + 1) (by omega))
      · exfalso
        rw [hl] at hP
        obtain ⟨rfl, e⟩ := split_unique hp (hP.id.not_mem (by decide)) hP.eq
        have nd : (40 : UInt8) ∉ decDigits n := fun hm => by have := digits_all n _ hm; revert this; decide
        have ni : (40 : UInt8) ∉ p ++ 35 :: decDigits n := by
          simp only [List.mem_append, List.mem_cons, not_or]
          exact ⟨hP.id.not_mem (by decide), by decide, nd⟩
        have := indexByte_mem (p ++ 35 :: decDigits n) (of ++ [41]) ni
        have e2 : s.data.toList = (p ++ 35 :: decDigits n) ++ 40 :: (of ++ [41]) := by rw [hl, e]; simp
        rw [← e2, hO] at this
        simp at this; omega
    · have hmo : (40 : UInt8) ∈ s.data.toList := by
        by_cases hm : (40 : UInt8) ∈ s.data.toList
        · exact hm
        · rw [indexByte_not_mem hm] at hO; omega
      obtain ⟨p2, v, hl2, hp2⟩ := split_at _ _ hmo
      have hoo : o = p2.length := by rw [← hO, hl2, indexByte_mem p2 v hp2]
      -- p2 = p ++ '#' :: u
      obtain ⟨u, rfl⟩ : ∃ u, p2 = p ++ 35 :: u := by
        have e := hl.symm.trans hl2
        have hlen : p.length ≤ p2.length := by omega
        have e1 : p2.take p.length = p := by
          have := congrArg (List.take p.length) e
          rw [List.take_left, List.take_append_of_le_length hlen] at this
          exact this.symm
        have hne : p.length ≠ p2.length := by
          intro hx
          have e3 := List.append_inj e hx
          have := e3.2
          simp at this
        have e2 := congrArg (List.drop p.length) e
        rw [List.drop_left, List.drop_append_of_le_length hlen] at e2
        cases hd : p2.drop p.length with
        | nil => have := congrArg List.length hd; simp at this; omega
        | cons x xs =>
          rw [hd] at e2
          simp only [List.cons_append, List.cons.injEq] at e2
          refine ⟨xs, ?_⟩
          rw [← List.take_append_drop p.length p2, e1, hd, ← e2.1]
      have hu : (40 : UInt8) ∉ u := fun hm => hp2 (by simp [hm])
      have hl3 : s.data.toList = p ++ 35 :: (u ++ 40 :: v) := by rw [hl2]; simp
      have hq : q = u ++ 40 :: v := by
        have e := hl.symm.trans hl3
        have := List.append_cancel_left e
        simpa using this
      subst hq
      simp only [List.length_append, List.length_cons] at sz hoo
      have hiff := copyP_iff (v := v) hp hu
      have htake : s.extract 0 h.toNat = ⟨p.toArray⟩ := str_mk (by rw [extract_list, hl, hh]; simp)
      have hmid : s.extract (h + 1).toNat o.toNat = ⟨u.toArray⟩ := str_mk (by
        rw [extract_list, hl3, hh, hoo]
        have e1 : ((p.length : Int) + 1).toNat = p.length + 1 := by omega
        have e2 : (((p.length + (u.length + 1) : Nat) : Int)).toNat = (p ++ 35 :: u).length := by simp; omega
        rw [e1, e2]
        have e3 : p ++ 35 :: (u ++ 40 :: v) = (p ++ 35 :: u) ++ 40 :: v := by simp
        rw [e3, List.take_left]
        have e4 : p ++ 35 :: u = (p ++ [35]) ++ u := by simp
        have e5 : p.length + 1 = (p ++ [35]).length := by simp
        rw [e4, e5, List.drop_left])
      obtain ⟨i, ⟨K4, h4⟩, hi⟩ := Id_ev ⟨p.toArray⟩ (by have := size_mk p; omega)
      obtain ⟨K5, h5⟩ := digits_ev ⟨u.toArray⟩ 2 (by omega) (by have := size_mk u; omega) 2 rfl
      have ep : (⟨p.toArray⟩ : ByteArray).data.toList = p := rfl
      have eu : (⟨u.toArray⟩ : ByteArray).data.toList = u := rfl
      rw [ep] at hi
      rw [eu] at h5
      have run : ∀ k, K1 + K2 + K3 + K4 + K5 + 3 ≤ k → voussoirref27_Parse.f k s = voussoirref27_Parse.j1 (k - 2) s h o (!(decide (bt s ((s.size : Int) - 1) = 41) && decide (i ≠ 0) && decide (1 ≤ dig u 2))) := by
        intro k hk
        rw [head k (by omega)]
        obtain ⟨k, rfl⟩ : ∃ m, k = m + 2 := ⟨k - 2, by omega⟩
        refine ref_copy k s h o c (dig u 2) i hb (by omega) (by omega) (by omega) (by omega) (h3 k (by omega)) ?_ ?_
        · rw [htake]; exact h4 k (by omega)
        · rw [hmid]; exact h5 k (by omega)
      have hbt : bt s ((s.size : Int) - 1) = 41 ↔ ∃ of, v = of ++ [41] := by
        rcases List.eq_nil_or_concat v with rfl | ⟨of, x, rfl⟩
        · have := bt_last (s := s) (l := p ++ 35 :: u) (c := 40) (by rw [hl3]; simp)
          rw [this]
          constructor
          · exact fun hx => absurd hx (by decide)
          · rintro ⟨of, hx⟩; simp at hx
        · have := bt_last (s := s) (l := p ++ 35 :: (u ++ 40 :: of)) (c := x) (by rw [hl3]; simp)
          rw [this]
          constructor
          · intro hx
            obtain rfl : x = 41 := toNat_eq (by simpa using hx)
            exact ⟨of, by simp⟩
          · rintro ⟨of', hx⟩
            have := (List.append_inj' (by simpa using hx : of ++ [x] = of' ++ [41]) rfl).2
            simp only [List.cons.injEq, and_true] at this
            rw [this]; rfl
      by_cases hall : bt s ((s.size : Int) - 1) = 41 ∧ i ≠ 0 ∧ 1 ≤ dig u 2
      · obtain ⟨hx1, hx2, hx3⟩ := hall
        obtain ⟨of, rfl⟩ := hbt.1 hx1
        obtain ⟨m, hum, hm1, hm2⟩ := (dig2 u).1 hx3
        have hv : dig u 2 = m := (dig_iff u 1 m (by omega)).2 ⟨by simpa using hm2, by simpa using hum⟩
        have hid : IdP p := by rcases hi with h | h; exact h.2; exact absurd h.1 hx2
        have hCP : CopyP s.data.toList p m of := by rw [hl3]; exact (hiff p m of).2 ⟨rfl, hid, hum, hm1, by omega, rfl⟩
        simp only [List.length_append, List.length_cons, List.length_nil] at sz
        have hof : s.extract (o + 1).toNat ((s.size : Int) - 1).toNat = ⟨of.toArray⟩ := str_mk (by
          rw [extract_list, hl3, hoo]
          have e3 : p ++ 35 :: (u ++ 40 :: (of ++ [41])) = ((p ++ 35 :: (u ++ [40])) ++ of) ++ [41] := by simp
          have e1 : (((p.length + (u.length + 1) : Nat) : Int) + 1).toNat = (p ++ 35 :: (u ++ [40])).length := by simp; omega
          have e2 : ((s.size : Int) - 1).toNat = ((p ++ 35 :: (u ++ [40])) ++ of).length := by simp; omega
          rw [e1, e2, e3, List.take_left, List.drop_left])
        have zo := size_mk of
        obtain ⟨r', ⟨K, hK⟩, hr'⟩ := ih of.length (by omega) ⟨of.toArray⟩ (by omega)
        have eo : (⟨of.toArray⟩ : ByteArray).data.toList = of := rfl
        rw [eo] at hr'
        have run2 : ∀ k, K1 + K2 + K3 + K4 + K5 + K + 4 ≤ k → voussoirref27_Parse.f k s = if r'.2.2.2.2 = 0 then some (⟨p.toArray⟩, (⟨#[]⟩ : ByteArray), (m : Int), ⟨of.toArray⟩, 0) else some bad := by
          intro k hk
          rw [run k (by omega), decide_eq_true hx1, decide_eq_true hx2, decide_eq_true hx3]
          obtain ⟨k, rfl⟩ : ∃ m, k = m + 3 := ⟨k - 3, by omega⟩
          have := ref_j1f k s h o (dig u 2) r' hb (by omega) (by omega) (by omega) (by omega) (by rw [hmid]; exact h5 k (by omega)) (by rw [hof]; exact hK k (by omega))
          rw [htake, hof, hv] at this
          exact this
        rcases hr'.code with ⟨hc, hT⟩ | ⟨hc, hT⟩
        · obtain ⟨a', b', n', c', hP'⟩ := hT
          refine ⟨_, ⟨K1 + K2 + K3 + K4 + K5 + K + 4, fun k hk => by show voussoirref27_Parse.f k s = _; rw [run2 k hk, if_pos hc]⟩, .inl ⟨p, [], m, of, .copy (by rw [← size_list]; omega) hCP hP', rfl⟩⟩
        · refine ⟨bad, ⟨K1 + K2 + K3 + K4 + K5 + K + 4, fun k hk => by show voussoirref27_Parse.f k s = _; rw [run2 k hk, if_neg (by omega)]⟩, .inr ⟨not_term hnoplain (fun id n of' h => ?_), rfl⟩⟩
          obtain ⟨_, _, rfl⟩ := h.unique hCP
          exact hT
      · refine ⟨bad, ⟨K1 + K2 + K3 + K4 + K5 + 4, fun k hk => ?_⟩, .inr ⟨not_term hnoplain (fun id n of hP => ?_), rfl⟩⟩
        · show voussoirref27_Parse.f k s = _
          have e : (decide (bt s ((s.size : Int) - 1) = 41) && decide (i ≠ 0) && decide (1 ≤ dig u 2)) = false := by
            rw [Bool.eq_false_iff]
            simp only [ne_eq, Bool.and_eq_true, decide_eq_true_eq]
            exact fun h => hall ⟨h.1.1, h.1.2, h.2⟩
          rw [run k (by omega), e]
          obtain ⟨k, rfl⟩ : ∃ m, k = m + 3 := ⟨k - 3, by omega⟩
          exact ref_j1t k s h o
        · exfalso
          rw [hl3] at hP
          have := (hiff _ _ _).1 hP
          refine hall ⟨hbt.2 ⟨of, this.2.2.2.2.2⟩, ?_, (dig2 u).2 ⟨n, this.2.2.1, this.2.2.2.1, by omega⟩⟩
          rcases hi with h | h
          · omega
          · exact absurd this.2.1 h.2
  · -- a plain term
    rw [decide_eq_false hbr] at head
    have hnocopy : ∀ id n of, ¬ CopyP s.data.toList id n of := by
      intro id n of hP
      have e := hP.eq
      have n1 := hP.id.not_mem (c := 35) (by decide)
      have n2 := hP.id.not_mem (c := 58) (by decide)
      have i1 := indexByte_mem id (decDigits n ++ 40 :: (of ++ [41])) n1
      rw [← e, hI] at i1
      have hlt : c < 0 ∨ h < c := by
        by_cases hm : (58 : UInt8) ∈ s.data.toList
        · right
          obtain ⟨p, q, hl, hp⟩ := split_at _ _ hm
          have i2 := indexByte_mem p q hp
          rw [← hl, hC] at i2
          rw [i1, i2]
          have e2 := e.symm.trans hl
          have : id.length < p.length := by
            rcases Nat.lt_or_ge id.length p.length with h | h
            · exact h
            · exfalso
              rcases Nat.lt_or_eq_of_le h with h | h
              · apply n2
                have := congrArg (fun l => l[p.length]?) e2
                simp only [List.getElem?_append_right (Nat.le_refl _), Nat.sub_self, List.getElem?_cons_zero] at this
                rw [List.getElem?_append_left h] at this
                exact List.mem_of_getElem? this
              · have := (List.append_inj e2 h.symm).2
                simp at this
          omega
        · left
          rw [indexByte_not_mem hm] at hC; omega
      exact hbr ⟨by omega, hlt⟩
    by_cases hm : (58 : UInt8) ∈ s.data.toList
    · obtain ⟨p, q, hl, hp⟩ := split_at _ _ hm
      have hcp : c = p.length := by rw [← hC, hl, indexByte_mem p q hp]
      rw [hl] at sz
      simp only [List.length_append, List.length_cons] at sz
      have htake : s.extract 0 c.toNat = ⟨p.toArray⟩ := str_mk (by rw [extract_list, hl, hcp]; simp)
      have hrest : s.extract (c + 1).toNat s.size = ⟨q.toArray⟩ := str_mk (by
        have e1 : (c + 1).toNat = p.length + 1 := by omega
        rw [e1, extract_to_end, hl]; simp)
      obtain ⟨i, ⟨K4, h4⟩, hi⟩ := Id_ev ⟨p.toArray⟩ (by have := size_mk p; omega)
      have ep : (⟨p.toArray⟩ : ByteArray).data.toList = p := rfl
      rw [ep] at hi
      obtain ⟨hq, hu⟩ := split_low q
      obtain ⟨r, hr⟩ : ∃ r, r = q.takeWhile low := ⟨_, rfl⟩
      obtain ⟨d, hd⟩ : ∃ d, d = q.dropWhile low := ⟨_, rfl⟩
      rw [← hr, ← hd] at hq hu
      have hiff := plainP_iff hp hq hu
      have zq := size_mk q
      have htl : r.length ≤ q.length := by rw [hq]; simp
      have hx1 : (⟨q.toArray⟩ : ByteArray).extract 0 r.length = ⟨r.toArray⟩ := str_mk (by
        rw [extract_list]
        show List.drop 0 (List.take _ q) = _
        rw [List.drop_zero]
        rw [hq, List.take_left])
      have hx2 : (⟨q.toArray⟩ : ByteArray).extract r.length (⟨q.toArray⟩ : ByteArray).size = ⟨d.toArray⟩ := str_mk (by
        rw [extract_to_end]
        show List.drop _ q = _
        rw [hq, List.drop_left])
      have hdl : d.length ≤ q.length := by rw [hq]; simp
      obtain ⟨rr, ⟨K6, h6⟩, hrr⟩ := Role_ev ⟨r.toArray⟩ (by have := size_mk r; omega)
      obtain ⟨K7, h7⟩ := digits_ev ⟨d.toArray⟩ 3 (by omega) (by have := size_mk d; omega) 3 rfl
      have er : (⟨r.toArray⟩ : ByteArray).data.toList = r := rfl
      have ed : (⟨d.toArray⟩ : ByteArray).data.toList = d := rfl
      rw [er] at hrr
      rw [ed] at h7
      by_cases hi0 : i = 0
      · refine ⟨bad, ⟨K1 + K2 + K4 + 4, fun k hk => ?_⟩, .inr ⟨not_term (fun id role n hP => ?_) (fun id n of h => (hnocopy _ _ _ h).elim), rfl⟩⟩
        · show voussoirref27_Parse.f k s = _
          rw [head k (by omega)]
          obtain ⟨k, rfl⟩ : ∃ m, k = m + 3 := ⟨k - 3, by omega⟩
          have := ref_colon (k + 1) s h c i (by omega) (by omega) (by rw [htake]; exact h4 (k + 1) (by omega))
          show voussoirref27_Parse.j0 (k + 1 + 1) s h c false = _
          rw [this, hi0]
          exact ref_j2t k s c
        · rw [hl] at hP
          have := (hiff _ _ _).1 hP
          rcases hi with h | h
          · omega
          · exact h.2 this.2.2.1
      · have run : ∀ k, K1 + K2 + K4 + K6 + K7 + q.length + 6 ≤ k → voussoirref27_Parse.f k s = if rr ≠ 0 ∧ 0 ≤ dig d 3 then some (⟨p.toArray⟩, ⟨r.toArray⟩, dig d 3, (⟨#[]⟩ : ByteArray), 0) else some bad := by
          intro k hk
          rw [head k (by omega)]
          obtain ⟨k, rfl⟩ : ∃ m, k = m + q.length + 1 + 3 := ⟨k - q.length - 4, by omega⟩
          have := ref_colon (k + q.length + 1 + 1) s h c i (by omega) (by omega) (by rw [htake]; exact h4 _ (by omega))
          show voussoirref27_Parse.j0 (k + q.length + 1 + 1 + 1) s h c false = _
          rw [this, beq_eq_false_iff_ne.2 hi0, ref_j2f _ s c hb (by omega) (by omega), hrest]
          obtain ⟨k', hk', e⟩ := ref_l0 s ⟨q.toArray⟩ c (by omega) q [] rfl k
          simp only [List.length_nil, Nat.zero_add, Int.cast_ofNat_Int] at e
          rw [e, ← hr]
          obtain ⟨k', rfl⟩ : ∃ m, k' = m + 1 := ⟨k' - 1, by omega⟩
          have := ref_j4 k' s ⟨q.toArray⟩ c (r.length : Nat) rr (dig d 3) (by omega) (by omega) (by omega) (by omega) (by
            rw [Int.toNat_natCast, hx1]; exact h6 _ (by omega)) (by rw [Int.toNat_natCast, hx2]; exact h7 _ (by omega))
          rw [Int.toNat_natCast, hx1, htake] at this
          exact this
        have hid : IdP p := by rcases hi with h | h; exact h.2; exact absurd h.1 hi0
        by_cases hall : rr ≠ 0 ∧ 0 ≤ dig d 3
        · obtain ⟨m, hdm, hm1⟩ := num0_of_digits.1 hall.2
          have hv : dig d 3 = m := (dig_iff _ 2 m (by omega)).2 ⟨by simpa using hm1, by simpa using hdm⟩
          have hrole : RoleP r := by rcases hrr with h | h; exact h.2; exact absurd h.1 hall.1
          refine ⟨_, ⟨K1 + K2 + K4 + K6 + K7 + q.length + 6, fun k hk => by show voussoirref27_Parse.f k s = _; rw [run k hk, if_pos hall, hv]⟩, .inl ⟨p, r, m, [], .plain (by rw [← size_list]; omega) ?_, rfl⟩⟩
          rw [hl]
          exact (hiff _ _ _).2 ⟨rfl, rfl, hid, hrole, hdm, by omega⟩
        · refine ⟨bad, ⟨K1 + K2 + K4 + K6 + K7 + q.length + 6, fun k hk => by show voussoirref27_Parse.f k s = _; rw [run k hk, if_neg hall]⟩, .inr ⟨not_term (fun id role n hP => ?_) (fun id n of h => (hnocopy _ _ _ h).elim), rfl⟩⟩
          rw [hl] at hP
          have := (hiff _ _ _).1 hP
          refine hall ⟨?_, num0_of_digits.2 ⟨n, this.2.2.2.2.1, by omega⟩⟩
          rcases hrr with h | h
          · omega
          · exact absurd this.2.2.2.1 h.2
    · have hc0 : c < 0 := by rw [indexByte_not_mem hm] at hC; omega
      refine ⟨bad, ⟨K1 + K2 + 4, fun k hk => ?_⟩, .inr ⟨not_term (fun id role n hP => hm (by rw [hP.eq]; simp)) (fun id n of h => (hnocopy _ _ _ h).elim), rfl⟩⟩
      show voussoirref27_Parse.f k s = _
      rw [head k (by omega)]
      obtain ⟨k, rfl⟩ : ∃ m, k = m + 3 := ⟨k - 3, by omega⟩
      exact ref_nocolon k s h c hc0

end Go.Proofs.YtkkndcfflmealaaDoor.P27
