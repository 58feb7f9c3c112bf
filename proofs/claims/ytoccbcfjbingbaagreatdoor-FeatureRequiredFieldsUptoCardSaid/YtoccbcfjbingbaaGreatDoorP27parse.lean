/- Parse of chapter 27, the program's and the reference's: both answer by the one grammar of terms. -/
import Derived.Test.YtoccbcfjbingbaaGreatDoorP27prog
import Derived.Test.YtoccbcfjbingbaaGreatDoorX30x5
namespace Go.Proofs.YtoccbcfjbingbaaGreatDoor.P27
open Go.RowKit Go.Lib Go.Proofs.YtoccbcfjbingbaaGreatDoorW.PrintWords Go.Proofs.YtoccbcfjbingbaaGreatDoorW.PrintLast Go.Proofs.YtoccbcfjbingbaaGreatDoor.X30 Go.Proofs.Facename

abbrev R5 := ByteArray × ByteArray × Int × ByteArray × Int
def bad : R5 := ((⟨#[]⟩ : ByteArray), (⟨#[]⟩ : ByteArray), 0, (⟨#[]⟩ : ByteArray), 3)
/-- what Parse is to answer. -/
def PRes (l : List UInt8) (r : R5) : Prop :=
  (∃ a b n c, Parsed l a b n c ∧ r = (⟨a.toArray⟩, ⟨b.toArray⟩, (n : Int), ⟨c.toArray⟩, 0)) ∨ (¬ Term l ∧ r = bad)

theorem PRes.unique {l : List UInt8} {r r' : R5} (h : PRes l r) (h' : PRes l r') : r = r' := by
  rcases h with ⟨a, b, n, c, h, rfl⟩ | ⟨h, rfl⟩
  · rcases h' with ⟨a', b', n', c', h', rfl⟩ | ⟨h', rfl⟩
    · obtain ⟨rfl, rfl, rfl, rfl⟩ := h.unique h'; rfl
    · exact (h' ⟨_, _, _, _, h⟩).elim
  · rcases h' with ⟨a', b', n', c', h', rfl⟩ | ⟨h', rfl⟩
    · exact (h ⟨_, _, _, _, h'⟩).elim
    · rfl

theorem PRes.code {l : List UInt8} {r : R5} (h : PRes l r) : (r.2.2.2.2 = 0 ∧ Term l) ∨ (r.2.2.2.2 = 3 ∧ ¬ Term l) := by
  rcases h with ⟨a, b, n, c, h, rfl⟩ | ⟨h, rfl⟩
  · exact .inl ⟨rfl, _, _, _, _, h⟩
  · exact .inr ⟨rfl, h⟩

/-! ### copies -/
theorem dig2 (u : List UInt8) : 1 ≤ dig u 2 ↔ ∃ n : Nat, u = decDigits n ∧ 1 ≤ n ∧ n < 100 := dig_pos u 1

theorem copyP_iff {p u v : List UInt8} (hp : (35 : UInt8) ∉ p) (hu : (40 : UInt8) ∉ u) (id : List UInt8) (n : Nat) (of : List UInt8) :
    CopyP (p ++ 35 :: (u ++ 40 :: v)) id n of ↔ id = p ∧ IdP p ∧ u = decDigits n ∧ 1 ≤ n ∧ n ≤ 99 ∧ v = of ++ [41] := by
  have nd : ∀ m, (40 : UInt8) ∉ decDigits m := fun m hm => by have := digits_all m _ hm; revert this; decide
  constructor
  · intro h
    obtain ⟨rfl, e⟩ := split_unique hp (h.id.not_mem (by decide)) h.eq
    obtain ⟨e1, e2⟩ := split_unique hu (nd n) e
    exact ⟨rfl, h.id, e1, h.ge, h.le, e2⟩
  · rintro ⟨rfl, h1, rfl, h2, h3, rfl⟩
    exact ⟨rfl, h1, h2, h3⟩

theorem copy_mem {l id of : List UInt8} {n : Nat} (h : CopyP l id n of) : (35 : UInt8) ∈ l := by rw [h.eq]; simp

theorem suffix41 (v : List UInt8) : (hasSuffix v [41] = true ↔ ∃ of, v = of ++ [41]) := by
  unfold hasSuffix
  rw [List.isSuffixOf_iff_suffix]
  exact ⟨fun ⟨t, h⟩ => ⟨t, h.symm⟩, fun ⟨t, h⟩ => ⟨t, h.symm⟩⟩
theorem trim41 (of : List UInt8) : trimSuffix (of ++ [41]) [41] = of := by
  unfold trimSuffix
  rw [if_pos ((suffix41 _).2 ⟨of, rfl⟩)]
  simp

theorem cutSuffix_eq (s : ByteArray) (hs : s.size ≤ 140737488351232) : strings_CutSuffix.f s ⟨#[41]⟩ = some (⟨(trimSuffix s.data.toList [41]).toArray⟩, hasSuffix s.data.toList [41]) := by
  unfold strings_CutSuffix.f
  rw [if_pos (by omega)]

theorem parse_j0t (k : Nat) (a b : ByteArray) (n : Int) : facename_Parse.j0 (k + 1) a b n true = some bad := by
  simp only [facename_Parse.j0]; rw [if_pos trivial]; rfl
theorem parse_j0f (k : Nat) (a b : ByteArray) (n : Int) (r : R5) (h : facename_Parse.f k b = some r) : facename_Parse.j0 (k + 1) a b n false = if r.2.2.2.2 = 0 then some (a, (⟨#[]⟩ : ByteArray), n, b, 0) else some bad := by
  simp only [facename_Parse.j0]; rw [if_neg (by decide), h, Option.bind_some]; rfl

theorem parse_run (k : Nat) (s a b p q u v of : ByteArray) (n m : Int) (o1 o2 o3 o4 o5 : Bool) (hs : s.size ≤ 200) (hpl : facename_plain.f k s = some (a, b, n, false)) (h1 : strings_Cut.f s ⟨#[35]⟩ = some (p, q, o1))
    (h2 : strings_Cut.f q ⟨#[40]⟩ = some (u, v, o2)) (h3 : strings_CutSuffix.f v ⟨#[41]⟩ = some (of, o3)) (h4 : facename_number.f u 1 99 = some (m, o4)) (h5 : facename_isId.f k p = some o5) :
    facename_Parse.f (k + 1) s = facename_Parse.j0 k p of m (!(o1 && o2 && o3 && o4 && o5)) := by
  simp only [facename_Parse.f]
  rw [if_neg (by omega), hpl, Option.bind_some, if_neg (by exact Bool.false_ne_true), h1, Option.bind_some]
  rw [h2, Option.bind_some, h3, Option.bind_some, h4, Option.bind_some, h5]
  cases o1
  · rw [if_neg (by exact Bool.false_ne_true)]; rfl
  · rw [if_pos rfl]
    cases o2
    · rw [if_neg (by exact Bool.false_ne_true)]; rfl
    · rw [if_pos rfl]
      cases o3
      · rw [if_neg (by exact Bool.false_ne_true)]; rfl
      · rw [if_pos rfl]
        cases o4
        · rw [if_neg (by exact Bool.false_ne_true)]; rfl
        · rw [if_pos rfl, Option.bind_some]; simp only [Bool.true_and, Bool.and_true]

theorem parse_big (k : Nat) (s : ByteArray) (hs : 200 < s.size) : facename_Parse.f (k + 1) s = some bad := by
  simp only [facename_Parse.f]
  rw [if_pos (by omega)]; rfl

theorem parse_plain (k : Nat) (s a b : ByteArray) (n : Int) (hs : s.size ≤ 200) (hpl : facename_plain.f k s = some (a, b, n, true)) : facename_Parse.f (k + 1) s = some (a, b, n, (⟨#[]⟩ : ByteArray), 0) := by
  simp only [facename_Parse.f]
  rw [if_neg (by omega), hpl, Option.bind_some, if_pos rfl]

theorem not_term_big {l : List UInt8} (h : 200 < l.length) : ¬ Term l := fun ⟨_, _, _, _, hp⟩ => by have := hp.length; omega
theorem not_term {l : List UInt8} (h1 : ∀ id role n, ¬ PlainP l id role n) (h2 : ∀ id n of, CopyP l id n of → ¬ Term of) : ¬ Term l := by
  rintro ⟨_, _, _, _, hp⟩
  cases hp with
  | plain _ h => exact h1 _ _ _ h
  | copy _ h h' => exact h2 _ _ _ h ⟨_, _, _, _, h'⟩

/-- the program's Parse. -/
theorem parse_ev : ∀ (N : Nat) (s : ByteArray), s.size ≤ N → ∃ r, Ev (fun k => facename_Parse.f k s) r ∧ PRes s.data.toList r := by
  intro N
  induction N using Nat.strongRecOn with
  | _ N ih =>
  intro s hN
  have sz := size_list s
  by_cases hb : 200 < s.size
  · exact ⟨bad, ⟨1, fun k hk => by
      obtain ⟨k, rfl⟩ : ∃ m, k = m + 1 := ⟨k - 1, by omega⟩
      exact parse_big k s hb⟩, .inr ⟨not_term_big (by omega), rfl⟩⟩
  have hb : s.size ≤ 200 := by omega
  obtain ⟨a, b, n, ok, hrun, hyes, hno⟩ := plain_eq s (by omega)
  cases ok with
  | true =>
    obtain ⟨m, rfl, hP⟩ := hyes rfl
    refine ⟨_, ⟨2, fun k hk => ?_⟩, .inl ⟨_, _, _, _, .plain (by omega) hP, rfl⟩⟩
    obtain ⟨k, rfl⟩ : ∃ m, k = m + 2 := ⟨k - 2, by omega⟩
    exact parse_plain (k + 1) s a b m hb (hrun k)
  | false =>
    have hno := hno rfl
    -- what stands behind a '#' and a '('
    have fail : ∀ (p q u v of : ByteArray) (m : Int) (o1 o2 o3 o4 : Bool) (hsz : p.size ≤ 200), strings_Cut.f s ⟨#[35]⟩ = some (p, q, o1) → strings_Cut.f q ⟨#[40]⟩ = some (u, v, o2) → strings_CutSuffix.f v ⟨#[41]⟩ = some (of, o3) →
        facename_number.f u 1 99 = some (m, o4) → (∀ o5 : Bool, (o5 = true ↔ IdP p.data.toList) → (o1 && o2 && o3 && o4 && o5) = false) → (∀ id n of, ¬ CopyP s.data.toList id n of) →
        ∃ r, Ev (fun k => facename_Parse.f k s) r ∧ PRes s.data.toList r := by
      intro p q u v of m o1 o2 o3 o4 hsz h1 h2 h3 h4 h5 h6
      obtain ⟨o5, hi, hid⟩ := isId_eq p (by omega)
      refine ⟨bad, ⟨3, fun k hk => ?_⟩, .inr ⟨not_term hno (fun id n of h => (h6 id n of h).elim), rfl⟩⟩
      obtain ⟨k, rfl⟩ : ∃ m, k = m + 2 := ⟨k - 2, by omega⟩
      have := parse_run (k + 1) s a b p q u v of n m o1 o2 o3 o4 o5 hb (hrun k) h1 h2 h3 h4 (hi k)
      rw [h5 o5 hid] at this
      show facename_Parse.f (k + 1 + 1) s = _
      rw [this]
      exact parse_j0t k p of m
    have none_empty : facename_number.f ⟨#[]⟩ 1 99 = some (0, false) := by
      have := number_eq ⟨#[]⟩ (by decide) 1 1 99 (by omega) (by omega) (by rfl)
      have e : dig (⟨#[]⟩ : ByteArray).data.toList 2 = -1 := rfl
      rw [e, if_neg (by omega)] at this
      exact this
    by_cases hm : (35 : UInt8) ∈ s.data.toList
    · obtain ⟨p, q, hl, hp⟩ := split_at _ _ hm
      have h1 := cut_yes s (by omega) 35 p q hl hp
      have zp := size_mk p
      have zq := size_mk q
      rw [hl] at sz
      simp only [List.length_append, List.length_cons] at sz
      by_cases hm2 : (40 : UInt8) ∈ q
      · obtain ⟨u, v, hq, hu⟩ := split_at _ _ hm2
        have h2 := cut_yes ⟨q.toArray⟩ (by omega) 40 u v hq hu
        have zu := size_mk u
        have zv := size_mk v
        rw [hq] at sz
        simp only [List.length_append, List.length_cons] at sz
        have h3 := cutSuffix_eq ⟨v.toArray⟩ (by omega)
        have h4 := number_eq ⟨u.toArray⟩ (by omega) 1 1 99 (by omega) (by omega) (by rfl)
        have ev : (⟨v.toArray⟩ : ByteArray).data.toList = v := rfl
        have eu : (⟨u.toArray⟩ : ByteArray).data.toList = u := rfl
        rw [ev] at h3
        rw [eu] at h4
        have hiff := copyP_iff (v := v) hp hu
        have hl2 : s.data.toList = p ++ 35 :: (u ++ 40 :: v) := by rw [hl, hq]
        by_cases hall : (∃ of, v = of ++ [41]) ∧ 1 ≤ dig u 2 ∧ IdP p
        · obtain ⟨⟨of, rfl⟩, hd, hid⟩ := hall
          obtain ⟨m, hum, hm1, hm2⟩ := (dig2 u).1 hd
          have hv : dig u 2 = m := (dig_iff u 1 m (by omega)).2 ⟨by simpa using hm2, by simpa using hum⟩
          rw [(suffix41 _).2 ⟨of, rfl⟩, trim41] at h3
          rw [if_pos hd] at h4
          have hC : CopyP s.data.toList p m of := by rw [hl2]; exact (hiff p m of).2 ⟨rfl, hid, hum, hm1, by omega, rfl⟩
          simp only [List.length_append, List.length_cons, List.length_nil] at sz
          have zo := size_mk of
          obtain ⟨r', ⟨K, hK⟩, hr'⟩ := ih of.length (by omega) ⟨of.toArray⟩ (by omega)
          have eo : (⟨of.toArray⟩ : ByteArray).data.toList = of := rfl
          rw [eo] at hr'
          obtain ⟨o5, hi, hid5⟩ := isId_eq ⟨p.toArray⟩ (by omega)
          have ep : (⟨p.toArray⟩ : ByteArray).data.toList = p := rfl
          rw [ep] at hid5
          have ho5 : o5 = true := hid5.2 hid
          subst ho5
          have run : ∀ k, K + 3 ≤ k → facename_Parse.f k s = if r'.2.2.2.2 = 0 then some (⟨p.toArray⟩, (⟨#[]⟩ : ByteArray), (m : Int), ⟨of.toArray⟩, 0) else some bad := by
            intro k hk
            obtain ⟨k, rfl⟩ : ∃ m, k = m + 2 := ⟨k - 2, by omega⟩
            have := parse_run (k + 1) s a b _ _ _ _ _ n _ _ _ _ _ _ hb (hrun k) h1 h2 h3 h4 (hi k)
            show facename_Parse.f (k + 1 + 1) s = _
            rw [this, hv]
            exact parse_j0f k _ _ _ r' (hK k (by omega))
          rcases hr'.code with ⟨hc, hT⟩ | ⟨hc, hT⟩
          · obtain ⟨a', b', n', c', hP'⟩ := hT
            refine ⟨_, ⟨K + 3, fun k hk => by show facename_Parse.f k s = _; rw [run k hk, if_pos hc]⟩, .inl ⟨p, [], m, of, .copy (by rw [← size_list]; omega) hC hP', rfl⟩⟩
          · refine ⟨bad, ⟨K + 3, fun k hk => by show facename_Parse.f k s = _; rw [run k hk, if_neg (by omega)]⟩, .inr ⟨not_term hno (fun id n of' h => ?_), rfl⟩⟩
            obtain ⟨_, _, rfl⟩ := h.unique hC
            exact hT
        · cases hd : decide (1 ≤ dig u 2) with
          | true =>
            have hd' := of_decide_eq_true hd
            rw [if_pos hd'] at h4
            refine fail _ _ _ _ _ _ _ _ _ _ (by omega) h1 h2 h3 h4 (fun o5 h5 => ?_) (fun id n of h => ?_)
            · cases hs41 : hasSuffix v [41] with
              | false => simp
              | true =>
                cases o5 with
                | false => simp
                | true => exact (hall ⟨(suffix41 v).1 hs41, hd', h5.1 rfl⟩).elim
            · rw [hl2] at h
              have := (hiff _ _ _).1 h
              exact hall ⟨⟨of, this.2.2.2.2.2⟩, hd', this.2.1⟩
          | false =>
            have hd' := of_decide_eq_false hd
            rw [if_neg hd'] at h4
            refine fail _ _ _ _ _ _ _ _ _ _ (by omega) h1 h2 h3 h4 (fun o5 h5 => by simp) (fun id n of h => ?_)
            rw [hl2] at h
            have := (hiff _ _ _).1 h
            exact hd' ((dig2 u).2 ⟨n, this.2.2.1, this.2.2.2.1, by omega⟩)
      · have h2 := cut_no ⟨q.toArray⟩ (by omega) 40 hm2
        have h3 := cutSuffix_eq ⟨#[]⟩ (by decide)
        have h4 := number_eq ⟨q.toArray⟩ (by omega) 1 1 99 (by omega) (by omega) (by rfl)
        refine fail _ _ _ _ _ _ _ _ _ _ (by omega) h1 h2 h3 (by rw [h4]) (fun o5 h5 => by simp) (fun id n of h => ?_)
        rw [hl] at h
        obtain ⟨rfl, e⟩ := split_unique hp (h.id.not_mem (by decide)) h.eq
        exact hm2 (by rw [e]; simp)
    · have h1 := cut_no s (by omega) 35 hm
      have h2 := cut_no ⟨#[]⟩ (by decide) 40 (by simp)
      have h3 := cutSuffix_eq ⟨#[]⟩ (by decide)
      exact fail _ _ _ _ _ _ _ _ _ _ hb h1 h2 h3 none_empty (fun o5 h5 => by simp) (fun id n of h => hm (copy_mem h))

end Go.Proofs.YtoccbcfjbingbaaGreatDoor.P27
