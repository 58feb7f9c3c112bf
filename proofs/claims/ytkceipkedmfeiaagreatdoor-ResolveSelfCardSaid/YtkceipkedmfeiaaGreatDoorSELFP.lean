/- Plain law of resolve.Reference: what it answers, and what it says of Resolve (Self, Renaming). -/
import Derived.Test.YtkceipkedmfeiaaGreatDoorREF
import Derived.Lib.SlicesCompact
import Derived.Sort.EncStr
namespace Go.Proofs.YtkceipkedmfeiaaGreatDoor.XL
open Go Go.RowKit Go.Shelf

theorem plEq_iff (p q : PL) : plEq p q = true ↔ p = q := by
  obtain ⟨⟨a0, a1⟩, ⟨b0, b1⟩, ⟨c0, c1⟩, ⟨d0, d1⟩⟩ := p
  obtain ⟨⟨e0, e1⟩, ⟨f0, f1⟩, ⟨g0, g1⟩, ⟨h0, h1⟩⟩ := q
  unfold plEq
  simp only [Bool.and_eq_true, beq_iff_eq]
  constructor
  · rintro ⟨⟨rfl, x1⟩, ⟨rfl, x2⟩, ⟨rfl, x3⟩, rfl, x4⟩
    rw [ba_inj x1, ba_inj x2, ba_inj x3, ba_inj x4]
  · intro h
    injection h with h1 h2 h3 h4
    injection h1 with x1 y1
    injection h2 with x2 y2
    injection h3 with x3 y3
    injection h4 with x4 y4
    subst x1 x2 x3 x4 y1 y2 y3 y4
    exact ⟨⟨rfl, rfl⟩, ⟨rfl, rfl⟩, ⟨rfl, rfl⟩, rfl, rfl⟩
theorem plEq_refl (p : PL) : plEq p p = true := (plEq_iff p p).2 rfl

/-- Terms in strictly ascending order. -/
def asc (t : List NP) : Prop := t.Pairwise fun a b => a.f0.toList < b.f0.toList
def nm (t : List NP) (p : PL) : Option ByteArray := (names t p).head?
def adjN (t : List NP) (ps : List PL) : List ByteArray := ps.filterMap (nm t)
def srt (l : List ByteArray) : List ByteArray := (Lib.compact ((l.map ByteArray.toList).mergeSort fun x y => decide (x ≤ y))).map toB
theorem srt_eq (l : List ByteArray) : compB (sortB l) = srt l := by unfold compB sortB srt; rw [map_toB]
/-- What Reference answers. -/
def refOf (t : List NP) (x : FC) : Option (ByteArray × List ByteArray) := (nm t x.f0).map fun T => (T, srt (adjN t x.f2))

theorem mem_compactUpTo {α : Type} [Inhabited α] [DecidableEq α] (d : Array α) (m : Nat) : ∀ j, j < m → d[j]! ∈ Lib.compactUpTo d m := by
  intro j
  induction j using Nat.strongRecOn with
  | _ j ih =>
    intro hj
    by_cases hk : Lib.keeps d j = true
    · exact List.mem_map.2 ⟨j, List.mem_filter.2 ⟨List.mem_range.2 hj, hk⟩, rfl⟩
    · have h := hk
      simp only [Lib.keeps, decide_eq_true_eq, not_or, Decidable.not_not] at h
      rw [h.2]
      exact ih (j - 1) (by omega) (by omega)
theorem mem_compact {α : Type} [Inhabited α] [DecidableEq α] (zs : List α) (x : α) : x ∈ Lib.compact zs ↔ x ∈ zs := by
  constructor
  · intro h
    obtain ⟨j, hj, rfl⟩ := List.mem_map.1 h
    have hl := List.mem_range.1 (List.mem_filter.1 hj).1
    rw [getElem!_pos zs.toArray j (by simpa using hl)]
    simp
  · intro h
    obtain ⟨j, hj, rfl⟩ := List.mem_iff_getElem.1 h
    have := mem_compactUpTo zs.toArray zs.length j hj
    rw [getElem!_pos zs.toArray j (by simpa using hj)] at this
    unfold Lib.compact
    simpa using this
theorem mem_srt (l : List ByteArray) (s : ByteArray) : s ∈ srt l ↔ s ∈ l := by
  unfold srt
  rw [List.mem_map]
  constructor
  · rintro ⟨a, ha, rfl⟩
    rw [mem_compact, List.mem_mergeSort] at ha
    obtain ⟨b, hb, rfl⟩ := List.mem_map.1 ha
    rwa [toB_toList]
  · intro h
    exact ⟨s.toList, by rw [mem_compact, List.mem_mergeSort]; exact List.mem_map_of_mem h, toB_toList s⟩
theorem keeps_of_ne {α : Type} [Inhabited α] [DecidableEq α] {zs : List α} {R : α → α → Prop} (h : zs.Pairwise R) (hR : ∀ a, ¬ R a a) : Lib.compact zs = zs := by
  apply Lib.compact_all
  intro j hj
  by_cases h0 : j = 0
  · simp [Lib.keeps, h0]
  · apply Lib.keeps_pos
    rw [getElem!_pos zs.toArray j (by simpa using hj), getElem!_pos zs.toArray (j - 1) (by simp; omega)]
    intro e
    have := List.pairwise_iff_getElem.1 h (j - 1) j (by omega) hj (by omega)
    simp only [List.getElem_toArray] at e
    rw [← e] at this
    exact hR _ this
/-- A strictly ascending row stays as it is. -/
theorem srt_asc (l : List ByteArray) (h : l.Pairwise fun a b => a.toList < b.toList) : srt l = l := by
  unfold srt
  have hp : (l.map ByteArray.toList).Pairwise (fun a b => a < b) := List.pairwise_map.2 h
  rw [List.mergeSort_of_pairwise (hp.imp fun hh => by simpa using List.le_of_lt hh), keeps_of_ne hp (fun a => List.lt_irrefl a), List.map_map]
  rw [show (toB ∘ ByteArray.toList) = id from funext toB_toList, List.map_id]
theorem names_asc {t : List NP} (h : asc t) (p : PL) : (names t p).Pairwise fun a b => a.toList < b.toList := List.pairwise_map.2 (h.sublist List.filter_sublist)
theorem look_mem {t : List NP} (h : asc t) {e : NP} (he : e ∈ t) : lookR e.f0 t = (e.f1, true) := by
  have : t.find? (npHit e.f0) = some e := by
    induction t with
    | nil => cases he
    | cons x r ih =>
      rw [asc, List.pairwise_cons] at h
      rcases List.mem_cons.1 he with rfl | hm
      · rw [List.find?_cons_of_pos (by simp [npHit])]
      · rw [List.find?_cons_of_neg, ih h.2 hm]
        intro hh
        have e1 := h.1 e hm
        rw [eq_of_beq hh] at e1
        exact List.lt_irrefl _ e1
  unfold lookR lookup
  rw [this]
  rfl
theorem nm_some {t : List NP} {p : PL} {s : ByteArray} (h : nm t p = some s) : ∃ e ∈ t, e.f0 = s ∧ e.f1 = p := by
  unfold nm names at h
  have : s ∈ (t.filter fun x => plEq x.f1 p).map (·.f0) := List.mem_of_mem_head? h
  obtain ⟨e, he, rfl⟩ := List.mem_map.1 this
  exact ⟨e, (List.mem_filter.1 he).1, rfl, (plEq_iff _ _).1 (List.mem_filter.1 he).2⟩
theorem look_nm {t : List NP} (h : asc t) {p : PL} {s : ByteArray} (hs : nm t p = some s) : lookR s t = (p, true) := by
  obtain ⟨e, he, rfl, rfl⟩ := nm_some hs
  exact look_mem h he
theorem near_all {t : List NP} (h : asc t) (x : FC) {s : ByteArray} (hs : s ∈ srt (adjN t x.f2)) : near t x s = true := by
  rw [mem_srt] at hs
  obtain ⟨p, hp, hn⟩ := List.mem_filterMap.1 hs
  unfold near
  rw [look_nm h hn]
  simp only [Bool.true_and]
  exact List.any_eq_true.2 ⟨p, hp, plEq_refl p⟩
/-- The places of the faces on p that all names are near to. -/
def fullAt (t : List NP) (adj : List ByteArray) (p : PL) : List FC → Nat → List Int
  | [], _ => []
  | x :: l, n => if (plEq x.f0 p && adj.all (near t x)) = true then (n : Int) :: fullAt t adj p l (n + 1) else fullAt t adj p l (n + 1)
theorem score_full (t : List NP) (adj : List ByteArray) (x : FC) : score t adj x = adj.length ↔ adj.all (near t x) = true := by
  unfold score
  rw [List.length_filter_eq_length_iff, List.all_eq_true]
theorem score_le' (t : List NP) (adj : List ByteArray) (x : FC) : score t adj x ≤ adj.length := List.length_filter_le _ _
theorem scan_full (t : List NP) (adj : List ByteArray) (p : PL) : ∀ (l : List FC) (n best : Nat) (ps : List Int), best ≤ adj.length →
    (best = adj.length → scanGo t adj p l n best ps = ps ++ fullAt t adj p l n) ∧ (best < adj.length → fullAt t adj p l n ≠ [] → scanGo t adj p l n best ps = fullAt t adj p l n)
  | [], n, best, ps, _ => ⟨fun _ => by simp [scanGo, fullAt], fun _ h => absurd rfl h⟩
  | x :: l, n, best, ps, hb => by
    have hsl := score_le' t adj x
    have hsf := score_full t adj x
    rw [scanGo, fullAt]
    cases hx : plEq x.f0 p with
    | false =>
      rw [if_neg Bool.false_ne_true, Bool.false_and, if_neg Bool.false_ne_true]
      exact scan_full t adj p l (n + 1) best ps hb
    | true =>
      rw [if_pos rfl, Bool.true_and]
      by_cases hf : adj.all (near t x) = true
      · have e := hsf.2 hf
        rw [if_pos hf, e]
        refine ⟨fun h => ?_, fun h _ => ?_⟩
        · rw [if_neg (by omega), if_pos h, (scan_full t adj p l (n + 1) best _ hb).1 h, List.append_assoc]; rfl
        · rw [if_pos h, (scan_full t adj p l (n + 1) adj.length _ (Nat.le_refl _)).1 rfl]; rfl
      · have e : score t adj x < adj.length := Nat.lt_of_le_of_ne hsl (fun h => hf (hsf.1 h))
        rw [if_neg hf]
        refine ⟨fun h => ?_, fun h hne => ?_⟩
        · rw [if_neg (by omega), if_neg (by omega)]
          exact (scan_full t adj p l (n + 1) best ps hb).1 h
        · split
          · exact (scan_full t adj p l (n + 1) _ _ hsl).2 e hne
          · split
            · exact (scan_full t adj p l (n + 1) best _ hb).2 h hne
            · exact (scan_full t adj p l (n + 1) best _ hb).2 h hne
theorem scan_eq (t : List NP) (adj : List ByteArray) (p : PL) (l : List FC) (h : fullAt t adj p l 0 ≠ []) : scanGo t adj p l 0 0 [] = fullAt t adj p l 0 := by
  rcases Nat.eq_zero_or_pos adj.length with h0 | h0
  · have := (scan_full t adj p l 0 0 [] (Nat.zero_le _)).1 h0.symm
    rwa [List.nil_append] at this
  · exact (scan_full t adj p l 0 0 [] (Nat.zero_le _)).2 h0 h
theorem mem_full (t : List NP) (adj : List ByteArray) (p : PL) : ∀ (l : List FC) (n : Nat) (k : Int), k ∈ fullAt t adj p l n ↔ ∃ (j : Nat) (hj : j < l.length), k = ((n + j : Nat) : Int) ∧ l[j].f0 = p ∧ adj.all (near t l[j]) = true
  | [], n, k => by simp [fullAt]
  | x :: l, n, k => by
    have ih := mem_full t adj p l (n + 1) k
    rw [fullAt]
    have hr : (∃ (j : Nat) (hj : j < (x :: l).length), k = ((n + j : Nat) : Int) ∧ (x :: l)[j].f0 = p ∧ adj.all (near t (x :: l)[j]) = true) ↔ (k = (n : Int) ∧ x.f0 = p ∧ adj.all (near t x) = true) ∨ ∃ (j : Nat) (hj : j < l.length), k = ((n + 1 + j : Nat) : Int) ∧ l[j].f0 = p ∧ adj.all (near t l[j]) = true := by
      constructor
      · rintro ⟨j, hj, h1, h2, h3⟩
        match j, hj, h1, h2, h3 with
        | 0, _, h1, h2, h3 => exact .inl ⟨h1, h2, h3⟩
        | j + 1, hj, h1, h2, h3 => exact .inr ⟨j, by simpa using hj, by rw [h1]; omega, h2, h3⟩
      · rintro (⟨h1, h2, h3⟩ | ⟨j, hj, h1, h2, h3⟩)
        · exact ⟨0, by simp, h1, h2, h3⟩
        · exact ⟨j + 1, by simpa using hj, by rw [h1]; omega, h2, h3⟩
    rw [hr, ← ih]
    by_cases hc : (plEq x.f0 p && adj.all (near t x)) = true
    · rw [if_pos hc, List.mem_cons]
      have := (Bool.and_eq_true _ _).mp hc
      simp [(plEq_iff _ _).1 this.1, this.2]
    · rw [if_neg hc]
      constructor
      · exact .inr
      · rintro (⟨_, h2, h3⟩ | h)
        · exact absurd (by rw [(plEq_iff _ _).2 h2, h3]; rfl) hc
        · exact h
theorem full_nodup (t : List NP) (adj : List ByteArray) (p : PL) : ∀ (l : List FC) (n : Nat), (fullAt t adj p l n).Pairwise (· < ·)
  | [], _ => List.Pairwise.nil
  | x :: l, n => by
    rw [fullAt]
    split
    · refine List.Pairwise.cons ?_ (full_nodup t adj p l (n + 1))
      intro k hk
      obtain ⟨j, hj, rfl, -, -⟩ := (mem_full t adj p l (n + 1) k).1 hk
      omega
    · exact full_nodup t adj p l (n + 1)
/-- Is another face on the plane of face i near to all names? -/
def alone (t : List NP) (adj : List ByteArray) (p : PL) (i : Nat) (L : List FC) (m : Nat) : Bool := (List.range m).all fun k => k == i || !(match L[k]? with | some x => plEq x.f0 p && adj.all (near t x) | none => false)
theorem alone_succ (t : List NP) (adj : List ByteArray) (p : PL) (i : Nat) (L : List FC) (m : Nat) (h : m < L.length) : alone t adj p i L (m + 1) = (alone t adj p i L m && (m == i || !(plEq L[m].f0 p && adj.all (near t L[m])))) := by
  unfold alone
  rw [List.range_succ, List.all_append]
  simp only [List.all_cons, List.all_nil, Bool.and_true, List.getElem?_eq_getElem h]
theorem full_one (t : List NP) (adj : List ByteArray) (p : PL) (i : Nat) (L : List FC) (hi : (i : Int) ∈ fullAt t adj p L 0) : ((fullAt t adj p L 0).length = 1) ↔ alone t adj p i L L.length = true := by
  unfold alone
  rw [List.all_eq_true]
  constructor
  · intro h k hk
    have hkl := List.mem_range.1 hk
    obtain ⟨a, ha⟩ := List.length_eq_one_iff.1 h
    rw [ha] at hi
    by_cases hki : k = i
    · simp [hki]
    · simp only [List.getElem?_eq_getElem hkl]
      rw [Bool.or_eq_true]
      refine .inr ?_
      rw [Bool.not_eq_true', Bool.eq_false_iff]
      intro hh
      have := (Bool.and_eq_true _ _).mp hh
      have hm := (mem_full t adj p L 0 (k : Int)).2 ⟨k, hkl, by simp, (plEq_iff _ _).1 this.1, this.2⟩
      rw [ha] at hm
      simp at hi hm
      omega
  · intro h
    have hnd := full_nodup t adj p L 0
    match hF : fullAt t adj p L 0 with
    | [] => rw [hF] at hi; cases hi
    | [a] => rfl
    | a :: b :: r =>
      exfalso
      rw [hF, List.pairwise_cons] at hnd
      have hab := hnd.1 b (by simp)
      have key : ∀ k ∈ fullAt t adj p L 0, k = (i : Int) := by
        intro k hk
        obtain ⟨j, hj, rfl, h2, h3⟩ := (mem_full t adj p L 0 k).1 hk
        have := h j (List.mem_range.2 hj)
        simp only [List.getElem?_eq_getElem hj, h3, Bool.and_true, (plEq_iff _ _).2 h2, Bool.not_true, Bool.or_false, beq_iff_eq] at this
        simp [this]
      rw [hF] at key
      have h1 := key a (by simp)
      have h2 := key b (by simp)
      omega
def ltB (a b : ByteArray) : Prop := a.toList < b.toList
theorem ltB_irrefl (a : ByteArray) : ¬ ltB a a := List.lt_irrefl _
theorem ltB_trans {a b c : ByteArray} (h : ltB a b) (k : ltB b c) : ltB a c := List.lt_trans h k
theorem asc_ext : ∀ {l m : List ByteArray}, l.Pairwise ltB → m.Pairwise ltB → (∀ s, s ∈ l ↔ s ∈ m) → l = m
  | [], [], _, _, _ => rfl
  | [], b :: m, _, _, h => absurd ((h b).2 (by simp)) (by simp)
  | a :: l, [], _, _, h => absurd ((h a).1 (by simp)) (by simp)
  | a :: l, b :: m, hl, hm, h => by
    rw [List.pairwise_cons] at hl hm
    have hab : a = b := by
      rcases List.mem_cons.1 ((h a).1 (by simp)) with e | e
      · exact e
      · rcases List.mem_cons.1 ((h b).2 (by simp)) with e2 | e2
        · exact e2.symm
        · exact absurd (ltB_trans (hl.1 b e2) (hm.1 a e)) (ltB_irrefl a)
    subst hab
    congr 1
    refine asc_ext hl.2 hm.2 fun s => ?_
    have hs := h s
    simp only [List.mem_cons] at hs
    constructor
    · intro hh
      rcases hs.1 (.inr hh) with e | e
      · subst e; exact absurd (hl.1 _ hh) (ltB_irrefl _)
      · exact e
    · intro hh
      rcases hs.2 (.inr hh) with e | e
      · subst e; exact absurd (hm.1 _ hh) (ltB_irrefl _)
      · exact e
theorem compact_asc (zs : List (List UInt8)) (h : zs.Pairwise (· ≤ ·)) : (Lib.compact zs).Pairwise (· < ·) := by
  unfold Lib.compact Lib.compactUpTo
  rw [List.pairwise_map, List.pairwise_filter]
  refine List.Pairwise.imp_of_mem ?_ (List.pairwise_lt_range (n := zs.length))
  intro a b ha hb hab hka hkb
  have hb' := List.mem_range.1 hb
  have ha' := List.mem_range.1 ha
  have hle := List.pairwise_iff_getElem.1 h
  have e : ∀ j, (hj : j < zs.length) → zs.toArray[j]! = zs[j] := fun j hj => by rw [getElem!_pos zs.toArray j (by simpa using hj)]; simp
  simp only [Lib.keeps, decide_eq_true_eq] at hkb
  rcases hkb with hkb | hkb
  · omega
  rw [e b hb', e (b - 1) (by omega)] at hkb
  rw [e a ha', e b hb']
  have h1 : zs[b - 1] ≤ zs[b] := hle (b - 1) b (by omega) hb' (by omega)
  have h2 : zs[b - 1] < zs[b] := Classical.byContradiction fun hn => hkb (List.le_antisymm (List.not_lt.1 hn) h1)
  by_cases hab1 : a = b - 1
  · subst hab1; exact h2
  · exact List.lt_of_le_of_lt (hle a (b - 1) ha' (by omega) (by omega)) h2
theorem srt_sorted (l : List ByteArray) : (srt l).Pairwise ltB := by
  unfold srt
  rw [List.pairwise_map]
  have hs : ((l.map ByteArray.toList).mergeSort fun x y => decide (x ≤ y)).Pairwise (· ≤ ·) := by
    refine (List.pairwise_mergeSort (le := fun x y : List UInt8 => decide (x ≤ y)) ?_ ?_ _).imp (fun h => by simpa using h)
    · intro a b c h1 h2
      simp only [decide_eq_true_eq] at *
      exact List.le_trans h1 h2
    · intro a b
      have := List.le_total a b
      simpa using this
  refine (compact_asc _ hs).imp ?_
  intro a b h
  unfold ltB
  rw [toList_toB, toList_toB]
  exact h
theorem srt_of {l m : List ByteArray} (hl : l.Pairwise ltB) (h : ∀ s, s ∈ l ↔ s ∈ m) : l = srt m := asc_ext hl (srt_sorted m) fun s => (h s).trans (mem_srt m s).symm
def turn (p : PL) : PL := ⟨p.f1, p.f0, p.f2, p.f3⟩
def turnN (e : NP) : NP := ⟨e.f0, turn e.f1⟩
def turnF (x : FC) : FC := ⟨turn x.f0, [], x.f2.map turn⟩
theorem turn_turn (p : PL) : turn (turn p) = p := rfl
theorem plEq_turn (p q : PL) : plEq (turn p) (turn q) = plEq p q := by
  rw [Bool.eq_iff_iff, plEq_iff, plEq_iff]
  exact ⟨fun h => by rw [← turn_turn p, h, turn_turn], fun h => by rw [h]⟩
theorem hasPl_turn (l : List PL) (q : PL) : hasPl (l.map turn) (turn q) = hasPl l q := by
  unfold hasPl
  rw [List.any_map]
  congr 1
  funext x
  exact plEq_turn q x
theorem lookR_turn (s : ByteArray) (t : List NP) : lookR s (t.map turnN) = (turn (lookR s t).1, (lookR s t).2) := by
  unfold lookR lookup
  rw [List.find?_map, show (npHit s ∘ turnN) = npHit s from rfl]
  cases t.find? (npHit s) <;> rfl
theorem near_turn (t : List NP) (x : FC) (s : ByteArray) : near (t.map turnN) (turnF x) s = near t x s := by
  unfold near
  rw [lookR_turn]
  simp only
  rw [show (turnF x).f2 = x.f2.map turn from rfl, hasPl_turn]
theorem score_turn (t : List NP) (adj : List ByteArray) (x : FC) : score (t.map turnN) adj (turnF x) = score t adj x := by
  unfold score
  rw [show near (t.map turnN) (turnF x) = near t x from funext (near_turn t x)]
theorem scan_turn (t : List NP) (adj : List ByteArray) (p : PL) : ∀ (l : List FC) (n best : Nat) (ps : List Int), scanGo (t.map turnN) adj (turn p) (l.map turnF) n best ps = scanGo t adj p l n best ps
  | [], _, _, _ => rfl
  | x :: l, n, best, ps => by
    rw [List.map_cons, scanGo, scanGo, score_turn, show plEq (turnF x).f0 (turn p) = plEq x.f0 p from plEq_turn _ _, scan_turn, scan_turn, scan_turn]
theorem resolveF_turn (L : List FC) (t : List NP) (T : ByteArray) (adj : List ByteArray) (hT : (T.toList == [103, 114, 111, 117, 110, 100]) = false) : resolveF (L.map turnF) (t.map turnN) T adj = ((resolveF L t T adj).1, turn (resolveF L t T adj).2.1, (resolveF L t T adj).2.2) := by
  have e : ∀ (L : List FC) (t : List NP), resolveF L t T adj = (if (lookR T t).2 = true then outOf (lookR T t).1 (scanGo t adj (lookR T t).1 L 0 0 []) else (3, plZ, [])) := fun L t => by
    unfold resolveF
    rw [if_neg (by rw [hT]; exact Bool.false_ne_true)]
  rw [e, e, lookR_turn]
  simp only
  rw [scan_turn]
  split
  · generalize scanGo t adj (lookR T t).1 L 0 0 [] = ps
    match ps with
    | [] => rfl
    | [_] => rfl
    | _ :: _ :: _ => rfl
  · rfl
theorem names_turn (t : List NP) (p : PL) : names (t.map turnN) (turn p) = names t p := by
  unfold names
  rw [List.filter_map, List.map_map, show ((fun x : NP => plEq x.f1 (turn p)) ∘ turnN) = (fun x => plEq x.f1 p) from funext fun x => plEq_turn x.f1 p]
  rfl
theorem nm_turn (t : List NP) (p : PL) : nm (t.map turnN) (turn p) = nm t p := by unfold nm; rw [names_turn]
theorem refOf_turn (t : List NP) (x : FC) : refOf (t.map turnN) (turnF x) = refOf t x := by
  unfold refOf adjN
  rw [show (turnF x).f0 = turn x.f0 from rfl, nm_turn, show (turnF x).f2 = x.f2.map turn from rfl, List.filterMap_map, show (nm (t.map turnN) ∘ turn) = nm t from funext (nm_turn t)]
theorem asc_turn {t : List NP} (h : asc t) : asc (t.map turnN) := List.pairwise_map.2 h
end Go.Proofs.YtkceipkedmfeiaaGreatDoor.XL
