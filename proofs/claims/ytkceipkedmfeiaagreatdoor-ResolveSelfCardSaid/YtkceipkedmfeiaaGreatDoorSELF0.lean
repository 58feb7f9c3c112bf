/- ResolveSelf, the plain law: what the reference of a face resolves to. -/
import Derived.Test.YtkceipkedmfeiaaGreatDoorRGT
namespace Go.Proofs.YtkceipkedmfeiaaGreatDoor.XL
open Go Go.RowKit Go.Shelf Go.Proofs.YtkceipkedmfeiaaGreatDoorW.PrintWords Go.Proofs.YtkceipkedmfeiaaGreatDoorW.PrintLast Go.Proofs.YtkceipkedmfeiaaGreatDoorW.PrintMore Go.Proofs.YtkceipkedmfeiaaGreatDoor.X30

theorem refR_false {L : List FC} {t : List NP} {i : Int} (h : (refR L t i).2.2 = false) : refR L t i = (⟨#[]⟩, [], false) := by
  by_cases h0 : 0 ≤ i
  · obtain ⟨n, rfl⟩ : ∃ n : Nat, i = n := ⟨i.toNat, by omega⟩
    by_cases hn : n < L.length
    · have e := refR_at (t := t) hn
      rw [e] at h ⊢
      by_cases h2 : (nmR t L[n].f0).2 = true
      · rw [if_pos h2] at h; cases h
      · rw [if_neg h2]
    · exact refR_out (by omega)
  · exact refR_neg (by omega)
theorem refR_true {L : List FC} {t : List NP} {i : Int} (h : (refR L t i).2.2 = true) : ∃ (n : Nat) (hn : n < L.length), i = n ∧ (nmR t L[n].f0).2 = true ∧ refR L t i = ((nmR t L[n].f0).1, compB (sortB (adjR t L[n].f2)), true) := by
  by_cases h0 : 0 ≤ i
  · obtain ⟨n, rfl⟩ : ∃ n : Nat, i = n := ⟨i.toNat, by omega⟩
    by_cases hn : n < L.length
    · have e := refR_at (t := t) hn
      rw [e] at h
      by_cases h2 : (nmR t L[n].f0).2 = true
      · rw [if_pos h2] at e
        exact ⟨n, hn, rfl, h2, e⟩
      · rw [if_neg h2] at h; cases h
    · rw [refR_out (by omega)] at h; cases h
  · rw [refR_neg (by omega)] at h; cases h
theorem nmR_nm {t : List NP} (ha : asc t) (p : PL) : nmR t p = match nm t p with | some s => (s, true) | none => (⟨#[]⟩, false) := by
  unfold nmR nm
  rw [srt_eq, srt_asc _ (names_asc ha p)]
  cases names t p <;> rfl
theorem adjR_adjN {t : List NP} (ha : asc t) (ps : List PL) : adjR t ps = adjN t ps := by
  unfold adjR adjN
  congr 1
  funext p
  rw [nmR_nm ha]
  cases nm t p <;> rfl
/-- The reference of a face in a valid table. -/
theorem refR_law {L : List FC} {t : List NP} {i : Int} {T : ByteArray} {adj : List ByteArray} (ha : asc t) (hR : refR L t i = (T, adj, true)) :
    ∃ (n : Nat) (hn : n < L.length), i = n ∧ nm t L[n].f0 = some T ∧ adj = srt (adjN t L[n].f2) := by
  obtain ⟨n, hn, rfl, h2, e⟩ := refR_true (by rw [hR] : (refR L t i).2.2 = true)
  rw [hR] at e
  have hk := nmR_nm ha L[n].f0
  cases hnm : nm t L[n].f0 with
  | none => rw [hnm] at hk; rw [hk] at h2; cases h2
  | some s =>
    rw [hnm] at hk
    injection e with e1 e2
    injection e2 with e2 _
    rw [hk] at e1
    rw [srt_eq, adjR_adjN ha] at e2
    exact ⟨n, hn, rfl, by rw [hnm, e1], e2⟩
theorem ok_of_adj {t : List NP} (ha : asc t) {ps : List PL} {adj : List ByteArray} (h : adj = srt (adjN t ps)) {s : ByteArray} (hs : s ∈ adj) : ∃ p, lookR s t = (p, true) := by
  subst h
  rw [mem_srt] at hs
  obtain ⟨p, -, hn⟩ := List.mem_filterMap.1 hs
  exact ⟨p, look_nm ha hn⟩
theorem self_law {L : List FC} {t : List NP} {n : Nat} {T : ByteArray} {adj : List ByteArray} (ha : asc t) (hterm : ∀ x ∈ t, Facename.Term x.f0.data.toList) (hn : n < L.length) (hT : nm t L[n].f0 = some T) (hadj : adj = srt (adjN t L[n].f2)) :
    ∃ (k : Int) (pl : List Int), resolveF L t T adj = (k, L[n].f0, pl) ∧ (n : Int) ∈ pl ∧ (∀ (m : Nat) (h : m < pl.length), ∃ (j : Nat) (hj : j < L.length), pl[m] = (j : Int) ∧ L[j].f0 = L[n].f0) ∧
      ((k = 1 ∧ pl.length = 1 ∧ alone t adj L[n].f0 n L L.length = true) ∨ (k = 2 ∧ pl.length ≠ 1 ∧ alone t adj L[n].f0 n L L.length = false)) := by
  have hall : adj.all (near t L[n]) = true := by
    rw [List.all_eq_true]
    intro s hs
    exact near_all ha L[n] (by rw [← hadj]; exact hs)
  have hmem : (n : Int) ∈ fullAt t adj L[n].f0 L 0 := (mem_full t adj L[n].f0 L 0 (n : Int)).2 ⟨n, hn, by simp, rfl, hall⟩
  have hne : fullAt t adj L[n].f0 L 0 ≠ [] := fun e => by rw [e] at hmem; cases hmem
  obtain ⟨e, he, hT2, -⟩ := nm_some hT
  have hg : (T.toList == [103, 114, 111, 117, 110, 100]) = false := term_ne_ground (by rw [← hT2]; exact hterm e he)
  have hres : resolveF L t T adj = outOf L[n].f0 (fullAt t adj L[n].f0 L 0) := by
    unfold resolveF
    rw [if_neg (by rw [hg]; exact Bool.false_ne_true), look_nm ha hT]
    simp only
    rw [if_pos trivial, scan_eq _ _ _ _ hne]
  have hone := full_one t adj L[n].f0 n L hmem
  have hpos : ∀ (m : Nat) (h : m < (fullAt t adj L[n].f0 L 0).length), ∃ (j : Nat) (hj : j < L.length), (fullAt t adj L[n].f0 L 0)[m] = (j : Int) ∧ L[j].f0 = L[n].f0 := by
    intro m h
    obtain ⟨j, hj, h1, h2, -⟩ := (mem_full t adj L[n].f0 L 0 _).1 (List.getElem_mem h)
    exact ⟨j, hj, by rw [h1, Nat.zero_add], h2⟩
  rw [hres]
  generalize fullAt t adj L[n].f0 L 0 = pl at hmem hne hone hpos
  match pl, hmem, hne, hone, hpos with
  | [a], hmem, _, hone, hpos => exact ⟨1, [a], rfl, hmem, hpos, .inl ⟨rfl, rfl, hone.1 rfl⟩⟩
  | a :: b :: r, hmem, _, hone, hpos =>
    refine ⟨2, a :: b :: r, rfl, hmem, hpos, .inr ⟨rfl, by simp, ?_⟩⟩
    rw [Bool.eq_false_iff]
    intro hh
    have := hone.2 hh
    simp at this
end Go.Proofs.YtkceipkedmfeiaaGreatDoor.XL
