/- The law's helper right: where it answers true, the table is in strictly ascending order and its terms are terms. -/
import Derived.Test.YtkceipkedmfeiaaGreatDoorTOT
import Derived.Test.YtkceipkedmfeiaaGreatDoorSELFP
namespace Go.Proofs.YtkceipkedmfeiaaGreatDoor.XL
open Go Go.RowKit Go.Shelf Go.Proofs.YtkceipkedmfeiaaGreatDoorW.PrintWords Go.Proofs.YtkceipkedmfeiaaGreatDoorW.PrintLast Go.Proofs.YtkceipkedmfeiaaGreatDoorW.PrintMore Go.Proofs.YtkceipkedmfeiaaGreatDoor.X30 Go.Proofs.YtkceipkedmfeiaaGreatDoor.P27

def okFrom (l : List NP) (i : Nat) : Prop := ∀ (j : Nat) (h : j < l.length), i ≤ j → Facename.Term l[j].f0.data.toList ∧ (0 < j → l[j - 1].f0.toList < l[j].f0.toList)
theorem right_spec (l : List NP) (hl : l.length ≤ 9223372036854775807) : ∀ (m i : Nat), i + m = l.length → ∃ r, Ev (fun k => voussoirlaw28_right.l0 k l (l.length : Int) (i : Int)) r ∧ (r = true → okFrom l i) := by
  intro m
  induction m with
  | zero =>
    intro i hi
    refine ⟨true, ⟨1, fun k hk => ?_⟩, fun _ j h hj => by omega⟩
    obtain ⟨k, rfl⟩ : ∃ n, k = n + 1 := ⟨k - 1, by omega⟩
    simp only [voussoirlaw28_right.l0]
    rw [if_neg (by omega)]
  | succ m ih =>
    intro i hi
    obtain ⟨r, ⟨K, hr⟩, hok⟩ := ih (i + 1) (by omega)
    have hlt : i < l.length := by omega
    have hrd := rd50 l i hlt
    obtain ⟨⟨p1, p2, p3, p4, p5⟩, ⟨K2, hp⟩, hP⟩ := ref_ev _ (rd_T50 l (i : Int)).f0 (Nat.le_refl _)
    have key : ∀ k, K + K2 + 1 ≤ k → voussoirlaw28_right.l0 k l (l.length : Int) (i : Int) = (if p5 = 0 then (if (i : Int) > 0 then (if ((Op.bytesLess (((rd_T50 l (((i - 1 : Nat) : Int))).f0).toList) (((rd_T50 l (i : Int)).f0).toList)) = true) then some r else some false) else some r) else some false) := by
      intro k hk
      obtain ⟨k, rfl⟩ : ∃ n, k = n + 1 := ⟨k - 1, by omega⟩
      have hp1 : voussoirref27_Parse.f k (rd_T50 l (i : Int)).f0 = some (p1, p2, p3, p4, p5) := hp k (by omega)
      have hr1 : voussoirlaw28_right.l0 k l (l.length : Int) ((i + 1 : Nat) : Int) = some r := hr k (by omega)
      simp only [voussoirlaw28_right.l0]
      rw [if_pos (by omega), if_pos (by omega), if_pos (by omega), hp1, Option.bind_some, w64s i (by omega), hr1]
      by_cases h0 : 0 < i
      · rw [w64p i (by omega) h0, if_pos (show (0 : Int) ≤ ((i - 1 : Nat) : Int) by omega), if_pos (show ((i - 1 : Nat) : Int) < (l.length : Int) by omega)]
      · rw [if_neg (show ¬ (i : Int) > 0 by omega), if_neg (show ¬ (i : Int) > 0 by omega)]
    by_cases h5 : p5 = 0
    · have hT : Facename.Term l[i].f0.data.toList := by
        rcases hP.code with ⟨_, h⟩ | ⟨h, _⟩
        · rwa [hrd] at h
        · simp only at h; omega
      by_cases h0 : (i : Int) > 0
      · by_cases hb : (Op.bytesLess (((rd_T50 l (((i - 1 : Nat) : Int))).f0).toList) (((rd_T50 l (i : Int)).f0).toList)) = true
        · refine ⟨r, ⟨K + K2 + 1, fun k hk => (key k hk).trans (by rw [if_pos h5, if_pos h0, if_pos hb])⟩, fun hr j hj hij => ?_⟩
          rcases Nat.eq_or_lt_of_le hij with rfl | hlt2
          · refine ⟨hT, fun _ => ?_⟩
            rw [rd50 l (i - 1) (by omega), hrd, bytesLess_eq] at hb
            exact of_decide_eq_true hb
          · exact hok hr j hj hlt2
        · exact ⟨false, ⟨K + K2 + 1, fun k hk => (key k hk).trans (by rw [if_pos h5, if_pos h0, if_neg hb])⟩, fun h => by cases h⟩
      · refine ⟨r, ⟨K + K2 + 1, fun k hk => (key k hk).trans (by rw [if_pos h5, if_neg h0])⟩, fun hr j hj hij => ?_⟩
        rcases Nat.eq_or_lt_of_le hij with rfl | hlt2
        · exact ⟨hT, fun h => by omega⟩
        · exact hok hr j hj hlt2
    · exact ⟨false, ⟨K + K2 + 1, fun k hk => (key k hk).trans (by rw [if_neg h5])⟩, fun h => by cases h⟩
theorem asc_of {l : List NP} (h : okFrom l 0) : asc l := by
  unfold asc
  rw [List.pairwise_iff_getElem]
  intro i j hi hj hij
  induction j with
  | zero => omega
  | succ j ih =>
    have h1 : l[j].f0.toList < l[j + 1].f0.toList := (h (j + 1) hj (Nat.zero_le _)).2 (by omega)
    rcases Nat.lt_or_ge i j with h2 | h2
    · exact List.lt_trans (ih (by omega) h2) h1
    · obtain rfl : i = j := by omega
      exact h1
theorem right_any2 (A : Option Addr) (c : Nat) (l : List NP) (w : World) (h : Kd.C k50 w A l.length l) (hc : l.length ≤ c) (hl : l.length ≤ 9223372036854775807) : ∃ r, (r = true → asc l ∧ ∀ x ∈ l, Facename.Term x.f0.data.toList) ∧ Calls Tryz.prog 10 #[.slice A l.length c] w fun e w' => e = .returned (.bool r) ∧ Below w.heap.size w w' := by
  obtain ⟨r, ⟨K, hr⟩, hok⟩ := right_spec l hl l.length 0 (by omega)
  refine ⟨r, fun hh => ⟨asc_of (hok hh), fun x hx => ?_⟩, (voussoirlaw28_right.calls K A c l r w h hc (hr K (Nat.le_refl _))).mono fun e w' hh => ⟨hh.1, by obtain ⟨m, rfl⟩ := hh.2; exact pw_below_drewN (Below.refl _ _) m⟩⟩
  obtain ⟨j, hj, rfl⟩ := List.mem_iff_getElem.1 hx
  exact (hok hh j hj (Nat.zero_le _)).1
theorem ground_no : ¬ Facename.Term groundS.data.toList := by
  intro h
  obtain ⟨r, ⟨K, hr⟩, hP⟩ := ref_ev _ groundS (Nat.le_refl _)
  have e : ∃ q, voussoirref27_Parse.f 20 groundS = some q ∧ q.2.2.2.2 = 3 := ⟨((⟨#[]⟩ : ByteArray), (⟨#[]⟩ : ByteArray), 0, (⟨#[]⟩ : ByteArray), 3), by kernel_rfl, rfl⟩
  obtain ⟨q, hq, hq3⟩ := e
  have h1 := at_rounds (g := fun k => voussoirref27_Parse.f k groundS) (fun k => voussoirref27_Parse.mono groundS k) (show 20 ≤ K + 20 by omega) hq
  have h2 := hr (K + 20) (by omega)
  simp only at h1 h2
  rw [h1] at h2
  obtain rfl := Option.some.inj h2
  rcases hP.code with ⟨h0, _⟩ | ⟨_, h0⟩
  · omega
  · exact h0 h
theorem term_ne_ground {s : ByteArray} (h : Facename.Term s.data.toList) : (s.toList == [103, 114, 111, 117, 110, 100]) = false := by
  rw [beq_eq_false_iff_ne]
  intro e
  have : s = groundS := ba_inj (e.trans (ByteArray.toList_eq groundS).symm)
  subst this
  exact ground_no h
end Go.Proofs.YtkceipkedmfeiaaGreatDoor.XL
