/- The law's own helpers answer: Great and right. -/
import Derived.Test.YtkceipkedmfeiaaGreatDoorLK
import Derived.Test.YtkceipkedmfeiaaGreatDoorP27all
import Derived.Test.YtkceipkedmfeiaaGreatDoorX30x2
import Derived.Test.YtkceipkedmfeiaaGreatDoorX30x5
namespace Go.Proofs.YtkceipkedmfeiaaGreatDoor.XL
open Go Go.RowKit Go.Shelf Go.Proofs.YtkceipkedmfeiaaGreatDoorW.PrintWords Go.Proofs.YtkceipkedmfeiaaGreatDoorW.PrintLast Go.Proofs.YtkceipkedmfeiaaGreatDoorW.PrintMore Go.Proofs.YtkceipkedmfeiaaGreatDoor.X30 Go.Proofs.YtkceipkedmfeiaaGreatDoor.P27

theorem w64s (i : Nat) (h : i < 9223372036854775807) : wrap64 ((i : Int) + 1) = ((i + 1 : Nat) : Int) := by unfold wrap64; omega
theorem w64p (i : Nat) (h : i ≤ 9223372036854775807) (h0 : 0 < i) : wrap64 ((i : Int) - 1) = ((i - 1 : Nat) : Int) := by unfold wrap64; omega
theorem right_tot (l : List NP) (hl : l.length ≤ 9223372036854775807) : ∀ (m i : Nat), i + m = l.length → ∃ r, Ev (fun k => voussoirlaw28_right.l0 k l (l.length : Int) (i : Int)) r := by
  intro m
  induction m with
  | zero =>
    intro i hi
    refine ⟨true, 1, fun k hk => ?_⟩
    obtain ⟨k, rfl⟩ : ∃ n, k = n + 1 := ⟨k - 1, by omega⟩
    simp only [voussoirlaw28_right.l0]
    rw [if_neg (by omega)]
  | succ m ih =>
    intro i hi
    obtain ⟨r, K, hr⟩ := ih (i + 1) (by omega)
    obtain ⟨⟨p1, p2, p3, p4, p5⟩, ⟨K2, hp⟩, -⟩ := ref_ev _ (rd_T50 l (i : Int)).f0 (Nat.le_refl _)
    have key : ∀ k, K + K2 + 1 ≤ k → voussoirlaw28_right.l0 k l (l.length : Int) (i : Int) = (if p5 = 0 then (if (i : Int) > 0 then (if ((Op.bytesLess (((rd_T50 l (((i - 1 : Nat) : Int))).f0).toList) (((rd_T50 l (i : Int)).f0).toList)) = true) then some r else some false) else some r) else some false) := by
      intro k hk
      obtain ⟨k, rfl⟩ : ∃ n, k = n + 1 := ⟨k - 1, by omega⟩
      have hp1 : voussoirref27_Parse.f k (rd_T50 l (i : Int)).f0 = some (p1, p2, p3, p4, p5) := hp k (by omega)
      have hr1 : voussoirlaw28_right.l0 k l (l.length : Int) ((i + 1 : Nat) : Int) = some r := hr k (by omega)
      simp only [voussoirlaw28_right.l0]
      rw [if_pos (by omega), if_pos (by omega), if_pos (by omega), hp1, Option.bind_some, w64s i (by omega), hr1]
      by_cases h0 : 0 < i
      · rw [w64p i (by omega) h0, if_pos (show (0 : Int) ≤ ((i - 1 : Nat) : Int) by omega), if_pos (show ((i - 1 : Nat) : Int) < (l.length : Int) by omega)]
      · rw [if_neg (show ¬ (i : Int) > 0 by omega), if_neg (show ¬ (i : Int) > 0 by omega)]
    obtain ⟨v, hv⟩ : ∃ v, (if p5 = 0 then (if (i : Int) > 0 then (if ((Op.bytesLess (((rd_T50 l (((i - 1 : Nat) : Int))).f0).toList) (((rd_T50 l (i : Int)).f0).toList)) = true) then some r else some false) else some r) else some false) = some v := by
      repeat' split
      all_goals exact ⟨_, rfl⟩
    exact ⟨v, K + K2 + 1, fun k hk => (key k hk).trans hv⟩
theorem right_any (A : Option Addr) (c : Nat) (l : List NP) (w : World) (h : Kd.C k50 w A l.length l) (hc : l.length ≤ c) (hl : l.length ≤ 9223372036854775807) : ∃ r, Calls Tryz.prog 10 #[.slice A l.length c] w fun e w' => e = .returned (.bool r) ∧ Below w.heap.size w w' := by
  obtain ⟨r, K, hr⟩ := right_tot l hl l.length 0 (by omega)
  exact ⟨r, (voussoirlaw28_right.calls K A c l r w h hc (hr K (Nat.le_refl _))).mono fun e w' hh => ⟨hh.1, by obtain ⟨m, rfl⟩ := hh.2; exact pw_below_drewN (Below.refl _ _) m⟩⟩

theorem great2_tot (L : List S43) (hl : L.length ≤ 17592186044416) : ∀ (m i : Nat) (a b : Int), i + m = L.length → ∃ r, ∀ k, m < k → voussoirlaw28_Great.l2 k a b L (L.length : Int) (i : Int) = some r := by
  intro m
  induction m with
  | zero =>
    intro i a b hi
    obtain ⟨v, hv⟩ : ∃ v : Int, (if a > 2000 then (some 1) else (if b > 60 then (some 1) else (some 0))) = some v := by
      repeat' split
      all_goals exact ⟨_, rfl⟩
    refine ⟨v, fun k hk => ?_⟩
    obtain ⟨k, rfl⟩ : ∃ n, k = n + 1 := ⟨k - 1, by omega⟩
    rw [voussoirlaw28_Great.l2, if_neg (by omega)]
    exact hv
  | succ m ih =>
    intro i a b hi
    obtain ⟨r, hr⟩ := ih (i + 1) a (wrap64 (b + (wrap64 (1 + (((rd_T43 L (i : Int)).f2).length : Int))))) (by omega)
    refine ⟨r, fun k hk => ?_⟩
    obtain ⟨k, rfl⟩ : ∃ n, k = n + 1 := ⟨k - 1, by omega⟩
    rw [voussoirlaw28_Great.l2, if_pos (by omega), if_pos (by omega), if_pos (by omega), w64s i (by omega)]
    exact hr k (by omega)
theorem great1_tot (L : List S43) (hl : L.length ≤ 17592186044416) (t : List NP) (ht : t.length ≤ 9223372036854775807) : ∀ (m i : Nat) (a : Int), i + m = t.length → ∃ r, ∀ k, m + L.length + 1 < k → voussoirlaw28_Great.l1 k L a t (t.length : Int) (i : Int) = some r := by
  intro m
  induction m with
  | zero =>
    intro i a hi
    obtain ⟨r, hr⟩ := great2_tot L hl L.length 0 a 0 (by omega)
    refine ⟨r, fun k hk => ?_⟩
    obtain ⟨k, rfl⟩ : ∃ n, k = n + 1 := ⟨k - 1, by omega⟩
    rw [voussoirlaw28_Great.l1, if_neg (by omega)]
    exact hr k (by omega)
  | succ m ih =>
    intro i a hi
    obtain ⟨r, hr⟩ := ih (i + 1) (wrap64 (a + (wrap64 (10 + (((rd_T50 t (i : Int)).f0).size : Int))))) (by omega)
    refine ⟨r, fun k hk => ?_⟩
    obtain ⟨k, rfl⟩ : ∃ n, k = n + 1 := ⟨k - 1, by omega⟩
    rw [voussoirlaw28_Great.l1, if_pos (by omega), if_pos (by omega), if_pos (by omega), w64s i (by omega)]
    exact hr k (by omega)
theorem great0_tot (L : List S43) (hl : L.length ≤ 17592186044416) (t : List NP) (ht : t.length ≤ 9223372036854775807) (adj : List ByteArray) (ha : adj.length ≤ 9223372036854775807) : ∀ (m i : Nat) (a : Int), i + m = adj.length → ∃ r, ∀ k, m + t.length + L.length + 2 < k → voussoirlaw28_Great.l0 k L t a adj (adj.length : Int) (i : Int) = some r := by
  intro m
  induction m with
  | zero =>
    intro i a hi
    obtain ⟨r, hr⟩ := great1_tot L hl t ht t.length 0 a (by omega)
    refine ⟨r, fun k hk => ?_⟩
    obtain ⟨k, rfl⟩ : ∃ n, k = n + 1 := ⟨k - 1, by omega⟩
    rw [voussoirlaw28_Great.l0, if_neg (by omega)]
    exact hr k (by omega)
  | succ m ih =>
    intro i a hi
    obtain ⟨r, hr⟩ := ih (i + 1) (wrap64 (a + (wrap64 (10 + ((rdOf ByteArray.empty adj (i : Int)).size : Int))))) (by omega)
    refine ⟨r, fun k hk => ?_⟩
    obtain ⟨k, rfl⟩ : ∃ n, k = n + 1 := ⟨k - 1, by omega⟩
    rw [voussoirlaw28_Great.l0, if_pos (by omega), if_pos (by omega), if_pos (by omega), w64s i (by omega)]
    exact hr k (by omega)
theorem Great_any (L : List S43) (A0 : Option Addr) (c0 : Nat) (t : List NP) (A1 : Option Addr) (c1 : Nat) (T : ByteArray) (adj : List ByteArray) (A2 : Option Addr) (c2 : Nat) (w : World)
    (h0 : Kd.C k43 w A0 L.length L) (l0 : L.length ≤ c0) (h1 : Kd.C k50 w A1 t.length t) (l1 : t.length ≤ c1) (h2 : Kd.C Kd.string w A2 adj.length adj) (l2 : adj.length ≤ c2) (lL : L.length ≤ 17592186044416) (lt : t.length ≤ 9223372036854775807) (la : adj.length ≤ 9223372036854775807) :
    ∃ r : Int, Calls Tryz.prog 9 #[.slice A0 L.length c0, .slice A1 t.length c1, .agg #[.string T, .slice A2 adj.length c2]] w fun e w' => e = .returned (.int .i64 r) ∧ Below w.heap.size w w' := by
  obtain ⟨r, hr⟩ := great0_tot L lL t lt adj la adj.length 0 T.size (by omega)
  exact ⟨r, voussoirlaw28_Great.calls (adj.length + t.length + L.length + 3) A0 c0 L A1 c1 t T A2 c2 adj r w h0 l0 h1 l1 h2 l2 (hr _ (by omega))⟩
end Go.Proofs.YtkceipkedmfeiaaGreatDoor.XL
