/- FeatureKinds: kinds 1 to 8 have a name that maps back to the kind, and as many fields as the table says; all others are rejected. -/
import Derived.Test.YtoccbcfjbingbaaGreatDoorFeatG
import Derived.Test.YtoccbcfjbingbaaGreatDoorX30x14
namespace Go.Proofs.YtoccbcfjbingbaaGreatDoor.P30
open Go Go.RowKit Go.Lib Go.Proofs.YtoccbcfjbingbaaGreatDoorW.PrintWords Go.Proofs.YtoccbcfjbingbaaGreatDoorW.PrintLast Go.Proofs.YtoccbcfjbingbaaGreatDoor.X30 Go.Proofs.Facename Go.Proofs.YtoccbcfjbingbaaGreatDoor.P27

theorem fields_in (n : Nat) (hn : n < 8) (id : ByteArray) : ∃ l : List S45, fieldsOf { FT.zero with id := id, kind := (n : Int) + 1 } = some ((kAt n).1, l) ∧ (l.length : Int) = rd [3, 3, 3, 1, 4, 3, 2, 2] n ∧ kindNo (kAt n).1 = ((n : Int) + 1, true) := by
  have e : resolve_Format.f ⟨#[]⟩ [] = some ⟨#[]⟩ := by decide +kernel
  match n, hn with
  | 0, _ => exact ⟨_, rfl, rfl, by decide +kernel⟩
  | 1, _ => exact ⟨_, rfl, rfl, by decide +kernel⟩
  | 2, _ => exact ⟨_, rfl, rfl, by decide +kernel⟩
  | 3, _ => exact ⟨_, rfl, rfl, by decide +kernel⟩
  | 4, _ => exact ⟨_, rfl, rfl, by decide +kernel⟩
  | 5, _ => exact ⟨_, rfl, rfl, by decide +kernel⟩
  | 6, _ => exact ⟨_, rfl, rfl, by decide +kernel⟩
  | 7, _ => exact ⟨_, rfl, rfl, by decide +kernel⟩

theorem FeatureKinds : voussoirlaw30_FeatureKinds.Pure := by
  intro a0 a1 h0 h1
  have ga : voussoirlaw30_alive.f = some true := rfl
  by_cases hs : 300 < a1.size
  · refine ⟨1, ?_⟩
    unfold voussoirlaw30_FeatureKinds.f
    rw [ga, Option.bind_some, if_pos rfl, if_pos (by omega)]
  obtain ⟨r, ⟨K1, e1⟩, hr⟩ := side_ev a1 (by omega)
  refine ⟨K1 + 1, ?_⟩
  have g1 : facename_New.f (K1) a1 sSide 0 = some r := e1 _ (by omega)
  unfold voussoirlaw30_FeatureKinds.f
  rw [ga, Option.bind_some, if_pos rfl, if_neg (by omega)]
  by_cases hk : 1 ≤ a0 ∧ a0 ≤ 8
  · obtain ⟨n, hn⟩ : ∃ n : Nat, a0 = (n : Int) + 1 := ⟨(a0 - 1).toNat, by omega⟩
    subst hn
    obtain ⟨l, f1, f2, f3⟩ := fields_in n (by omega) a1
    have f4 : feature_Fields.f a1 ((n : Int) + 1) ⟨#[]⟩ [] ⟨#[]⟩ [] ⟨#[]⟩ ⟨#[]⟩ ⟨#[]⟩ ⟨#[]⟩ ⟨#[]⟩ ⟨#[]⟩ = some ((kAt n).1, l) := f1
    have f5 : feature_KindByName.f (kAt n).1 = some ((n : Int) + 1, true) := congrArg some f3
    rw [f4, Option.bind_some, if_neg (by omega), decide_eq_false (by omega)]
    simp only [voussoirlaw30_FeatureKinds.j0]
    have hw : wrap64 ((n : Int) + 1 - 1) = n := by unfold wrap64; omega
    rw [if_neg Bool.false_ne_true, f5, Option.bind_some, if_pos rfl, if_pos rfl, Option.bind_some, hw, if_pos (by omega), if_pos (by simp; omega), f2]
    simp
  · have f4 : feature_Fields.f a1 a0 ⟨#[]⟩ [] ⟨#[]⟩ [] ⟨#[]⟩ ⟨#[]⟩ ⟨#[]⟩ ⟨#[]⟩ ⟨#[]⟩ ⟨#[]⟩ = some (⟨#[]⟩, []) := by
      show fieldsOf _ = _
      unfold fieldsOf
      rw [if_neg hk]
    obtain ⟨c, hc, hc2⟩ : ∃ c, feature_Check.f (K1) a1 a0 ⟨#[]⟩ [] ⟨#[]⟩ [] ⟨#[]⟩ ⟨#[]⟩ ⟨#[]⟩ ⟨#[]⟩ ⟨#[]⟩ ⟨#[]⟩ = some c ∧ (c = 11 ∨ c = 7) := by
      show ∃ c, checkOf _ _ = some c ∧ _
      unfold checkOf
      simp only [g1, Option.bind_some]
      by_cases hz : r.2 = 0
      · rw [if_pos hz, if_neg hk]; exact ⟨_, rfl, .inl rfl⟩
      · rw [if_neg hz]; exact ⟨_, rfl, .inr rfl⟩
    have j : voussoirlaw30_FeatureKinds.j0 (K1 + 1) a0 a1 ⟨#[]⟩ [] true = some true := by
      simp only [voussoirlaw30_FeatureKinds.j0]
      rw [if_pos trivial, hc, Option.bind_some, if_pos (by decide +kernel), if_pos (by rfl)]
      rcases hc2 with rfl | rfl <;> rfl
    rw [f4, Option.bind_some]
    by_cases hl : a0 < 1
    · rw [if_pos hl]; exact j
    · rw [if_neg hl, decide_eq_true (by omega)]; exact j

end Go.Proofs.YtoccbcfjbingbaaGreatDoor.P30
