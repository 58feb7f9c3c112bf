/- facename.number: the value of a canonical numeral in a range, walked; the library's Atoi and Itoa by their contracts. -/
import Derived.Test.YtkceipkedmfeiaaGreatDoorEnv
import Derived.Test.YtkceipkedmfeiaaGreatDoorPlain
import Derived.WalkKit
import Derived.WalkSpells
import Derived.Lib.Hide
import Derived.Deep.QuietTactic
import Derived.BigQuiet
import Derived.Deep.RegionWith
import Derived.Outline
namespace Go.Proofs.YtkceipkedmfeiaaGreatDoor
open Go Go.RowKit Go.Shelf

theorem atoiAll_bounds {l : List UInt8} {v : Int} (h : Lib.atoiAll l = .ok v) : -9223372036854775808 ≤ v ∧ v ≤ 9223372036854775807 := by
  unfold Lib.atoiAll at h
  split at h
  · cases h
  · simp only at h
    split at h
    · cases h
    · cases h
    · split at h
      · cases h
      · split at h
        · cases h
        · next c1 c2 =>
          injection h with h
          subst h
          split <;> omega

theorem number_any (s : ByteArray) (a b r1 : Int) (r2 : Bool) (w : World) (hG : Env w) (hs : s.size ≤ 281474976710656) (h : (match Facename.num s.data.toList a b with | some v => (v, true) | none => (0, false)) = (r1, r2)) :
    Calls Tryz.prog 93 #[.string s, .int .i64 a, .int .i64 b] w fun e w' => e = .returned (.tuple #[.int .i64 r1, .bool r2]) ∧ Below w.heap.size w w' := by
  unfold Facename.num at h
  cases hA : Lib.atoiAll s.data.toList
  · rename_i v
    rw [hA] at h
    have cA := Tryz.strconv_Atoi_ok s (by omega) v hA w
    have hv := atoiAll_bounds hA
    have cI := fun w1 (hG1 : Env w1) => Tryz.strconv_Itoa v hv.1 hv.2 w1 hG1.tab
    clear hA
    have body : ∀ (q : ByteArray), (⟨(Lib.itoa v).toArray⟩ : ByteArray) = q → ∀ (bq : Bool), (q.toList == s.toList) = bq → ∀ (b1 : Bool), decide (v < a) = b1 → ∀ (b2 : Bool), decide (b < v) = b2 →
        (if bq = true ∧ b1 = false ∧ b2 = false then (v, true) else (0, false)) = (r1, r2) →
        Calls Tryz.prog 93 #[.string s, .int .i64 a, .int .i64 b] w fun e w' => e = .returned (.tuple #[.int .i64 r1, .bool r2]) ∧ Below w.heap.size w w' := by
      intro q hq bq hbq b1 hb1 b2 hb2 hr
      rw [hq] at cI
      clear hq h hv hs
      cases bq <;> cases b1 <;> cases b2 <;> simp [Prod.mk.injEq] at hr <;> obtain ⟨rfl, rfl⟩ := hr
      all_goals
        go_enter Tryz.func93, Tryz.ntmps93
        go_wp2_with fail
        refine cA.mono ?_
        rintro e w1 ⟨rfl, hw⟩
        have hb : Below w.heap.size w w1 := by rcases hw with rfl | ⟨t, rfl⟩; exact .refl _ _; exact Lib.bytesWorld_below _ _ _
        clear hw
        go_wp2_with fail
        refine (cI w1 (hG.below hb)).mono ?_
        rintro e w2 ⟨rfl, kk, os, rfl⟩
        have hbb := hb.trans (Lib.below_grow w.heap.size w1 hb.size kk os)
        go_wp2_with fail
        go_ret2
        exact ⟨rfl, hbb⟩
    have e1 : ((⟨(Lib.itoa v).toArray⟩ : ByteArray).toList == s.toList) = decide (Lib.itoa v = s.data.toList) := by
      rw [Bool.eq_iff_iff]; simp [ByteArray.toList_eq]
    refine body _ rfl _ e1 _ rfl _ rfl ?_
    rw [← h]
    by_cases hc : Lib.itoa v = s.data.toList ∧ a ≤ v ∧ v ≤ b
    · simp only [hc, and_self, if_true]
      rw [if_pos ⟨by simp, by simp; omega, by simp; omega⟩]
    · simp only [hc, if_false]
      rw [if_neg]
      simp only [decide_eq_true_eq, decide_eq_false_iff_not]
      exact fun hx => hc ⟨hx.1, by omega, by omega⟩
  · rw [hA] at h
    simp only [Prod.mk.injEq] at h
    obtain ⟨rfl, rfl⟩ := h
    obtain ⟨tp, p, hv⟩ := hG.syn
    have cA := Tryz.strconv_Atoi_syntax_var s hs (fun v e => by rw [hA] at e; cases e) (fun e => by rw [hA] at e; cases e) tp p w hv
    clear hA hv hG
    go_enter Tryz.func93, Tryz.ntmps93
    go_wp2_with fail
    refine cA.mono ?_
    rintro e w1 ⟨N, rfl, hN0, hN, hb⟩
    clear hN hN0
    go_wp2_with fail
    go_ret2
    exact ⟨rfl, hb⟩
  · rw [hA] at h
    simp only [Prod.mk.injEq] at h
    obtain ⟨rfl, rfl⟩ := h
    obtain ⟨tp, p, hv⟩ := hG.rng
    have cA := Tryz.strconv_Atoi_range_var s hs hA tp p w hv
    clear hA hv hG
    go_enter Tryz.func93, Tryz.ntmps93
    go_wp2_with fail
    refine cA.mono ?_
    rintro e w1 ⟨N, rfl, hN0, hN, hb⟩
    clear hN hN0
    go_wp2_with fail
    go_ret2
    exact ⟨rfl, hb⟩

end Go.Proofs.YtkceipkedmfeiaaGreatDoor
