/- A row of strings of the call's own, sorted and compacted by the library. -/
import Derived.Test.YtkceipkedmfeiaaGreatDoorLK
import Derived.Test.YtkceipkedmfeiaaGreatDoorShelfB
import Derived.Sort.OwnSorted
import Derived.Lib.SlicesCompact
namespace Go.Proofs.YtkceipkedmfeiaaGreatDoor.XL
open Go Go.RowKit Go.Shelf Go.Sort Go.Proofs.YtkceipkedmfeiaaGreatDoorW.PrintWords Go.Proofs.YtkceipkedmfeiaaGreatDoorW.PrintLast Go.Proofs.YtkceipkedmfeiaaGreatDoorW.PrintMore Go.Proofs.YtkceipkedmfeiaaGreatDoor.X30

theorem ba_inj' {a b : ByteArray} (h : a.toList = b.toList) : a = b := by
  rw [ByteArray.toList_eq, ByteArray.toList_eq] at h
  exact ByteArray.ext (Array.toList_inj.1 h)
def toB (l : List UInt8) : ByteArray := ⟨l.toArray⟩
theorem toB_toList (s : ByteArray) : toB s.toList = s := by
  apply ba_inj'; rw [ByteArray.toList_eq]; simp [toB]
theorem toList_toB (l : List UInt8) : (toB l).toList = l := by rw [ByteArray.toList_eq]; simp [toB]
theorem map_toB (l : List (List UInt8)) : (l.map toB).map ByteArray.toList = l := by
  rw [List.map_map, show ByteArray.toList ∘ toB = id from funext toList_toB, List.map_id]
theorem encs_toList (xs : List ByteArray) : (xs.map ByteArray.toList).map encStr = encs Value.string xs := by
  rw [List.map_map, show encStr ∘ ByteArray.toList = Value.string from funext fun s => by show Value.string ⟨s.toList.toArray⟩ = _; exact congrArg Value.string (toB_toList s)]
  rfl
theorem encs_toB (l : List (List UInt8)) : l.map encStr = encs Value.string (l.map toB) := by rw [← encs_toList, map_toB]
def sortB (xs : List ByteArray) : List ByteArray := ((xs.map ByteArray.toList).mergeSort fun x y => decide (x ≤ y)).map toB
def compB (xs : List ByteArray) : List ByteArray := (Lib.compact (xs.map ByteArray.toList)).map toB
theorem sortB_length (xs : List ByteArray) : (sortB xs).length = xs.length := by simp [sortB]
theorem compact_length {α : Type} [Inhabited α] [DecidableEq α] (zs : List α) : (Lib.compact zs).length ≤ zs.length := by
  unfold Lib.compact Lib.compactUpTo
  rw [List.length_map]
  refine Nat.le_trans (List.length_filter_le _ _) ?_
  rw [List.length_range]
  exact Nat.le_refl _
theorem compB_length (xs : List ByteArray) : (compB xs).length ≤ xs.length := by
  have := compact_length (xs.map ByteArray.toList)
  rw [List.length_map] at this
  simpa [compB] using this

theorem Sort_any {e base : Nat} {ok : Nat → Prop} {v : Value} {xs : List ByteArray} {w : World} (h : Kd.R Kd.string e w base ok v xs) (hl : xs.length < 4611686018427387904) :
    Calls Tryz.prog 34 #[v] w fun en w' => en = .returned (.tuple #[]) ∧ Kd.R Kd.string e w' base ok v (sortB xs) ∧ w.grownBy w' v.ownBlock := by
  have ho := Kd.own_of_R h
  rcases ho.2 with ⟨rfl, h0⟩ | ⟨g, cap, cur, rfl, hbase, hb, h1, h2, h3, h4⟩
  · obtain rfl := List.eq_nil_of_length_eq_zero h0
    refine (Tryz.slices_Sort_string_none none 0 w).mono ?_
    rintro en w' ⟨rfl, rfl⟩
    refine ⟨rfl, ?_, grown_of_below (Below.refl _ _) _⟩
    rw [show sortB [] = [] by simp [sortB]]
    exact Kd.R_nil _ _ _ _ _
  · have hh := holds_of_block (ss := xs.map ByteArray.toList) hb (by rw [encs_toList, List.length_map]; simpa using h4)
    have hc := Tryz.slices_Sort_string g 0 cap (xs.map ByteArray.toList) w hh (Array.getElem?_eq_some_iff.1 hb).1 (by simpa using hl)
    rw [List.length_map] at hc
    refine hc.mono ?_
    rintro en w' ⟨rfl, n, os, rfl⟩
    have hs := ownsRow_sorted (n := n) (os := os) (ss := xs.map ByteArray.toList) (ts := (xs.map ByteArray.toList).mergeSort fun x y => decide (x ≤ y)) (by simp) hbase hb (by simpa using h1) h2 h3
    rw [encs_toB, List.length_map] at hs
    refine ⟨rfl, Kd.R_of_own (xs := sortB xs) (by rw [sortB_length]; exact hs) h.1, grownBy_sorted _⟩
theorem Compact_any {e base : Nat} {ok : Nat → Prop} {v : Value} {xs : List ByteArray} {w : World} (h : Kd.R Kd.string e w base ok v xs) :
    Calls Tryz.prog 35 #[v] w fun en w' => ∃ v', en = .returned v' ∧ Kd.R Kd.string e w' base ok v' (compB xs) ∧ v'.ownBlock = v.ownBlock ∧ w.grownBy w' v.ownBlock := by
  have ho := Kd.own_of_R h
  rcases ho.2 with ⟨rfl, h0⟩ | ⟨g, cap, cur, rfl, hbase, hb, h1, h2, h3, h4⟩
  · obtain rfl := List.eq_nil_of_length_eq_zero h0
    refine (Tryz.slices_Compact_string_empty none 0 w).mono ?_
    rintro en w' ⟨rfl, rfl⟩
    exact ⟨_, rfl, Kd.R_nil _ _ _ _ _, rfl, grown_of_below (Below.refl _ _) _⟩
  · have hh := holds_of_block (ss := xs.map ByteArray.toList) hb (by rw [encs_toList, List.length_map]; simpa using h4)
    have hc := Tryz.slices_Compact_string g 0 cap (xs.map ByteArray.toList) w hh (by rw [List.length_map]; exact Nat.le_trans h1 h2) (by rw [List.length_map]; exact h1)
    rw [List.length_map] at hc
    refine hc.mono ?_
    rintro en w' ⟨rfl, q, rfl⟩
    have hcl := compact_length (xs.map ByteArray.toList)
    rw [List.length_map] at hcl
    have hs := ownsRow_sorted (n := q) (os := #[]) (ss := xs.map ByteArray.toList) (ts := Lib.compact (xs.map ByteArray.toList) ++ List.replicate (xs.length - (Lib.compact (xs.map ByteArray.toList)).length) []) (by simp; omega) hbase hb (by simpa using h1) h2 h3
    have hg := grownBy_sorted (w := w) (g := g) (n := q) (os := #[]) (Lib.compact (xs.map ByteArray.toList) ++ List.replicate (xs.length - (Lib.compact (xs.map ByteArray.toList)).length) []).toArray
    have e0 : ∀ W : World, grow W #[] = W := fun W => by simp [grow]
    rw [e0] at hs hg
    rw [List.length_map] at hs
    have ht := own_take hs hcl
    refine ⟨_, rfl, Kd.R_of_own (xs := compB xs) (v := .slice (some ⟨g, 0, none⟩) (Lib.compact (xs.map ByteArray.toList)).length cap) ?_ h.1, rfl, hg⟩
    have e1 : (compB xs).length = (Lib.compact (xs.map ByteArray.toList)).length := by simp [compB]
    rw [e1]
    have e2 : ∀ (C D : List (List UInt8)), ((C ++ D).map encStr).take (C.length * 1) = encs Value.string (C.map toB) := fun C D => by
      rw [Nat.mul_one, List.map_append, List.take_append_of_le_length (by simp), List.take_of_length_le (by simp), encs_toB]
    rw [e2] at ht
    exact ht
end Go.Proofs.YtkceipkedmfeiaaGreatDoor.XL
