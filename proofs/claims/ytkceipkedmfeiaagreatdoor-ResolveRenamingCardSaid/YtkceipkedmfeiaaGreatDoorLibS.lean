/- strings.Join and strings.Split by the shelf's contracts, at the printer's own kinds: a row of strings that is read, a row of strings that the call makes. -/
import Derived.Test.YtkceipkedmfeiaaGreatDoorShelf
import Derived.Test.YtkceipkedmfeiaaGreatDoorEnv
import Derived.Test.YtkceipkedmfeiaaGreatDoorWWords
import Derived.Lib.SplitLaws
namespace Go.Proofs.YtkceipkedmfeiaaGreatDoor
open Go Go.RowKit Go.Shelf Go.Lib Go.Proofs.YtkceipkedmfeiaaGreatDoorW.PrintWords

theorem C_string_cells {w : World} {A : Option Addr} {xs : List ByteArray} (h : Kd.C Kd.string w A xs.length xs) (hn : 0 < xs.length) :
    ∃ b o, A = some ⟨b, o, none⟩ ∧ b < w.heap.size ∧ ∀ (j : Nat) x, xs[j]? = some x → w.cell? ⟨b, o + j, none⟩ = some (.string x) := by
  obtain ⟨ad, e, hc⟩ := h.2.2 hn
  have each : ∀ (j : Nat) x, xs[j]? = some x → w.cell? (ad.add j) = some (.string x) := by
    intro j x hj
    obtain ⟨c, hs, hr, hcell⟩ := hc j x hj
    have hr : c = [.string x] := hr
    subst hr
    have := hcell 0 (.string x) rfl
    have h1 : Kd.string.sz = 1 := rfl
    rw [h1, Nat.mul_one, Nat.add_zero] at this
    exact this
  have h0 := each 0 _ (List.getElem?_eq_getElem hn)
  have h0' : w.cell? ad = some (.string xs[0]) := by rw [← h0]; simp [Addr.add]
  obtain ⟨b, o, s⟩ := ad
  have hs : s = none := World.cell?_spot h0'
  subst hs
  refine ⟨b, o, e, World.block_lt_of_cell? w _ h0', fun j x hj => ?_⟩
  have := each j x hj
  rw [← this]
  unfold Addr.add
  split
  · next h => subst h; rfl
  · rfl

theorem strings_Join_C (A0 : Option Addr) (c0 : Nat) (l0 : List ByteArray) (a1 : ByteArray) (w : World) (hr0 : Kd.C Kd.string w A0 l0.length l0) (hc0 : l0.length ≤ c0)
    (h1 : (Lib.join (l0.map (·.data.toList)) a1.data.toList).length ≤ 140737488355328) (h2 : l0.length ≤ 140737488355328) :
    Calls Tryz.prog 37 #[.slice A0 l0.length c0, .string a1] w fun e w' => e = .returned (.string ⟨(Lib.join (l0.map (·.data.toList)) a1.data.toList).toArray⟩) ∧ Below w.heap.size w w' := by
  by_cases hn : 0 < l0.length
  · obtain ⟨b, o, rfl, hb, hcell⟩ := C_string_cells hr0 hn
    exact Tryz.strings_Join b o c0 l0 a1 w hcell hb h2 hc0 h1
  · obtain rfl : l0 = [] := List.eq_nil_of_length_eq_zero (by omega)
    exact (Tryz.strings_Join_none A0 c0 a1 w).mono fun e w' ⟨he, hw⟩ => ⟨he, hw ▸ Below.refl _ _⟩

theorem own_strs (w : World) (base : Nat) (xs : List ByteArray) (hb : base ≤ w.heap.size) (hm : xs.length ≤ 9223372036854775807) :
    Kd.R Kd.string 9 (w.alloc (.cells (xs.map Value.string).toArray 9)) base (fun k => w.heap.size ≤ k) (.slice (some ⟨w.heap.size, 0, none⟩) xs.length xs.length) xs := by
  refine ⟨fun k hk => ?_, xs.map Value.string, ⟨by rw [show Kd.string.sz = 1 from rfl]; simp, .inr ⟨w.heap.size, xs.length, (xs.map Value.string).toArray, rfl, hb, heap_alloc_new _ _, Nat.le_refl _, hm, by rw [show Kd.string.sz = 1 from rfl]; simp, ?_⟩⟩, ?_⟩
  · have : w.heap.size = k := by simpa [Value.ownBlock] using hk
    omega
  · have h1 : Kd.string.sz = 1 := rfl
    rw [h1, Nat.mul_one]
    simp only []
    exact List.take_of_length_le (by simp)
  · refine ⟨by rw [show Kd.string.sz = 1 from rfl]; simp, fun j p hj => ?_⟩
    have h1 : Kd.string.sz = 1 := rfl
    rw [h1, Nat.mul_one]
    show ((xs.map Value.string).drop j).take 1 = [Value.string p]
    have hj' : (xs.map Value.string)[j]? = some (Value.string p) := by rw [List.getElem?_map, hj]; rfl
    rw [List.take_one, List.head?_drop, hj']; rfl

theorem splitB_len (s sep : ByteArray) (h1 : 1 ≤ sep.size) : (Lib.splitB sep 0 (Lib.countB s sep) s).length = Lib.countB s sep + 1 := Lib.splitB_all sep h1 0 _ s rfl

theorem strings_Split_L (a0 a1 : ByteArray) (w : World) (hG : EnvL w) (hs : a0.size < 4294967281) (h1 : 1 ≤ a1.size) :
    Calls Tryz.prog 36 #[.string a0, .string a1] w fun e w' => ∃ v0_ : Value, e = .returned v0_ ∧ Kd.R Kd.string 9 w' w.heap.size (fun _ => True) v0_ (Lib.splitB a1 0 (Lib.countB a0 a1) a0) ∧ Below w.heap.size w w' := by
  obtain ⟨m, hm⟩ := hG.len
  refine (Tryz.strings_Split a0 a1 m w hs hm h1).mono ?_
  rintro e w' ⟨rfl, rfl⟩
  have hl := splitB_len a0 a1 h1
  rw [← hl]
  exact ⟨_, rfl, Kd.R_mono (own_strs w w.heap.size _ (Nat.le_refl _) (by have := Lib.countB_le a1 h1 a0.size a0 (Nat.le_refl _); rw [hl]; omega)) (fun _ _ => trivial), (Below.refl _ _).alloc (Nat.le_refl _) _⟩

theorem strings_Split_R (a0 a1 : ByteArray) (w : World) (hG : Env w) (hs : a0.size < 4294967281) (h1 : 1 ≤ a1.size) :
    Calls Tryz.prog 36 #[.string a0, .string a1] w fun e w' => ∃ v0_ : Value, e = .returned v0_ ∧ Kd.R Kd.string 9 w' w.heap.size (fun _ => True) v0_ (Lib.splitB a1 0 (Lib.countB a0 a1) a0) ∧ Below w.heap.size w w' := strings_Split_L a0 a1 w hG.toL hs h1

end Go.Proofs.YtkceipkedmfeiaaGreatDoor
