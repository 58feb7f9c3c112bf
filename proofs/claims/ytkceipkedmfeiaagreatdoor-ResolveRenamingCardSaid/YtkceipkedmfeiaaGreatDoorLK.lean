/- facename.Lookup: the first name of a table that is the term, and its plane. -/
import Derived.Test.YtkceipkedmfeiaaGreatDoorX30x2
import Derived.Test.YtkceipkedmfeiaaGreatDoorX30x0
import Derived.WalkKit
import Derived.WalkSpells
import Derived.Lib.Hide
import Derived.LoopN
import Derived.Deep.RegionWith
import Derived.RegionTactic
import Derived.Outline
import Derived.KernelRfl
namespace Go.Proofs.YtkceipkedmfeiaaGreatDoor.XL
open Go Go.RowKit Go.Shelf Go.Proofs.YtkceipkedmfeiaaGreatDoorW.PrintWords Go.Proofs.YtkceipkedmfeiaaGreatDoorW.PrintLast Go.Proofs.YtkceipkedmfeiaaGreatDoorW.PrintMore Go.Proofs.YtkceipkedmfeiaaGreatDoor.X30

abbrev NP := S50
abbrev PL := S33
def plCells (p : PL) : Array Value := #[.bool p.f0.f0, .string p.f0.f1, .bool p.f1.f0, .string p.f1.f1, .bool p.f2.f0, .string p.f2.f1, .bool p.f3.f0, .string p.f3.f1]
def npHit (s : ByteArray) (x : NP) : Bool := x.f0.toList == s.toList

set_option maxHeartbeats 800000 in
theorem Lookup1_any (s : ByteArray) (x : NP) (B : Nat) (W : World) (hc : W.cell? ⟨B, 0, none⟩ = some (.string s)) :
    Calls Tryz.prog 32 #[.agg #[.string x.f0, .bool x.f1.f0.f0, .string x.f1.f0.f1, .bool x.f1.f1.f0, .string x.f1.f1.f1, .bool x.f1.f2.f0, .string x.f1.f2.f1, .bool x.f1.f3.f0, .string x.f1.f3.f1], .pointer (some ⟨B, 0, none⟩)] W fun e w' => e = .returned (.bool (npHit s x)) ∧ Below W.heap.size W w' := by
  have hB : B < W.heap.size := World.block_lt_of_cell? _ _ hc
  have hne : B ≠ W.heap.size := by omega
  have hc2 : ∀ o, (W.alloc o).cell? ⟨B, 0, none⟩ = some (.string s) := fun o => (((Below.refl _ W).alloc (Nat.le_refl _) o).cell (p := ⟨B, 0, none⟩) hB).trans hc
  clear hc
  go_enter Tryz.func32, Tryz.ntmps32
  go_wp2_with fail
  go_ret
  exact ⟨rfl, (Below.refl _ W).alloc (Nat.le_refl _) _⟩

def firstAt (s : ByteArray) : List NP → Nat → Int
  | [], _ => -1
  | x :: l, n => if npHit s x = true then n else firstAt s l (n + 1)

set_option maxHeartbeats 1600000 in
theorem IndexFunc_any (s : ByteArray) (A : Option Addr) (c : Nat) (l : List NP) (B : Nat) (w : World) (hr : Kd.C k50 w A l.length l) (hl : l.length < 9223372036854775808) (hc : w.cell? ⟨B, 0, none⟩ = some (.string s)) :
    Calls Tryz.prog 31 #[.slice A l.length c, .func (.func 32) #[] #[.pointer (some ⟨B, 0, none⟩)]] w fun e w' => e = .returned (.int .i64 (firstAt s l 0)) ∧ Below w.heap.size w w' := by
  have R := Aside0.mk hr
  have HC := Aside0.mk hc
  have HB := Aside0.mk (Below.refl w.heap.size w)
  clear hr hc
  go_enter Tryz.func31, Tryz.ntmps31
  go_wp2_with fail
  go_loopw [8] (fun i wr => ∃ n : Nat, i = .int .i64 n ∧ n ≤ l.length ∧ Aside0 (firstAt s (l.drop n) n = firstAt s l 0) ∧ Aside0 (Below w.heap.size w wr)) (fun i _ => l.length - (RowKit.intOf i).toNat)
  case atStart => exact ⟨0, rfl, Nat.zero_le _, ⟨rfl⟩, HB⟩
  case round =>
    obtain ⟨n, rfl, hn, hF, HB2⟩ := hrel
    by_cases hlt : n < l.length
    · have p1 : (0 : Int) ≤ (n : Int) := by omega
      have q1 : (n : Int) < (l.length : Int) := by omega
      obtain ⟨ad, e9, x0, x1, x2, x3, x4, x5, x6, x7, x8⟩ := at_T50 (Kd.C_below R.out HB2.out) (n : Int) p1 q1
      subst e9
      have hd : firstAt s (l.drop n) n = if npHit s (rd_T50 l n) = true then (n : Int) else firstAt s (l.drop (n + 1)) (n + 1) := by
        rw [List.drop_eq_getElem_cons hlt, firstAt]
        unfold rd_T50
        rw [Int.toNat_natCast, List.getD_eq_getElem?_getD, List.getElem?_eq_getElem hlt]
        rfl
      have HD := Aside0.mk hd
      simp only [Int.toNat_natCast] at x0 x1 x2 x3 x4 x5 x6 x7 x8
      replace p1 := eq_true p1
      replace q1 := eq_true q1
      clear hd
      go_wp2_with fail
      refine (Lookup1_any s (rd_T50 l n) B _ ((HB2.out.cell (p := ⟨B, 0, none⟩) (World.block_lt_of_cell? _ _ HC.out)).trans HC.out)).mono ?_
      rintro e1 w1 ⟨rfl, hb1⟩
      have HB3 := Aside0.mk (below_step HB2.out hb1)
      clear hb1 x0 x1 x2 x3 x4 x5 x6 x7 x8 HB2
      cases hh : npHit s (rd_T50 l n) with
      | true =>
        have HV := Aside0.mk (show (n : Int) = firstAt s l 0 from by rw [← hF.out, HD.out, if_pos hh])
        clear hh HD hF
        go_wp2_with fail
        go_ret
        exact ⟨congrArg (fun z => Ending.returned (.int .i64 z)) HV.out, HB3.out⟩
      | false =>
        have HV := Aside0.mk (show firstAt s (l.drop (n + 1)) (n + 1) = firstAt s l 0 from by rw [← hF.out, HD.out, if_neg (by rw [hh]; exact Bool.false_ne_true)])
        clear hh HD hF
        go_wp2_with fail
        go_roundw
        case rel => exact ⟨n + 1, by go_num, hlt, HV, HB3⟩
        case measure => simp [RowKit.intOf]; omega
    · have HV := Aside0.mk (show (-1 : Int) = firstAt s l 0 from by rw [← hF.out, List.drop_eq_nil_of_le (by omega)]; rfl)
      clear hF
      go_wp2_with fail
      go_ret
      exact ⟨congrArg (fun z => Ending.returned (.int .i64 z)) HV.out, HB2.out⟩

/-- The plane of a term. -/
def lookup (s : ByteArray) (l : List NP) : Option PL := (l.find? (npHit s)).map (·.f1)
theorem firstAt_spec (s : ByteArray) : ∀ (l : List NP) (n : Nat), (firstAt s l n = -1 ∧ l.find? (npHit s) = none) ∨ ∃ (k : Nat) (h : k < l.length), firstAt s l n = ((n + k : Nat) : Int) ∧ l.find? (npHit s) = some l[k]
  | [], n => .inl ⟨rfl, rfl⟩
  | x :: l, n => by
    cases h : npHit s x with
    | true => exact .inr ⟨0, by simp, by simp [firstAt, h], by simp [h]⟩
    | false =>
      rcases firstAt_spec s l (n + 1) with ⟨h1, h2⟩ | ⟨k, hk, h1, h2⟩
      · exact .inl ⟨by simp [firstAt, h, h1], by simp [h, h2]⟩
      · exact .inr ⟨k + 1, by simp; omega, by simp [firstAt, h, h1]; omega, by simp [h, h2]⟩
def plZ : PL := ⟨⟨false, ⟨#[]⟩⟩, ⟨false, ⟨#[]⟩⟩, ⟨false, ⟨#[]⟩⟩, ⟨false, ⟨#[]⟩⟩⟩
def lookR (s : ByteArray) (l : List NP) : PL × Bool := match lookup s l with | some p => (p, true) | none => (plZ, false)

set_option maxHeartbeats 1600000 in
theorem Lookup_any (s : ByteArray) (A : Option Addr) (c : Nat) (l : List NP) (w : World) (hr : Kd.C k50 w A l.length l) (hl : l.length < 9223372036854775808) :
    Calls Tryz.prog 13 #[.slice A l.length c, .string s] w fun e w' => e = .returned (.tuple #[.agg (plCells (lookR s l).1), .bool (lookR s l).2]) ∧ Below w.heap.size w w' := by
  have R := Aside0.mk hr
  have HB0 := Aside0.mk (below_alloc (below_alloc (Below.refl w.heap.size w) (.cells #[.string s] 9)) (.cells (plCells plZ) 33))
  have K0 : Aside0 (((w.alloc (.cells #[.string s] 9)).alloc (.cells (plCells plZ) 33)).heap[w.heap.size + 1]? = some (.cells (plCells plZ) 33 (0, 0))) := ⟨by
    have := blk_new (w.alloc (.cells #[.string s] 9)) (.cells (plCells plZ) 33)
    rwa [show (w.alloc (.cells #[.string s] 9)).heap.size = w.heap.size + 1 from Array.size_push _] at this⟩
  have C0 := Aside0.mk (blk_cell (blk_alloc (blk_new w (.cells #[.string s] 9)) (.cells (plCells plZ) 33)) 0)
  clear hr
  have hmf : ∀ (fn : Fn) (first cap : Array Value) (w : World), (Instr.makeFunc fn first cap).run Tryz.prog w = .ok (.func fn first cap) w := fun _ _ _ _ => rfl
  go_enter Tryz.func13, Tryz.ntmps13
  go_wp2_with fail
  refine (IndexFunc_any s A c l w.heap.size _ (Kd.C_below R.out HB0.out) hl C0.out).mono ?_
  rintro e1 w1 ⟨rfl, hb1⟩
  have HB1 := Aside0.mk (below_step HB0.out hb1)
  have K1 := Aside0.mk (blk_below K0.out hb1)
  clear hb1 HB0 K0 C0
  have r0 := blk_frozen K1.out 0
  have r1 := blk_frozen K1.out 1
  have r2 := blk_frozen K1.out 2
  have r3 := blk_frozen K1.out 3
  have r4 := blk_frozen K1.out 4
  have r5 := blk_frozen K1.out 5
  have r6 := blk_frozen K1.out 6
  have r7 := blk_frozen K1.out 7
  have s0 : _ = some (Value.bool false) := blk_cell K1.out 0
  have s1 : _ = some (Value.string ⟨#[]⟩) := blk_cell K1.out 1
  have s2 : _ = some (Value.bool false) := blk_cell K1.out 2
  have s3 : _ = some (Value.string ⟨#[]⟩) := blk_cell K1.out 3
  have s4 : _ = some (Value.bool false) := blk_cell K1.out 4
  have s5 : _ = some (Value.string ⟨#[]⟩) := blk_cell K1.out 5
  have s6 : _ = some (Value.bool false) := blk_cell K1.out 6
  have s7 : _ = some (Value.string ⟨#[]⟩) := blk_cell K1.out 7
  rcases firstAt_spec s l 0 with ⟨h1, h2⟩ | ⟨k, hk, h1, h2⟩
  · have HR := Aside0.mk (show lookR s l = (plZ, false) from by unfold lookR lookup; rw [h2]; rfl)
    rw [h1]
    clear h1 h2
    go_wp2_with fail
    refine bodyPost_ret (results_ct rfl _ _ (w.heap.size + 1) 33 (plCells plZ) (0, 0) _ rfl (blk_put (blk_put (blk_put (blk_put (blk_put (blk_put (blk_put (blk_put K1.out 0 (.bool false) rfl) 1 (.string ⟨#[]⟩) rfl) 2 (.bool false) rfl) 3 (.string ⟨#[]⟩) rfl) 4 (.bool false) rfl) 5 (.string ⟨#[]⟩) rfl) 6 (.bool false) rfl) 7 (.string ⟨#[]⟩) rfl) Tryz.underlying33 rfl (by kernel_rfl)) rfl ?_
    exact ⟨by rw [HR.out]; rfl, (below_set (below_set (below_set (below_set (below_set (below_set (below_set (below_set HB1.out (Nat.le_succ _)) (Nat.le_succ _)) (Nat.le_succ _)) (Nat.le_succ _)) (Nat.le_succ _)) (Nat.le_succ _)) (Nat.le_succ _)) (Nat.le_succ _))⟩
  · obtain ⟨x, hx⟩ : ∃ x, x = l[k] := ⟨_, rfl⟩
    have HR := Aside0.mk (show lookR s l = (x.f1, true) from by unfold lookR lookup; rw [h2, hx]; rfl)
    have p1 : (0 : Int) ≤ (k : Int) := by omega
    have q1 : (k : Int) < (l.length : Int) := by omega
    obtain ⟨ad, e9, x0, x1, x2, x3, x4, x5, x6, x7, x8⟩ := at_T50 (Kd.C_below R.out HB1.out) (k : Int) p1 q1
    subst e9
    have hrd : rd_T50 l (k : Int) = x := by
      unfold rd_T50
      rw [Int.toNat_natCast, List.getD_eq_getElem?_getD, List.getElem?_eq_getElem hk, hx]
      rfl
    rw [hrd] at x0 x1 x2 x3 x4 x5 x6 x7 x8
    simp only [Int.toNat_natCast] at x0 x1 x2 x3 x4 x5 x6 x7 x8
    replace p1 := eq_true p1
    replace q1 := eq_true q1
    rw [h1, Nat.zero_add]
    clear h1 h2 hrd hx x0
    go_wp2_with fail
    refine bodyPost_ret (results_ct rfl _ _ (w.heap.size + 1) 33 (plCells x.f1) (0, 0) _ rfl (blk_put (blk_put (blk_put (blk_put (blk_put (blk_put (blk_put (blk_put K1.out 0 (.bool x.f1.f0.f0) rfl) 1 (.string x.f1.f0.f1) rfl) 2 (.bool x.f1.f1.f0) rfl) 3 (.string x.f1.f1.f1) rfl) 4 (.bool x.f1.f2.f0) rfl) 5 (.string x.f1.f2.f1) rfl) 6 (.bool x.f1.f3.f0) rfl) 7 (.string x.f1.f3.f1) rfl) Tryz.underlying33 rfl (by kernel_rfl)) rfl ?_
    exact ⟨by rw [HR.out]; rfl, (below_set (below_set (below_set (below_set (below_set (below_set (below_set (below_set HB1.out (Nat.le_succ _)) (Nat.le_succ _)) (Nat.le_succ _)) (Nat.le_succ _)) (Nat.le_succ _)) (Nat.le_succ _)) (Nat.le_succ _)) (Nat.le_succ _))⟩
end Go.Proofs.YtkceipkedmfeiaaGreatDoor.XL
