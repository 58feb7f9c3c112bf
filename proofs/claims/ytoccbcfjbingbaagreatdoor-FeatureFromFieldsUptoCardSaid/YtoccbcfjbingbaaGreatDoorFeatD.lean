/- feature.places' closure; the methods of a slot. The methods of a slot: get, empty, set. feature.Fields, walked. -/
import Derived.Test.YtoccbcfjbingbaaGreatDoorFeatC
import Derived.Test.YtoccbcfjbingbaaGreatDoorX30x4
import Derived.BigRegion
import Derived.Test.YtoccbcfjbingbaaGreatDoorX30x7
import Derived.Test.YtoccbcfjbingbaaGreatDoorX30x6
namespace Go.Proofs.YtoccbcfjbingbaaGreatDoor.X30
open Go Go.RowKit Go.Shelf Go.Proofs.YtoccbcfjbingbaaGreatDoorW.PrintWords Go.Proofs.YtoccbcfjbingbaaGreatDoorW.PrintLast Go.Proofs.YtoccbcfjbingbaaGreatDoorW.PrintMore
theorem lit_C (w : World) (xs : List ByteArray) (hm : xs.length ≤ 9223372036854775807) : Kd.C Kd.string (w.alloc (.cells (xs.map Value.string).toArray 9)) (some ⟨w.heap.size, 0, none⟩) xs.length xs := by
 obtain ⟨A, c, e, _, h⟩ := Kd.R_reads (own_strs w w.heap.size xs (Nat.le_refl _) hm)
 simp only [Value.slice.injEq] at e
 rw [e.1]; exact h
theorem idx_xyz : slices_Index_string_string.f 9 [sX, sY, sZ] sX = some 0 ∧ slices_Index_string_string.f 9 [sX, sY, sZ] sY = some 1 ∧ slices_Index_string_string.f 9 [sX, sY, sZ] sZ = some 2 := by
 refine ⟨?_, ?_, ?_⟩ <;> decide +kernel
theorem index_xyz (s : ByteArray) (r : Int) (h : slices_Index_string_string.f 9 [sX, sY, sZ] s = some r) (W : World) (b : Nat) (hb : b = W.heap.size) : Calls Tryz.prog 40 #[.slice (some ⟨b, 0, none⟩) 3 3, .string s] (W.alloc (.cells #[.string ⟨#[120]⟩, .string ⟨#[121]⟩, .string ⟨#[122]⟩] 9)).drew fun e w' => e = .returned (.int .i64 r) ∧ ∃ n, w' = (W.alloc (.cells #[.string ⟨#[120]⟩, .string ⟨#[121]⟩, .string ⟨#[122]⟩] 9)).drewN n := by
 subst hb
 refine (slices_Index_string_string.calls 9 _ 3 [sX, sY, sZ] s r _ (Kd.C_below (lit_C W [sX, sY, sZ] (by decide)) (pw_below_drewN (Below.refl _ _) 1)) (by decide) h).mono ?_
 rintro e w' ⟨h1, h2⟩
 obtain ⟨n, hn⟩ := h2.out
 exact ⟨h1, 1 + n, by rw [hn, World.drewN_drewN]; rfl⟩
set_option maxHeartbeats 1600000 in
set_option maxRecDepth 100000 in
theorem places1_any (f : Fd) (B P : Nat) (w : World) (hc : w.cell? ⟨B, 0, none⟩ = some (.pointer (some ⟨P, 0, none⟩))) :
 Calls Tryz.prog 39 #[.string f.str, .pointer (some ⟨B, 0, none⟩)] w fun e w' => e = .returned (slotV P f) ∧ Below w.heap.size w w' := by
 have hBl := World.block_lt_of_cell? _ _ hc
 have hBn : B ≠ w.heap.size := by simp only at hBl; omega
 have hc2 : ∀ o, (w.alloc o).cell? ⟨B, 0, none⟩ = some (.pointer (some ⟨P, 0, none⟩)) := fun o => (((Below.refl _ w).alloc (Nat.le_refl _) o).cell (p := ⟨B, 0, none⟩) hBl).trans hc
 cases f
 case on =>
  show Calls _ _ #[.string ⟨#[111, 110]⟩, _] _ _
  go_enter Tryz.func39, Tryz.ntmps39
  go_wp2_with fail
  refine bodyPost_ret (results_cell_row rfl _ _ w.heap.size 59 #[.pointer (some ⟨P, 2, none⟩), .pointer none] (0, 0) _ rfl (blk_new _ _) Tryz.underlying59 rfl (by kernel_rfl)) rfl ?_
  exact ⟨rfl, below_alloc (Below.refl _ _) _⟩
 case and =>
  show Calls _ _ #[.string ⟨#[97, 110, 100]⟩, _] _ _
  go_enter Tryz.func39, Tryz.ntmps39
  go_wp2_with fail
  refine bodyPost_ret (results_cell_row rfl _ _ w.heap.size 59 #[.pointer (some ⟨P, 4, none⟩), .pointer none] (0, 0) _ rfl (blk_new _ _) Tryz.underlying59 rfl (by kernel_rfl)) rfl ?_
  exact ⟨rfl, below_alloc (Below.refl _ _) _⟩
 case sketch =>
  show Calls _ _ #[.string ⟨#[115, 107, 101, 116, 99, 104]⟩, _] _ _
  go_enter Tryz.func39, Tryz.ntmps39
  go_wp2_with fail
  refine bodyPost_ret (results_cell_row rfl _ _ w.heap.size 59 #[.pointer none, .pointer (some ⟨P, 6, none⟩)] (0, 0) _ rfl (blk_new _ _) Tryz.underlying59 rfl (by kernel_rfl)) rfl ?_
  exact ⟨rfl, below_alloc (Below.refl _ _) _⟩
 case amount =>
  show Calls _ _ #[.string ⟨#[97, 109, 111, 117, 110, 116]⟩, _] _ _
  go_enter Tryz.func39, Tryz.ntmps39
  go_wp2_with fail
  refine bodyPost_ret (results_cell_row rfl _ _ w.heap.size 59 #[.pointer none, .pointer (some ⟨P, 7, none⟩)] (0, 0) _ rfl (blk_new _ _) Tryz.underlying59 rfl (by kernel_rfl)) rfl ?_
  exact ⟨rfl, below_alloc (Below.refl _ _) _⟩
 case count =>
  show Calls _ _ #[.string ⟨#[99, 111, 117, 110, 116]⟩, _] _ _
  go_enter Tryz.func39, Tryz.ntmps39
  go_wp2_with fail
  refine bodyPost_ret (results_cell_row rfl _ _ w.heap.size 59 #[.pointer none, .pointer (some ⟨P, 8, none⟩)] (0, 0) _ rfl (blk_new _ _) Tryz.underlying59 rfl (by kernel_rfl)) rfl ?_
  exact ⟨rfl, below_alloc (Below.refl _ _) _⟩
 case x =>
  show Calls _ _ #[.string ⟨#[120]⟩, _] _ _
  have hI := index_xyz sX 0 idx_xyz.1
  go_enter Tryz.func39, Tryz.ntmps39
  go_wp2_with fail
  go_region_with (first | (go_at_call 40; refine (hI _ _ (by simp)).mono ?_; rintro e w' ⟨rfl, nq, rfl⟩))
  all_goals go_wp2_with fail
  all_goals refine bodyPost_ret (results_cell_row rfl _ _ w.heap.size 59 #[.pointer none, .pointer (some ⟨P, 9, none⟩)] (0, 0) _ rfl (blk_put (blk_put (blk_drewN (blk_alloc (blk_new w (.cells #[.pointer none, .pointer none] 59)) _) _) 0 _ rfl) 1 _ rfl) Tryz.underlying59 rfl (by kernel_rfl)) rfl ?_
  all_goals exact ⟨rfl, below_set (below_set (pw_below_drewN (below_alloc (below_alloc (Below.refl _ _) _) _) _) (Nat.le_refl _)) (Nat.le_refl _)⟩
 case y =>
  show Calls _ _ #[.string ⟨#[121]⟩, _] _ _
  have hI := index_xyz sY 1 idx_xyz.2.1
  go_enter Tryz.func39, Tryz.ntmps39
  go_wp2_with fail
  go_region_with (first | (go_at_call 40; refine (hI _ _ (by simp)).mono ?_; rintro e w' ⟨rfl, nq, rfl⟩))
  all_goals go_wp2_with fail
  all_goals refine bodyPost_ret (results_cell_row rfl _ _ w.heap.size 59 #[.pointer none, .pointer (some ⟨P, 10, none⟩)] (0, 0) _ rfl (blk_put (blk_put (blk_drewN (blk_alloc (blk_new w (.cells #[.pointer none, .pointer none] 59)) _) _) 0 _ rfl) 1 _ rfl) Tryz.underlying59 rfl (by kernel_rfl)) rfl ?_
  all_goals exact ⟨rfl, below_set (below_set (pw_below_drewN (below_alloc (below_alloc (Below.refl _ _) _) _) _) (Nat.le_refl _)) (Nat.le_refl _)⟩
 case z =>
  show Calls _ _ #[.string ⟨#[122]⟩, _] _ _
  have hI := index_xyz sZ 2 idx_xyz.2.2
  go_enter Tryz.func39, Tryz.ntmps39
  go_wp2_with fail
  go_region_with (first | (go_at_call 40; refine (hI _ _ (by simp)).mono ?_; rintro e w' ⟨rfl, nq, rfl⟩))
  all_goals go_wp2_with fail
  all_goals refine bodyPost_ret (results_cell_row rfl _ _ w.heap.size 59 #[.pointer none, .pointer (some ⟨P, 11, none⟩)] (0, 0) _ rfl (blk_put (blk_put (blk_drewN (blk_alloc (blk_new w (.cells #[.pointer none, .pointer none] 59)) _) _) 0 _ rfl) 1 _ rfl) Tryz.underlying59 rfl (by kernel_rfl)) rfl ?_
  all_goals exact ⟨rfl, below_set (below_set (pw_below_drewN (below_alloc (below_alloc (Below.refl _ _) _) _) _) (Nat.le_refl _)) (Nat.le_refl _)⟩
end Go.Proofs.YtoccbcfjbingbaaGreatDoor.X30
namespace Go.Proofs.YtoccbcfjbingbaaGreatDoor.X30
open Go Go.RowKit Go.Shelf Go.Proofs.YtoccbcfjbingbaaGreatDoorW.PrintWords Go.Proofs.YtoccbcfjbingbaaGreatDoorW.PrintLast Go.Proofs.YtoccbcfjbingbaaGreatDoorW.PrintMore
structure FeatAt (w : World) (P : Nat) (F : FT) (A3 : Option Addr) (c3 : Nat) (A5 : Option Addr) (c5 : Nat) : Prop where
 blk : w.heap[P]? = some (.cells (featCells F (.slice A3 F.onA.length c3) (.slice A5 F.andA.length c5)) 30 (0, 0))
 l3 : F.onA.length ≤ c3
 r3 : Kd.C Kd.string w A3 F.onA.length F.onA
 l5 : F.andA.length ≤ c5
 r5 : Kd.C Kd.string w A5 F.andA.length F.andA
theorem FeatAt.below {w w' : World} {P : Nat} {F : FT} {A3 A5 : Option Addr} {c3 c5 : Nat} (h : FeatAt w P F A3 c3 A5 c5) (hb : Below w.heap.size w w') : FeatAt w' P F A3 c3 A5 c5 :=
 ⟨blk_below h.blk hb, h.l3, Kd.C_below h.r3 hb, h.l5, Kd.C_below h.r5 hb⟩
def textOf (F : FT) (f : Fd) : Option ByteArray := if f.isRef then resolve_Format.f (F.refT f) (F.refA f) else some (F.plain f)
set_option maxHeartbeats 1600000 in
theorem get_ref (P o : Nat) (t : ByteArray) (A : Option Addr) (l : List ByteArray) (c : Nat) (r : ByteArray) (w : World) (h0 : w.cell? ⟨P, o, none⟩ = some (.string t)) (h1 : w.cell? ⟨P, o + 1, none⟩ = some (.slice A l.length c)) (hc : l.length ≤ c) (hC : Kd.C Kd.string w A l.length l) (h : resolve_Format.f t l = some r) :
 Calls Tryz.prog 31 #[.agg #[.pointer (some ⟨P, o, none⟩), .pointer none]] w fun e w' => e = .returned (.string r) ∧ Below w.heap.size w w' := by
 have HC := Aside0.mk hC
 have HH := Aside0.mk h
 have Hc := Aside0.mk hc
 have hPl := World.block_lt_of_cell? _ _ h0
 have k0 : ∀ o', (w.alloc o').cell? ⟨P, o, none⟩ = some (.string t) := fun o' => (((Below.refl _ w).alloc (Nat.le_refl _) o').cell (p := ⟨P, o, none⟩) hPl).trans h0
 have k1 : ∀ o', (w.alloc o').cell? ⟨P, o + 1, none⟩ = some (.slice A l.length c) := fun o' => (((Below.refl _ w).alloc (Nat.le_refl _) o').cell (p := ⟨P, o + 1, none⟩) hPl).trans h1
 clear hC h hc h0 h1
 go_enter Tryz.func31, Tryz.ntmps31
 go_wp2_with fail
 refine (resolve_Format.calls t A c l r _ (Kd.C_below HC.out (below_alloc (Below.refl _ _) _)) Hc.out HH.out).mono ?_
 rintro e1 w1 ⟨rfl, hb⟩
 go_wp2_with fail
 go_ret
 exact ⟨rfl, below_step (below_alloc (Below.refl _ _) _) hb⟩
set_option maxHeartbeats 1600000 in
theorem get_text (P o : Nat) (s : ByteArray) (w : World) (h0 : w.cell? ⟨P, o, none⟩ = some (.string s)) :
 Calls Tryz.prog 31 #[.agg #[.pointer none, .pointer (some ⟨P, o, none⟩)]] w fun e w' => e = .returned (.string s) ∧ Below w.heap.size w w' := by
 have hPl := World.block_lt_of_cell? _ _ h0
 have k0 : ∀ o', (w.alloc o').cell? ⟨P, o, none⟩ = some (.string s) := fun o' => (((Below.refl _ w).alloc (Nat.le_refl _) o').cell (p := ⟨P, o, none⟩) hPl).trans h0
 clear h0
 go_enter Tryz.func31, Tryz.ntmps31
 go_wp2_with fail
 go_ret
 exact ⟨rfl, below_alloc (Below.refl _ _) _⟩
theorem get_any (f : Fd) {w : World} {P : Nat} {F : FT} {A3 A5 : Option Addr} {c3 c5 : Nat} (hF : FeatAt w P F A3 c3 A5 c5) (r : ByteArray) (h : textOf F f = some r) :
 Calls Tryz.prog 31 #[slotV P f] w fun e w' => e = .returned (.string r) ∧ Below w.heap.size w w' := by
 cases f
 case on => exact get_ref P 2 _ _ _ _ r w ((blk_cell hF.blk 2).trans rfl) ((blk_cell hF.blk 3).trans rfl) hF.l3 hF.r3 h
 case and => exact get_ref P 4 _ _ _ _ r w ((blk_cell hF.blk 4).trans rfl) ((blk_cell hF.blk 5).trans rfl) hF.l5 hF.r5 h
 case sketch => obtain rfl := Option.some.inj h; exact get_text P 6 _ w ((blk_cell hF.blk 6).trans rfl)
 case amount => obtain rfl := Option.some.inj h; exact get_text P 7 _ w ((blk_cell hF.blk 7).trans rfl)
 case count => obtain rfl := Option.some.inj h; exact get_text P 8 _ w ((blk_cell hF.blk 8).trans rfl)
 case x => obtain rfl := Option.some.inj h; exact get_text P 9 _ w ((blk_cell hF.blk 9).trans rfl)
 case y => obtain rfl := Option.some.inj h; exact get_text P 10 _ w ((blk_cell hF.blk 10).trans rfl)
 case z => obtain rfl := Option.some.inj h; exact get_text P 11 _ w ((blk_cell hF.blk 11).trans rfl)
def emptyOf (F : FT) (f : Fd) : Bool := if f.isRef then (F.refT f).toList.isEmpty && decide ((F.refA f).length = 0) else (F.plain f).toList.isEmpty
set_option maxHeartbeats 1600000 in
theorem empty_ref (P o : Nat) (t : ByteArray) (A : Option Addr) (n c : Nat) (b : Bool) (w : World) (h0 : w.cell? ⟨P, o, none⟩ = some (.string t)) (h1 : w.cell? ⟨P, o + 1, none⟩ = some (.slice A n c)) (hb : (t.toList.isEmpty && decide (n = 0)) = b) :
 Calls Tryz.prog 34 #[.agg #[.pointer (some ⟨P, o, none⟩), .pointer none]] w fun e w' => e = .returned (.bool b) ∧ Below w.heap.size w w' := by
 have hPl := World.block_lt_of_cell? _ _ h0
 have k0 : ∀ o', (w.alloc o').cell? ⟨P, o, none⟩ = some (.string t) := fun o' => (((Below.refl _ w).alloc (Nat.le_refl _) o').cell (p := ⟨P, o, none⟩) hPl).trans h0
 have k1 : ∀ o', (w.alloc o').cell? ⟨P, o + 1, none⟩ = some (.slice A n c) := fun o' => (((Below.refl _ w).alloc (Nat.le_refl _) o').cell (p := ⟨P, o + 1, none⟩) hPl).trans h1
 clear h0 h1
 cases he : t.toList.isEmpty with
 | true =>
  have he2 : (t.toList == []) = true := by rw [List.isEmpty_iff] at he; rw [he]; rfl
  by_cases hn : n = 0
  · subst hn
    rw [he] at hb
    obtain rfl : true = b := hb
    go_enter Tryz.func34, Tryz.ntmps34
    go_wp2_with fail
    go_ret
    exact ⟨rfl, below_alloc (Below.refl _ _) _⟩
  · have hn1 : ((n : Int) == 0) = false := by rw [beq_eq_false_iff_ne]; omega
    rw [he, decide_eq_false hn] at hb
    obtain rfl : false = b := hb
    clear hn
    go_enter Tryz.func34, Tryz.ntmps34
    go_wp2_with fail
    go_ret
    exact ⟨rfl, below_alloc (Below.refl _ _) _⟩
 | false =>
  rw [he] at hb
  obtain rfl : false = b := hb
  go_enter Tryz.func34, Tryz.ntmps34
  go_wp2_with fail
  go_ret
  exact ⟨rfl, below_alloc (Below.refl _ _) _⟩
set_option maxHeartbeats 1600000 in
theorem empty_text (P o : Nat) (s : ByteArray) (w : World) (h0 : w.cell? ⟨P, o, none⟩ = some (.string s)) :
 Calls Tryz.prog 34 #[.agg #[.pointer none, .pointer (some ⟨P, o, none⟩)]] w fun e w' => e = .returned (.bool s.toList.isEmpty) ∧ Below w.heap.size w w' := by
 have hPl := World.block_lt_of_cell? _ _ h0
 have k0 : ∀ o', (w.alloc o').cell? ⟨P, o, none⟩ = some (.string s) := fun o' => (((Below.refl _ w).alloc (Nat.le_refl _) o').cell (p := ⟨P, o, none⟩) hPl).trans h0
 clear h0
 go_enter Tryz.func34, Tryz.ntmps34
 go_wp2_with fail
 go_ret
 exact ⟨rfl, below_alloc (Below.refl _ _) _⟩
theorem empty_any (f : Fd) {w : World} {P : Nat} {F : FT} {A3 A5 : Option Addr} {c3 c5 : Nat} (hF : FeatAt w P F A3 c3 A5 c5) :
 Calls Tryz.prog 34 #[slotV P f] w fun e w' => e = .returned (.bool (emptyOf F f)) ∧ Below w.heap.size w w' := by
 cases f
 case on => exact empty_ref P 2 _ _ _ _ _ w ((blk_cell hF.blk 2).trans rfl) ((blk_cell hF.blk 3).trans rfl) rfl
 case and => exact empty_ref P 4 _ _ _ _ _ w ((blk_cell hF.blk 4).trans rfl) ((blk_cell hF.blk 5).trans rfl) rfl
 case sketch => exact empty_text P 6 _ w ((blk_cell hF.blk 6).trans rfl)
 case amount => exact empty_text P 7 _ w ((blk_cell hF.blk 7).trans rfl)
 case count => exact empty_text P 8 _ w ((blk_cell hF.blk 8).trans rfl)
 case x => exact empty_text P 9 _ w ((blk_cell hF.blk 9).trans rfl)
 case y => exact empty_text P 10 _ w ((blk_cell hF.blk 10).trans rfl)
 case z => exact empty_text P 11 _ w ((blk_cell hF.blk 11).trans rfl)
set_option maxHeartbeats 1600000 in
theorem set_text (P o : Nat) (s s0 : ByteArray) (w : World) (h0 : w.cell? ⟨P, o, none⟩ = some (.string s0)) (hf : w.frozen? ⟨P, o, none⟩ = false) :
 Calls Tryz.prog 25 #[.agg #[.pointer none, .pointer (some ⟨P, o, none⟩)], .string s] w fun e w' => e = .returned (.bool true) ∧ w' = (w.alloc (.cells #[.pointer none, .pointer (some ⟨P, o, none⟩)] 59)).setCell ⟨P, o, none⟩ (.string s) := by
 have hPl := World.block_lt_of_cell? _ _ h0
 have k0 : ∀ o', (w.alloc o').cell? ⟨P, o, none⟩ = some (.string s0) := fun o' => (((Below.refl _ w).alloc (Nat.le_refl _) o').cell (p := ⟨P, o, none⟩) hPl).trans h0
 have k1 : ∀ o', (w.alloc o').frozen? ⟨P, o, none⟩ = false := fun o' => (((Below.refl _ w).alloc (Nat.le_refl _) o').frozen (p := ⟨P, o, none⟩) hPl).trans hf
 have hne : w.heap.size ≠ P := by simp only at hPl; omega
 clear h0 hf
 go_enter Tryz.func25, Tryz.ntmps25
 go_wp2_with fail
 go_ret
 exact ⟨rfl, rfl⟩
set_option maxHeartbeats 1600000 in
theorem set_ref (k P o : Nat) (s t0 r1 : ByteArray) (v0 : Value) (r2 : List ByteArray) (r3 : Bool) (w : World) (cs : Array Value) (hblk : w.heap[P]? = some (.cells cs 30 (0, 0))) (hc0 : cs[o]? = some (.string t0)) (hc1 : cs[o + 1]? = some v0)
 (hG : Env w) (h : resolve_Parse.f k s = some (r1, r2, r3)) :
 Calls Tryz.prog 25 #[.agg #[.pointer (some ⟨P, o, none⟩), .pointer none], .string s] w fun e w' => e = .returned (.bool r3) ∧ ∃ v : Value, w'.heap[P]? = some (.cells ((cs.setIfInBounds o (.string r1)).setIfInBounds (o + 1) v) 30 (0, 0)) ∧ Kd.Q Kd.string 9 w' w.heap.size (fun _ => True) v r2 ∧ KeepBut w w' P none ∧ Below P w w' := by
 have h0 := (blk_cell hblk o).trans hc0
 have h1 := (blk_cell hblk (o + 1)).trans hc1
 have hf := blk_frozen hblk o
 have hf1 := blk_frozen hblk (o + 1)
 have HBLK := Aside0.mk hblk
 clear hblk hc0 hc1
 have hPl := World.block_lt_of_cell? _ _ h0
 have k0 : ∀ o', (w.alloc o').cell? ⟨P, o, none⟩ = some (.string t0) := fun o' => (((Below.refl _ w).alloc (Nat.le_refl _) o').cell (p := ⟨P, o, none⟩) hPl).trans h0
 have k1 : ∀ o', (w.alloc o').cell? ⟨P, o + 1, none⟩ = some v0 := fun o' => (((Below.refl _ w).alloc (Nat.le_refl _) o').cell (p := ⟨P, o + 1, none⟩) hPl).trans h1
 have HH := Aside0.mk h
 have hG1 := hG.below (below_alloc (Below.refl w.heap.size w) (.cells #[.pointer (some ⟨P, o, none⟩), .pointer none] 59))
 have hb0 := below_alloc (Below.refl w.heap.size w) (.cells #[.pointer (some ⟨P, o, none⟩), .pointer none] 59)
 have hbx := blk_new w (.cells #[.pointer (some ⟨P, o, none⟩), .pointer none] 59)
 have hne : w.heap.size ≠ P := by simp only at hPl; omega
 have hpl : P < w.heap.size := hPl
 clear h hG
 go_enter Tryz.func25, Tryz.ntmps25
 go_wp2_with fail
 refine (resolve_Parse.calls k s r1 r2 r3 _ HH.out hG1).mono ?_
 rintro e1 w1 ⟨v, rfl, hQ, hb⟩
 have hbb := below_step hb0 hb
 obtain ⟨Av, cv, rfl, -, -⟩ := Kd.Q_reads hQ
 have x0 := (blk_cell (blk_below hbx hb) 0).trans rfl
 have x1 := (blk_cell (blk_below hbx hb) 1).trans rfl
 have hlt : w.heap.size < w1.heap.size := by have := hb.size; simp at this; omega
 have hne2 : w1.heap.size ≠ P := by omega
 have hne3 : w1.heap.size ≠ w.heap.size := by omega
 have p0 := (hbb.cell (p := ⟨P, o, none⟩) hpl).trans h0
 have p1 := (hbb.cell (p := ⟨P, o + 1, none⟩) hpl).trans h1
 have f0 := (hbb.frozen (p := ⟨P, o, none⟩) hpl).trans hf
 have f1 := (hbb.frozen (p := ⟨P, o + 1, none⟩) hpl).trans hf1
 have hpl1 : P < w1.heap.size := by omega
 have p0a : ∀ o', (w1.alloc o').cell? ⟨P, o, none⟩ = some (.string t0) := fun o' => (((Below.refl _ w1).alloc (Nat.le_refl _) o').cell (p := ⟨P, o, none⟩) hpl1).trans p0
 have p1a : ∀ o', (w1.alloc o').cell? ⟨P, o + 1, none⟩ = some v0 := fun o' => (((Below.refl _ w1).alloc (Nat.le_refl _) o').cell (p := ⟨P, o + 1, none⟩) hpl1).trans p1
 have f0a : ∀ o', (w1.alloc o').frozen? ⟨P, o, none⟩ = false := fun o' => (((Below.refl _ w1).alloc (Nat.le_refl _) o').frozen (p := ⟨P, o, none⟩) hpl1).trans f0
 have f1a : ∀ o', (w1.alloc o').frozen? ⟨P, o + 1, none⟩ = false := fun o' => (((Below.refl _ w1).alloc (Nat.le_refl _) o').frozen (p := ⟨P, o + 1, none⟩) hpl1).trans f1
 have HQ := Aside0.mk (Kd.Q_lower (base' := w.heap.size) hQ (by simp))
 have HB := Aside0.mk hbb
 clear h0 h1 hf hf1 k0 k1 hb hbb hQ hG1 hb0 hbx
 go_wp2_with fail
 go_ret
 have b1 := blk_below HBLK.out HB.out
 refine ⟨rfl, _, blk_alloc (blk_set (blk_set b1 o _) (o + 1) _) _, ?_, ?_, ?_⟩
 · exact Kd.Q_below (Kd.Q_mono (Kd.Q_far (p := ⟨P, o + 1, none⟩) (Kd.Q_far (p := ⟨P, o, none⟩) (Kd.Q_types HQ.out b1 (by decide)) (fun _ hk => hk.2) _) (fun _ hk => hk.2) _) (fun _ _ => trivial)) (below_alloc (Below.refl _ _) _)
 · exact (((KeepBut.of_below HB.out P none).set_ o _).set_ (o + 1) _).trans (KeepBut.of_grown (World.grownBy_alloc _ _ none) P) (.inl rfl)
 · exact (((HB.out.mono (Nat.le_of_lt hpl)).setCell (Nat.le_refl _) _).setCell (Nat.le_refl _) _).alloc (by have := HB.out.size; simp [World.setCell]; omega) _
theorem Q_str {e : Nat} {w : World} {base : Nat} {ok ok' : Nat → Prop} {v : Value} {xs : List ByteArray} (h : Kd.Q Kd.string e w base ok v xs) (hk : ∀ k, v.ownBlock = some k → ok' k) : Kd.Q Kd.string e w base ok' v xs := by
 obtain ⟨_, inner, ho, hr⟩ := h
 exact ⟨hk, inner, ho, hr⟩
structure FeatOwn (w : World) (base P : Nat) (F : FT) (v3 v5 : Value) : Prop where
 blk : w.heap[P]? = some (.cells (featCells F v3 v5) 30 (0, 0))
 q3 : Kd.Q Kd.string 9 w base (fun k => True ∧ some k ≠ v5.ownBlock) v3 F.onA
 q5 : Kd.Q Kd.string 9 w base (fun k => True ∧ some k ≠ v3.ownBlock) v5 F.andA
theorem FeatOwn.below {w w' : World} {base P : Nat} {F : FT} {v3 v5 : Value} (h : FeatOwn w base P F v3 v5) (hb : Below w.heap.size w w') : FeatOwn w' base P F v3 v5 :=
 ⟨blk_below h.blk hb, Kd.Q_below h.q3 hb, Kd.Q_below h.q5 hb⟩
theorem FeatOwn.at {w : World} {base P : Nat} {F : FT} {v3 v5 : Value} (h : FeatOwn w base P F v3 v5) : ∃ A3 c3 A5 c5, v3 = .slice A3 F.onA.length c3 ∧ v5 = .slice A5 F.andA.length c5 ∧ FeatAt w P F A3 c3 A5 c5 := by
 obtain ⟨A3, c3, rfl, l3, r3⟩ := Kd.Q_reads h.q3
 obtain ⟨A5, c5, rfl, l5, r5⟩ := Kd.Q_reads h.q5
 exact ⟨A3, c3, A5, c5, rfl, rfl, h.blk, l3, r3, l5, r5⟩
theorem FeatOwn.plain {w : World} {base P : Nat} {F F' : FT} {v3 v5 : Value} (h : FeatOwn w base P F v3 v5) (o : Nat) (s : ByteArray) (h3 : F'.onA = F.onA) (h5 : F'.andA = F.andA) (he : (featCells F v3 v5).setIfInBounds o (.string s) = featCells F' v3 v5) : FeatOwn (w.setCell ⟨P, o, none⟩ (.string s)) base P F' v3 v5 := by
 refine ⟨blk_put h.blk o _ he, ?_, ?_⟩
 · rw [h3]; exact Kd.Q_mono (Kd.Q_far (p := ⟨P, o, none⟩) (Kd.Q_types h.q3 h.blk (by decide)) (fun _ hk => hk.2) _) (fun _ hk => hk.1)
 · rw [h5]; exact Kd.Q_mono (Kd.Q_far (p := ⟨P, o, none⟩) (Kd.Q_types h.q5 h.blk (by decide)) (fun _ hk => hk.2) _) (fun _ hk => hk.1)
def setOf (k : Nat) (F : FT) (f : Fd) (s : ByteArray) : Option (FT × Bool) := if f.isRef then (resolve_Parse.f k s).map fun p => (F.setRef f p.1 p.2.1, p.2.2) else some (F.setPlain f s, true)
theorem set_any (k : Nat) (f : Fd) (s : ByteArray) {w : World} {base P : Nat} {F F' : FT} {v3 v5 : Value} {ok : Bool} (hF : FeatOwn w base P F v3 v5) (hbase : base ≤ w.heap.size) (hG : Env w) (h : setOf k F f s = some (F', ok)) :
 Calls Tryz.prog 25 #[slotV P f, .string s] w fun e w' => e = .returned (.bool ok) ∧ ∃ v3' v5', FeatOwn w' base P F' v3' v5' ∧ KeepBut w w' P none ∧ Below P w w' := by
 have hpl := blk_lt hF.blk
 have text : ∀ (o : Nat) (s0 : ByteArray) (F1 : FT), (featCells F v3 v5)[o]? = some (.string s0) → F1.onA = F.onA → F1.andA = F.andA → (featCells F v3 v5).setIfInBounds o (.string s) = featCells F1 v3 v5 →
  Calls Tryz.prog 25 #[.agg #[.pointer none, .pointer (some ⟨P, o, none⟩)], .string s] w fun e w' => e = .returned (.bool true) ∧ ∃ v3' v5', FeatOwn w' base P F1 v3' v5' ∧ KeepBut w w' P none ∧ Below P w w' := by
  intro o s0 F1 h0 h3 h5 he
  refine (set_text P o s s0 w ((blk_cell hF.blk o).trans h0) (blk_frozen hF.blk o)).mono ?_
  rintro e w' ⟨rfl, rfl⟩
  exact ⟨rfl, v3, v5, (hF.below (below_alloc (Below.refl _ _) _)).plain o s h3 h5 he, (KeepBut.of_below (below_alloc (Below.refl _ w) _) P none).set_ o _, ((Below.refl P w).alloc (Nat.le_of_lt hpl) _).setCell (Nat.le_refl _) _⟩
 have ref : ∀ (f : Fd), f.isRef = true → ∀ (o : Nat) (t0 : ByteArray) (v0 : Value), (featCells F v3 v5)[o]? = some (.string t0) → (featCells F v3 v5)[o + 1]? = some v0 → setOf k F f s = some (F', ok) →
  (∀ t v, ((featCells F v3 v5).setIfInBounds o (.string t)).setIfInBounds (o + 1) v = featCells (F.setRef f t (F.refA f)) (if o = 2 then v else v3) (if o = 2 then v5 else v)) → (o = 2 ∧ f = .on ∨ o = 4 ∧ f = .and) →
  Calls Tryz.prog 25 #[.agg #[.pointer (some ⟨P, o, none⟩), .pointer none], .string s] w fun e w' => e = .returned (.bool ok) ∧ ∃ v3' v5', FeatOwn w' base P F' v3' v5' ∧ KeepBut w w' P none ∧ Below P w w' := by
  intro f hf o t0 v0 h0 h1 hs he ho
  unfold setOf at hs
  rw [if_pos hf] at hs
  obtain ⟨⟨r1, r2, r3⟩, hp, hq⟩ := Option.map_eq_some_iff.1 hs
  simp only [Prod.mk.injEq] at hq
  obtain ⟨rfl, rfl⟩ := hq
  refine (set_ref k P o s t0 r1 v0 r2 r3 w _ hF.blk h0 h1 hG hp).mono ?_
  rintro e w' ⟨rfl, v, hb', hQ, kb, kb2⟩
  rw [he r1 v] at hb'
  have far : ∀ {u : Value} {xs : List ByteArray} {ok ok' : Nat → Prop}, Kd.Q Kd.string 9 w base ok u xs → (∀ k, u.ownBlock = some k → ok' k) → Kd.Q Kd.string 9 w' base ok' u xs := by
   intro u xs ok ok' hq hk
   exact Q_str (Kd.Q_keep (Kd.Q_types hq hF.blk (by decide)) kb (fun _ hk => hk.2)) hk
  have hv : ∀ (u : Value) (xs : List ByteArray) (ok : Nat → Prop), Kd.Q Kd.string 9 w base ok u xs → (∀ k, v.ownBlock = some k → some k ≠ u.ownBlock) := by
   intro u xs ok hu k hk hu2
   have h1 := (Kd.Q_bound hQ).1 k hk
   have h2 := (Kd.Q_bound hu).1 k hu2.symm
   omega
  rcases ho with ⟨rfl, rfl⟩ | ⟨rfl, rfl⟩
  · exact ⟨rfl, v, v5, ⟨hb', Q_str (Kd.Q_lower (base' := base) hQ hbase) (fun k hk => ⟨trivial, hv v5 _ _ hF.q5 k hk⟩), far hF.q5 (fun k hk => ⟨trivial, fun e => hv v5 _ _ hF.q5 k e.symm hk.symm⟩)⟩, kb, kb2⟩
  · exact ⟨rfl, v3, v, ⟨hb', far hF.q3 (fun k hk => ⟨trivial, fun e => hv v3 _ _ hF.q3 k e.symm hk.symm⟩), Q_str (Kd.Q_lower (base' := base) hQ hbase) (fun k hk => ⟨trivial, hv v3 _ _ hF.q3 k hk⟩)⟩, kb, kb2⟩
 cases f
 case on => exact ref .on rfl 2 _ _ rfl rfl h (fun _ _ => rfl) (.inl ⟨rfl, rfl⟩)
 case and => exact ref .and rfl 4 _ _ rfl rfl h (fun _ _ => rfl) (.inr ⟨rfl, rfl⟩)
 all_goals
  simp only [setOf, Fd.isRef, Bool.false_eq_true, if_false, Option.some.injEq, Prod.mk.injEq] at h
  obtain ⟨rfl, rfl⟩ := h
 case sketch => exact text 6 _ _ rfl rfl rfl rfl
 case amount => exact text 7 _ _ rfl rfl rfl rfl
 case count => exact text 8 _ _ rfl rfl rfl rfl
 case x => exact text 9 _ _ rfl rfl rfl rfl
 case y => exact text 10 _ _ rfl rfl rfl rfl
 case z => exact text 11 _ _ rfl rfl rfl rfl
end Go.Proofs.YtoccbcfjbingbaaGreatDoor.X30
namespace Go.Proofs.YtoccbcfjbingbaaGreatDoor.X30
open Go Go.RowKit Go.Shelf Go.Proofs.YtoccbcfjbingbaaGreatDoorW.PrintWords Go.Proofs.YtoccbcfjbingbaaGreatDoorW.PrintLast Go.Proofs.YtoccbcfjbingbaaGreatDoorW.PrintMore
def fieldsOf (F : FT) : Option (ByteArray × List S45) :=
 if 1 ≤ F.kind ∧ F.kind ≤ 8 then ((kindFd (F.kind - 1).toNat).mapM fun f => (textOf F f).map fun t => (⟨f.str, t⟩ : S45)).map fun l => ((kAt (F.kind - 1).toNat).1, l) else some (⟨#[]⟩, [])
theorem kindFd_pos : ∀ n, n < 8 → 0 < (kindFd n).length ∧ (kindFd n).length ≤ 4 := by
 intro n hn
 match n, hn with
 | 0, _ => decide | 1, _ => decide | 2, _ => decide | 3, _ => decide | 4, _ => decide | 5, _ => decide | 6, _ => decide | 7, _ => decide
end Go.Proofs.YtoccbcfjbingbaaGreatDoor.X30
