/- feature.places' closure; the methods of a slot. -/
import Derived.Test.YtoccbcfjbingbaaGreatDoorFeatC
import Derived.Test.YtoccbcfjbingbaaGreatDoorX30x4
import Derived.BigRegion
namespace Go.Proofs.YtoccbcfjbingbaaGreatDoor.X30
open Go Go.RowKit Go.Shelf Go.Proofs.YtoccbcfjbingbaaGreatDoorW.PrintWords Go.Proofs.YtoccbcfjbingbaaGreatDoorW.PrintLast Go.Proofs.YtoccbcfjbingbaaGreatDoorW.PrintMore

theorem lit_C (w : World) (xs : List ByteArray) (hm : xs.length ≤ 9223372036854775807) : Kd.C Kd.string (w.alloc (.cells (xs.map Value.string).toArray 9)) (some ⟨w.heap.size, 0, none⟩) xs.length xs := by
  obtain ⟨A, c, e, _, h⟩ := Kd.R_reads (own_strs w w.heap.size xs (Nat.le_refl _) hm)
  simp only [Value.slice.injEq] at e
  rw [e.1]; exact h

theorem idx_xyz : slices_Index_string_string.f 9 [sX, sY, sZ] sX = some 0 ∧ slices_Index_string_string.f 9 [sX, sY, sZ] sY = some 1 ∧ slices_Index_string_string.f 9 [sX, sY, sZ] sZ = some 2 := by
  refine ⟨?_, ?_, ?_⟩ <;> decide +kernel

theorem index_xyz (s : ByteArray) (r : Int) (h : slices_Index_string_string.f 9 [sX, sY, sZ] s = some r) (W : World) (b : Nat) (hb : b = W.heap.size) : Calls Tryz.prog 40 #[.slice (some ⟨b, 0, none⟩) 3 3, .string s] (W.alloc (.cells #[.string ⟨#[120]⟩, .string ⟨#[121]⟩, .string ⟨#[122]⟩] 9)).drew fun e w' => e = .returned (.int .i64 r) ∧ ∃ n, w' = (W.alloc (.cells #[.string ⟨#[120]⟩, .string ⟨#[121]⟩, .string ⟨#[122]⟩] 9)).drewN n := by
  subst hb
  refine (slices_Index_string_string.calls 9 _ 3 [sX, sY, sZ] s r _ (Kd.C_below (lit_C W [sX, sY, sZ] (by decide)) (pw_below_drewN (Below.refl _ _) 1)) (by decide) h).mono ?_
  rintro e w' ⟨h1, h2⟩
  obtain ⟨n, hn⟩ := h2.out
  exact ⟨h1, 1 + n, by rw [hn, World.drewN_drewN]; rfl⟩

set_option maxHeartbeats 1600000 in
set_option maxRecDepth 100000 in
theorem places1_any (f : Fd) (B P : Nat) (w : World) (hc : w.cell? ⟨B, 0, none⟩ = some (.pointer (some ⟨P, 0, none⟩))) :
    Calls Tryz.prog 39 #[.string f.str, .pointer (some ⟨B, 0, none⟩)] w fun e w' => e = .returned (slotV P f) ∧ Below w.heap.size w w' := by
  have hBl := World.block_lt_of_cell? _ _ hc
  have hBn : B ≠ w.heap.size := by simp only at hBl; omega
  have hc2 : ∀ o, (w.alloc o).cell? ⟨B, 0, none⟩ = some (.pointer (some ⟨P, 0, none⟩)) := fun o => (((Below.refl _ w).alloc (Nat.le_refl _) o).cell (p := ⟨B, 0, none⟩) hBl).trans hc
  cases f
  case on =>
    show Calls _ _ #[.string ⟨#[111, 110]⟩, _] _ _
    go_enter Tryz.func39, Tryz.ntmps39
    go_wp2_with fail
    refine bodyPost_ret (results_cell_row rfl _ _ w.heap.size 59 #[.pointer (some ⟨P, 2, none⟩), .pointer none] (0, 0) _ rfl (blk_new _ _) Tryz.underlying59 rfl (by kernel_rfl)) rfl ?_
    exact ⟨rfl, below_alloc (Below.refl _ _) _⟩
  case and =>
    show Calls _ _ #[.string ⟨#[97, 110, 100]⟩, _] _ _
    go_enter Tryz.func39, Tryz.ntmps39
    go_wp2_with fail
    refine bodyPost_ret (results_cell_row rfl _ _ w.heap.size 59 #[.pointer (some ⟨P, 4, none⟩), .pointer none] (0, 0) _ rfl (blk_new _ _) Tryz.underlying59 rfl (by kernel_rfl)) rfl ?_
    exact ⟨rfl, below_alloc (Below.refl _ _) _⟩
  case sketch =>
    show Calls _ _ #[.string ⟨#[115, 107, 101, 116, 99, 104]⟩, _] _ _
    go_enter Tryz.func39, Tryz.ntmps39
    go_wp2_with fail
    refine bodyPost_ret (results_cell_row rfl _ _ w.heap.size 59 #[.pointer none, .pointer (some ⟨P, 6, none⟩)] (0, 0) _ rfl (blk_new _ _) Tryz.underlying59 rfl (by kernel_rfl)) rfl ?_
    exact ⟨rfl, below_alloc (Below.refl _ _) _⟩
  case amount =>
    show Calls _ _ #[.string ⟨#[97, 109, 111, 117, 110, 116]⟩, _] _ _
    go_enter Tryz.func39, Tryz.ntmps39
    go_wp2_with fail
    refine bodyPost_ret (results_cell_row rfl _ _ w.heap.size 59 #[.pointer none, .pointer (some ⟨P, 7, none⟩)] (0, 0) _ rfl (blk_new _ _) Tryz.underlying59 rfl (by kernel_rfl)) rfl ?_
    exact ⟨rfl, below_alloc (Below.refl _ _) _⟩
  case count =>
    show Calls _ _ #[.string ⟨#[99, 111, 117, 110, 116]⟩, _] _ _
    go_enter Tryz.func39, Tryz.ntmps39
    go_wp2_with fail
    refine bodyPost_ret (results_cell_row rfl _ _ w.heap.size 59 #[.pointer none, .pointer (some ⟨P, 8, none⟩)] (0, 0) _ rfl (blk_new _ _) Tryz.underlying59 rfl (by kernel_rfl)) rfl ?_
    exact ⟨rfl, below_alloc (Below.refl _ _) _⟩
  case x =>
    show Calls _ _ #[.string ⟨#[120]⟩, _] _ _
    have hI := index_xyz sX 0 idx_xyz.1
    go_enter Tryz.func39, Tryz.ntmps39
    go_wp2_with fail
    go_region_with (first | (go_at_call 40; refine (hI _ _ (by simp)).mono ?_; rintro e w' ⟨rfl, nq, rfl⟩))
    all_goals go_wp2_with fail
    all_goals refine bodyPost_ret (results_cell_row rfl _ _ w.heap.size 59 #[.pointer none, .pointer (some ⟨P, 9, none⟩)] (0, 0) _ rfl (blk_put (blk_put (blk_drewN (blk_alloc (blk_new w (.cells #[.pointer none, .pointer none] 59)) _) _) 0 _ rfl) 1 _ rfl) Tryz.underlying59 rfl (by kernel_rfl)) rfl ?_
    all_goals exact ⟨rfl, below_set (below_set (pw_below_drewN (below_alloc (below_alloc (Below.refl _ _) _) _) _) (Nat.le_refl _)) (Nat.le_refl _)⟩
  case y =>
    show Calls _ _ #[.string ⟨#[121]⟩, _] _ _
    have hI := index_xyz sY 1 idx_xyz.2.1
    go_enter Tryz.func39, Tryz.ntmps39
    go_wp2_with fail
    go_region_with (first | (go_at_call 40; refine (hI _ _ (by simp)).mono ?_; rintro e w' ⟨rfl, nq, rfl⟩))
    all_goals go_wp2_with fail
    all_goals refine bodyPost_ret (results_cell_row rfl _ _ w.heap.size 59 #[.pointer none, .pointer (some ⟨P, 10, none⟩)] (0, 0) _ rfl (blk_put (blk_put (blk_drewN (blk_alloc (blk_new w (.cells #[.pointer none, .pointer none] 59)) _) _) 0 _ rfl) 1 _ rfl) Tryz.underlying59 rfl (by kernel_rfl)) rfl ?_
    all_goals exact ⟨rfl, below_set (below_set (pw_below_drewN (below_alloc (below_alloc (Below.refl _ _) _) _) _) (Nat.le_refl _)) (Nat.le_refl _)⟩
  case z =>
    show Calls _ _ #[.string ⟨#[122]⟩, _] _ _
    have hI := index_xyz sZ 2 idx_xyz.2.2
    go_enter Tryz.func39, Tryz.ntmps39
    go_wp2_with fail
    go_region_with (first | (go_at_call 40; refine (hI _ _ (by simp)).mono ?_; rintro e w' ⟨rfl, nq, rfl⟩))
    all_goals go_wp2_with fail
    all_goals refine bodyPost_ret (results_cell_row rfl _ _ w.heap.size 59 #[.pointer none, .pointer (some ⟨P, 11, none⟩)] (0, 0) _ rfl (blk_put (blk_put (blk_drewN (blk_alloc (blk_new w (.cells #[.pointer none, .pointer none] 59)) _) _) 0 _ rfl) 1 _ rfl) Tryz.underlying59 rfl (by kernel_rfl)) rfl ?_
    all_goals exact ⟨rfl, below_set (below_set (pw_below_drewN (below_alloc (below_alloc (Below.refl _ _) _) _) _) (Nat.le_refl _)) (Nat.le_refl _)⟩

end Go.Proofs.YtoccbcfjbingbaaGreatDoor.X30
