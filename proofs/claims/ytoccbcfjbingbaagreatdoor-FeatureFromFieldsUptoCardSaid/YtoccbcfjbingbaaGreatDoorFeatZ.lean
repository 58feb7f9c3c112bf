/- The reference's put: a field set from its text. ref30.Read, walked: it answers what feature.FromFields answers. FeatureFromFields, walked. -/
import Derived.Test.YtoccbcfjbingbaaGreatDoorFeatY
import Derived.Test.YtoccbcfjbingbaaGreatDoorX30x16
import Derived.Deep.DeepCutAuto
import Derived.Test.YtoccbcfjbingbaaGreatDoorX30x23
import Derived.Test.YtoccbcfjbingbaaGreatDoorFeatG
import Derived.Test.YtoccbcfjbingbaaGreatDoorX30x3
namespace Go.Proofs.YtoccbcfjbingbaaGreatDoor.X30
open Go hiding Fd
open Go.RowKit Go.Shelf Go.Lib Go.Proofs.YtoccbcfjbingbaaGreatDoorW.PrintWords Go.Proofs.YtoccbcfjbingbaaGreatDoorW.PrintLast Go.Proofs.YtoccbcfjbingbaaGreatDoorW.PrintMore Go.Proofs.YtoccbcfjbingbaaGreatDoor.P30 Go.Proofs.YtoccbcfjbingbaaGreatDoor.P27 Go.Proofs.Facename
set_option linter.unusedVariables false
set_option linter.unusedSimpArgs false
theorem feat_cellsB {w : World} {g : Nat} {F : FT} {v3 v5 : Value} (h : w.heap[g]? = some (.cells (featCells F v3 v5) 30 (0, 0))) : (∀ o, (w.alloc o).cell? ⟨g, 0, none⟩ = some (.string F.id)) ∧ (∀ o, (w.alloc o).cell? ⟨g, 1, none⟩ = some (.int .i64 F.kind)) ∧ (∀ o, (w.alloc o).cell? ⟨g, 2, none⟩ = some (.string F.onT)) ∧ (∀ o, (w.alloc o).cell? ⟨g, 3, none⟩ = some (v3)) ∧ (∀ o, (w.alloc o).cell? ⟨g, 4, none⟩ = some (.string F.andT)) ∧ (∀ o, (w.alloc o).cell? ⟨g, 5, none⟩ = some (v5)) ∧ (∀ o, (w.alloc o).cell? ⟨g, 6, none⟩ = some (.string F.sketch)) ∧ (∀ o, (w.alloc o).cell? ⟨g, 7, none⟩ = some (.string F.amount)) ∧ (∀ o, (w.alloc o).cell? ⟨g, 8, none⟩ = some (.string F.count)) ∧ (∀ o, (w.alloc o).cell? ⟨g, 9, none⟩ = some (.string F.x)) ∧ (∀ o, (w.alloc o).cell? ⟨g, 10, none⟩ = some (.string F.y)) ∧ (∀ o, (w.alloc o).cell? ⟨g, 11, none⟩ = some (.string F.z)) :=
 ⟨fun o => (blk_cell (blk_alloc h o) 0).trans rfl, fun o => (blk_cell (blk_alloc h o) 1).trans rfl, fun o => (blk_cell (blk_alloc h o) 2).trans rfl, fun o => (blk_cell (blk_alloc h o) 3).trans rfl, fun o => (blk_cell (blk_alloc h o) 4).trans rfl, fun o => (blk_cell (blk_alloc h o) 5).trans rfl, fun o => (blk_cell (blk_alloc h o) 6).trans rfl, fun o => (blk_cell (blk_alloc h o) 7).trans rfl, fun o => (blk_cell (blk_alloc h o) 8).trans rfl, fun o => (blk_cell (blk_alloc h o) 9).trans rfl, fun o => (blk_cell (blk_alloc h o) 10).trans rfl, fun o => (blk_cell (blk_alloc h o) 11).trans rfl⟩
theorem put_ref_end {w w1 : World} {o : Obj} {G n m : Nat} {F' : FT} {v3 v5 v x1 x2 : Value} {p2 : List ByteArray} (hG : G = w.heap.size) (HB : Below w.heap.size w w1) (HQ : Kd.Q Kd.string 9 w1 (w.heap.size + 2) (fun _ => True) v p2) :
 Kd.Q Kd.string 9 (put12 (((w1.alloc o).setCell ⟨G, n, none⟩ x1).setCell ⟨G, m, none⟩ x2) (G + 1) F' v3 v5) w.heap.size (fun _ => True) v p2 ∧ Below w.heap.size w (put12 (((w1.alloc o).setCell ⟨G, n, none⟩ x1).setCell ⟨G, m, none⟩ x2) (G + 1) F' v3 v5) := by
 have h1 := Nat.le_of_eq hG.symm
 refine ⟨?_, put12_below _ _ _ (below_set (below_set (below_alloc HB _) h1) h1) (Nat.le_succ_of_le h1)⟩
 refine Kd.Q_lower (base' := w.heap.size) (Kd.Q_mono (Kd.Q_step (w := w1) (Kd.Q_bound HQ) (fun k hk hlt => ?_)) (fun k hk => hk.1)) (Nat.le_add_right _ _)
 have hk2 : G + 2 ≤ k := by rw [hG]; exact hk.2.1
 have hkG : k ≠ G := by intro e; subst e; exact absurd hk2 (by simp)
 have hkG1 : k ≠ G + 1 := by intro e; subst e; exact absurd hk2 (by simp)
 refine ((put12_keep (((w1.alloc o).setCell ⟨G, n, none⟩ x1).setCell ⟨G, m, none⟩ x2) (G + 1) F' v3 v5).2 k ?_ hkG1 (fun h => by cases h)).trans ?_
 · simp; omega
 · exact ((Below.heap_setCell _ _ _ k hkG).trans (Below.heap_setCell _ _ _ k hkG)).trans (Below.heap_alloc w1 _ k hlt)
structure RowsQ (w : World) (base : Nat) (F : FT) (v3 v5 : Value) : Prop where
 q3 : Kd.Q Kd.string 9 w base (fun k => True ∧ some k ≠ v5.ownBlock) v3 F.onA
 q5 : Kd.Q Kd.string 9 w base (fun k => True ∧ some k ≠ v3.ownBlock) v5 F.andA
theorem RowsQ.below {w w' : World} {base : Nat} {F : FT} {v3 v5 : Value} (h : RowsQ w base F v3 v5) (hb : Below w.heap.size w w') : RowsQ w' base F v3 v5 := ⟨Kd.Q_below h.q3 hb, Kd.Q_below h.q5 hb⟩
set_option maxHeartbeats 3200000 in
set_option maxRecDepth 100000 in
theorem refPut_sketch (F : FT) (A3 : Option Addr) (c3 : Nat) (A5 : Option Addr) (c5 : Nat) (s : ByteArray) (w : World) :
 Calls Tryz.prog 28 #[.agg #[.string F.id, .int .i64 F.kind, .string F.onT, .slice A3 F.onA.length c3, .string F.andT, .slice A5 F.andA.length c5, .string F.sketch, .string F.amount, .string F.count, .string F.x, .string F.y, .string F.z], .string X30.Fd.sketch.str, .string s] w fun e w' => e = .returned (.tuple #[.agg (featCells (F.setPlain .sketch s) (.slice A3 F.onA.length c3) (.slice A5 F.andA.length c5)), .bool true]) ∧ Below w.heap.size w w' := by
 have hs0 : (X30.Fd.sketch.str.toList == [115, 107, 101, 116, 99, 104]) = true := by decide +kernel
 have hy := blk_new (w.alloc (.cells (featCells (F.setPlain .sketch s) (.slice A3 F.onA.length c3) (.slice A5 F.andA.length c5)) 30)) (.cells (featCells (F.setPlain .sketch s) (.slice A3 F.onA.length c3) (.slice A5 F.andA.length c5)) 30)
 rw [show (w.alloc (.cells (featCells (F.setPlain .sketch s) (.slice A3 F.onA.length c3) (.slice A5 F.andA.length c5)) 30)).heap.size = w.heap.size + 1 by simp] at hy
 have HY := Aside0.mk hy
 clear hy
 go_enter Tryz.func28, Tryz.ntmps28
 go_wp2_with fail
 refine bodyPost_ret (results_ct rfl _ _ (w.heap.size + 1) 30 (featCells (F.setPlain .sketch s) (.slice A3 F.onA.length c3) (.slice A5 F.andA.length c5)) (0, 0) _ rfl HY.out Tryz.underlying30 rfl (by kernel_rfl)) rfl ?_
 exact ⟨rfl, by repeat (first | exact Below.refl _ _ | apply below_drew | apply below_alloc)⟩
set_option maxHeartbeats 3200000 in
set_option maxRecDepth 100000 in
theorem refPut_amount (F : FT) (A3 : Option Addr) (c3 : Nat) (A5 : Option Addr) (c5 : Nat) (s : ByteArray) (w : World) :
 Calls Tryz.prog 28 #[.agg #[.string F.id, .int .i64 F.kind, .string F.onT, .slice A3 F.onA.length c3, .string F.andT, .slice A5 F.andA.length c5, .string F.sketch, .string F.amount, .string F.count, .string F.x, .string F.y, .string F.z], .string X30.Fd.amount.str, .string s] w fun e w' => e = .returned (.tuple #[.agg (featCells (F.setPlain .amount s) (.slice A3 F.onA.length c3) (.slice A5 F.andA.length c5)), .bool true]) ∧ Below w.heap.size w w' := by
 have hs0 : (X30.Fd.amount.str.toList == [115, 107, 101, 116, 99, 104]) = false := by decide +kernel
 have hs1 : (X30.Fd.amount.str.toList == [97, 109, 111, 117, 110, 116]) = true := by decide +kernel
 have hy := blk_new (w.alloc (.cells (featCells (F.setPlain .amount s) (.slice A3 F.onA.length c3) (.slice A5 F.andA.length c5)) 30)) (.cells (featCells (F.setPlain .amount s) (.slice A3 F.onA.length c3) (.slice A5 F.andA.length c5)) 30)
 rw [show (w.alloc (.cells (featCells (F.setPlain .amount s) (.slice A3 F.onA.length c3) (.slice A5 F.andA.length c5)) 30)).heap.size = w.heap.size + 1 by simp] at hy
 have HY := Aside0.mk hy
 clear hy
 go_enter Tryz.func28, Tryz.ntmps28
 go_wp2_with fail
 refine bodyPost_ret (results_ct rfl _ _ (w.heap.size + 1) 30 (featCells (F.setPlain .amount s) (.slice A3 F.onA.length c3) (.slice A5 F.andA.length c5)) (0, 0) _ rfl HY.out Tryz.underlying30 rfl (by kernel_rfl)) rfl ?_
 exact ⟨rfl, by repeat (first | exact Below.refl _ _ | apply below_drew | apply below_alloc)⟩
set_option maxHeartbeats 3200000 in
set_option maxRecDepth 100000 in
theorem refPut_count (F : FT) (A3 : Option Addr) (c3 : Nat) (A5 : Option Addr) (c5 : Nat) (s : ByteArray) (w : World) :
 Calls Tryz.prog 28 #[.agg #[.string F.id, .int .i64 F.kind, .string F.onT, .slice A3 F.onA.length c3, .string F.andT, .slice A5 F.andA.length c5, .string F.sketch, .string F.amount, .string F.count, .string F.x, .string F.y, .string F.z], .string X30.Fd.count.str, .string s] w fun e w' => e = .returned (.tuple #[.agg (featCells (F.setPlain .count s) (.slice A3 F.onA.length c3) (.slice A5 F.andA.length c5)), .bool true]) ∧ Below w.heap.size w w' := by
 have hs0 : (X30.Fd.count.str.toList == [115, 107, 101, 116, 99, 104]) = false := by decide +kernel
 have hs1 : (X30.Fd.count.str.toList == [97, 109, 111, 117, 110, 116]) = false := by decide +kernel
 have hs2 : (X30.Fd.count.str.toList == [99, 111, 117, 110, 116]) = true := by decide +kernel
 have hy := blk_new (w.alloc (.cells (featCells (F.setPlain .count s) (.slice A3 F.onA.length c3) (.slice A5 F.andA.length c5)) 30)) (.cells (featCells (F.setPlain .count s) (.slice A3 F.onA.length c3) (.slice A5 F.andA.length c5)) 30)
 rw [show (w.alloc (.cells (featCells (F.setPlain .count s) (.slice A3 F.onA.length c3) (.slice A5 F.andA.length c5)) 30)).heap.size = w.heap.size + 1 by simp] at hy
 have HY := Aside0.mk hy
 clear hy
 go_enter Tryz.func28, Tryz.ntmps28
 go_wp2_with fail
 refine bodyPost_ret (results_ct rfl _ _ (w.heap.size + 1) 30 (featCells (F.setPlain .count s) (.slice A3 F.onA.length c3) (.slice A5 F.andA.length c5)) (0, 0) _ rfl HY.out Tryz.underlying30 rfl (by kernel_rfl)) rfl ?_
 exact ⟨rfl, by repeat (first | exact Below.refl _ _ | apply below_drew | apply below_alloc)⟩
set_option maxHeartbeats 3200000 in
set_option maxRecDepth 100000 in
theorem refPut_x (F : FT) (A3 : Option Addr) (c3 : Nat) (A5 : Option Addr) (c5 : Nat) (s : ByteArray) (w : World) :
 Calls Tryz.prog 28 #[.agg #[.string F.id, .int .i64 F.kind, .string F.onT, .slice A3 F.onA.length c3, .string F.andT, .slice A5 F.andA.length c5, .string F.sketch, .string F.amount, .string F.count, .string F.x, .string F.y, .string F.z], .string X30.Fd.x.str, .string s] w fun e w' => e = .returned (.tuple #[.agg (featCells (F.setPlain .x s) (.slice A3 F.onA.length c3) (.slice A5 F.andA.length c5)), .bool true]) ∧ Below w.heap.size w w' := by
 have hs0 : (X30.Fd.x.str.toList == [115, 107, 101, 116, 99, 104]) = false := by decide +kernel
 have hs1 : (X30.Fd.x.str.toList == [97, 109, 111, 117, 110, 116]) = false := by decide +kernel
 have hs2 : (X30.Fd.x.str.toList == [99, 111, 117, 110, 116]) = false := by decide +kernel
 have hs3 : (X30.Fd.x.str.toList == [120]) = true := by decide +kernel
 have hy := blk_new (w.alloc (.cells (featCells (F.setPlain .x s) (.slice A3 F.onA.length c3) (.slice A5 F.andA.length c5)) 30)) (.cells (featCells (F.setPlain .x s) (.slice A3 F.onA.length c3) (.slice A5 F.andA.length c5)) 30)
 rw [show (w.alloc (.cells (featCells (F.setPlain .x s) (.slice A3 F.onA.length c3) (.slice A5 F.andA.length c5)) 30)).heap.size = w.heap.size + 1 by simp] at hy
 have HY := Aside0.mk hy
 clear hy
 go_enter Tryz.func28, Tryz.ntmps28
 go_wp2_with fail
 refine bodyPost_ret (results_ct rfl _ _ (w.heap.size + 1) 30 (featCells (F.setPlain .x s) (.slice A3 F.onA.length c3) (.slice A5 F.andA.length c5)) (0, 0) _ rfl HY.out Tryz.underlying30 rfl (by kernel_rfl)) rfl ?_
 exact ⟨rfl, by repeat (first | exact Below.refl _ _ | apply below_drew | apply below_alloc)⟩
set_option maxHeartbeats 3200000 in
set_option maxRecDepth 100000 in
theorem refPut_y (F : FT) (A3 : Option Addr) (c3 : Nat) (A5 : Option Addr) (c5 : Nat) (s : ByteArray) (w : World) :
 Calls Tryz.prog 28 #[.agg #[.string F.id, .int .i64 F.kind, .string F.onT, .slice A3 F.onA.length c3, .string F.andT, .slice A5 F.andA.length c5, .string F.sketch, .string F.amount, .string F.count, .string F.x, .string F.y, .string F.z], .string X30.Fd.y.str, .string s] w fun e w' => e = .returned (.tuple #[.agg (featCells (F.setPlain .y s) (.slice A3 F.onA.length c3) (.slice A5 F.andA.length c5)), .bool true]) ∧ Below w.heap.size w w' := by
 have hs0 : (X30.Fd.y.str.toList == [115, 107, 101, 116, 99, 104]) = false := by decide +kernel
 have hs1 : (X30.Fd.y.str.toList == [97, 109, 111, 117, 110, 116]) = false := by decide +kernel
 have hs2 : (X30.Fd.y.str.toList == [99, 111, 117, 110, 116]) = false := by decide +kernel
 have hs3 : (X30.Fd.y.str.toList == [120]) = false := by decide +kernel
 have hs4 : (X30.Fd.y.str.toList == [121]) = true := by decide +kernel
 have hy := blk_new (w.alloc (.cells (featCells (F.setPlain .y s) (.slice A3 F.onA.length c3) (.slice A5 F.andA.length c5)) 30)) (.cells (featCells (F.setPlain .y s) (.slice A3 F.onA.length c3) (.slice A5 F.andA.length c5)) 30)
 rw [show (w.alloc (.cells (featCells (F.setPlain .y s) (.slice A3 F.onA.length c3) (.slice A5 F.andA.length c5)) 30)).heap.size = w.heap.size + 1 by simp] at hy
 have HY := Aside0.mk hy
 clear hy
 go_enter Tryz.func28, Tryz.ntmps28
 go_wp2_with fail
 refine bodyPost_ret (results_ct rfl _ _ (w.heap.size + 1) 30 (featCells (F.setPlain .y s) (.slice A3 F.onA.length c3) (.slice A5 F.andA.length c5)) (0, 0) _ rfl HY.out Tryz.underlying30 rfl (by kernel_rfl)) rfl ?_
 exact ⟨rfl, by repeat (first | exact Below.refl _ _ | apply below_drew | apply below_alloc)⟩
set_option maxHeartbeats 3200000 in
set_option maxRecDepth 100000 in
theorem refPut_z (F : FT) (A3 : Option Addr) (c3 : Nat) (A5 : Option Addr) (c5 : Nat) (s : ByteArray) (w : World) :
 Calls Tryz.prog 28 #[.agg #[.string F.id, .int .i64 F.kind, .string F.onT, .slice A3 F.onA.length c3, .string F.andT, .slice A5 F.andA.length c5, .string F.sketch, .string F.amount, .string F.count, .string F.x, .string F.y, .string F.z], .string X30.Fd.z.str, .string s] w fun e w' => e = .returned (.tuple #[.agg (featCells (F.setPlain .z s) (.slice A3 F.onA.length c3) (.slice A5 F.andA.length c5)), .bool true]) ∧ Below w.heap.size w w' := by
 have hs0 : (X30.Fd.z.str.toList == [115, 107, 101, 116, 99, 104]) = false := by decide +kernel
 have hs1 : (X30.Fd.z.str.toList == [97, 109, 111, 117, 110, 116]) = false := by decide +kernel
 have hs2 : (X30.Fd.z.str.toList == [99, 111, 117, 110, 116]) = false := by decide +kernel
 have hs3 : (X30.Fd.z.str.toList == [120]) = false := by decide +kernel
 have hs4 : (X30.Fd.z.str.toList == [121]) = false := by decide +kernel
 have hs5 : (X30.Fd.z.str.toList == [122]) = true := by decide +kernel
 have hy := blk_new (w.alloc (.cells (featCells (F.setPlain .z s) (.slice A3 F.onA.length c3) (.slice A5 F.andA.length c5)) 30)) (.cells (featCells (F.setPlain .z s) (.slice A3 F.onA.length c3) (.slice A5 F.andA.length c5)) 30)
 rw [show (w.alloc (.cells (featCells (F.setPlain .z s) (.slice A3 F.onA.length c3) (.slice A5 F.andA.length c5)) 30)).heap.size = w.heap.size + 1 by simp] at hy
 have HY := Aside0.mk hy
 clear hy
 go_enter Tryz.func28, Tryz.ntmps28
 go_wp2_with fail
 refine bodyPost_ret (results_ct rfl _ _ (w.heap.size + 1) 30 (featCells (F.setPlain .z s) (.slice A3 F.onA.length c3) (.slice A5 F.andA.length c5)) (0, 0) _ rfl HY.out Tryz.underlying30 rfl (by kernel_rfl)) rfl ?_
 exact ⟨rfl, by repeat (first | exact Below.refl _ _ | apply below_drew | apply below_alloc)⟩
set_option maxHeartbeats 6400000 in
set_option maxRecDepth 100000 in
theorem refPut_on (F : FT) (A3 : Option Addr) (c3 : Nat) (A5 : Option Addr) (c5 : Nat) (s p1 : ByteArray) (p2 : List ByteArray) (p3 : Bool) (k : Nat) (w : World) (hp : voussoirref28_Parse.f k s = some (p1, p2, p3)) :
 Calls Tryz.prog 28 #[.agg #[.string F.id, .int .i64 F.kind, .string F.onT, .slice A3 F.onA.length c3, .string F.andT, .slice A5 F.andA.length c5, .string F.sketch, .string F.amount, .string F.count, .string F.x, .string F.y, .string F.z], .string X30.Fd.on.str, .string s] w fun e w' => ∃ (D9 : Option Addr) (g9 : Nat), e = .returned (.tuple #[.agg (featCells (FT.mk F.id F.kind p1 p2 F.andT F.andA F.sketch F.amount F.count F.x F.y F.z) (.slice D9 p2.length g9) (.slice A5 F.andA.length c5)), .bool p3]) ∧ Kd.Q Kd.string 9 w' w.heap.size (fun _ => True) (.slice D9 p2.length g9) p2 ∧ Below w.heap.size w w' := by
 have hs0 : (X30.Fd.on.str.toList == [115, 107, 101, 116, 99, 104]) = false := by decide +kernel
 have hs1 : (X30.Fd.on.str.toList == [97, 109, 111, 117, 110, 116]) = false := by decide +kernel
 have hs2 : (X30.Fd.on.str.toList == [99, 111, 117, 110, 116]) = false := by decide +kernel
 have hs3 : (X30.Fd.on.str.toList == [120]) = false := by decide +kernel
 have hs4 : (X30.Fd.on.str.toList == [121]) = false := by decide +kernel
 have hs5 : (X30.Fd.on.str.toList == [122]) = false := by decide +kernel
 have hsn : (X30.Fd.on.str.toList == [111, 110]) = true := by decide +kernel
 have HP := Aside0.mk hp
 have HF0 := Aside0.mk (blk_alloc (blk_new w (.cells #[.string F.id, .int .i64 F.kind, .string F.onT, .slice A3 F.onA.length c3, .string F.andT, .slice A5 F.andA.length c5, .string F.sketch, .string F.amount, .string F.count, .string F.x, .string F.y, .string F.z] 30)) (.cells (featCells FT.zero (.slice none 0 0) (.slice none 0 0)) 30))
 have hz := blk_new (w.alloc (.cells #[.string F.id, .int .i64 F.kind, .string F.onT, .slice A3 F.onA.length c3, .string F.andT, .slice A5 F.andA.length c5, .string F.sketch, .string F.amount, .string F.count, .string F.x, .string F.y, .string F.z] 30)) (.cells (featCells FT.zero (.slice none 0 0) (.slice none 0 0)) 30)
 rw [show (w.alloc (.cells #[.string F.id, .int .i64 F.kind, .string F.onT, .slice A3 F.onA.length c3, .string F.andT, .slice A5 F.andA.length c5, .string F.sketch, .string F.amount, .string F.count, .string F.x, .string F.y, .string F.z] 30)).heap.size = w.heap.size + 1 by simp] at hz
 have HZ := Aside0.mk hz
 clear hz hp
 go_enter Tryz.func28, Tryz.ntmps28
 go_wp2_with fail
 refine (voussoirref28_Parse.calls k s p1 p2 p3 _ HP.out).mono ?_
 rintro e1 w1 ⟨v1, rfl, hQ, hb⟩
 obtain ⟨D9, g9, rfl, hle⟩ := Kd.Q_slice hQ
 have hQ2 := Kd.Q_lower (base' := w.heap.size + 2) hQ (by simp)
 have HQ := Aside0.mk hQ2
 have HB := Aside0.mk (below_step (below_alloc (below_alloc (Below.refl w.heap.size w) (.cells #[.string F.id, .int .i64 F.kind, .string F.onT, .slice A3 F.onA.length c3, .string F.andT, .slice A5 F.andA.length c5, .string F.sketch, .string F.amount, .string F.count, .string F.x, .string F.y, .string F.z] 30)) (.cells (featCells FT.zero (.slice none 0 0) (.slice none 0 0)) 30)) hb)
 have HF1 := Aside0.mk (blk_below HF0.out hb)
 have HZ1 := Aside0.mk (blk_below HZ.out hb)
 clear hQ hQ2 hb hle HF0 HZ HP
 obtain ⟨G, hG⟩ : ∃ G, G = w.heap.size := ⟨_, rfl⟩
 rw [← hG] at HF1 HZ1
 rw [← hG]
 have HGB := Aside0.mk hG
 clear hG
 obtain ⟨q0, q1, q2, q3, q4, q5, q6, q7, q8, q9, q10, q11⟩ := feat_cellsB HF1.out
 obtain ⟨y0, y1, y2, y3, y4, y5, y6, y7, y8, y9, y10, y11⟩ := feat_cellsB HZ1.out
 have qf : ∀ o i, (w1.alloc o).frozen? ⟨G, i, none⟩ = false := fun o i => blk_frozen (blk_alloc HF1.out o) i
 have yf : ∀ o i, (w1.alloc o).frozen? ⟨G + 1, i, none⟩ = false := fun o i => blk_frozen (blk_alloc HZ1.out o) i
 go_wp2_with fail
 have hne : G + 1 ≠ G := by omega
 have hz9 := blk_far (p := ⟨G, 3, none⟩) (blk_far (p := ⟨G, 2, none⟩) (blk_alloc HZ1.out (.cells #[.string p1, .slice D9 p2.length g9] 27)) hne (.string p1)) hne (.slice D9 p2.length g9)
 have key := put12_blk (FT.mk F.id F.kind p1 p2 F.andT F.andA F.sketch F.amount F.count F.x F.y F.z) (.slice D9 p2.length g9) (.slice A5 F.andA.length c5) hz9
 have hres := fun tmps (hp : Array.getD tmps 6 undef = .pointer (some ⟨G + 1, 0, none⟩)) => results_ct (P := Tryz.prog) (fn := Tryz.f28) rfl tmps _ (G + 1) 30 _ (0, 0) _ hp key Tryz.underlying30 rfl (by kernel_rfl)
 refine bodyPost_ret (hres _ rfl) rfl ?_
 exact ⟨D9, g9, rfl, put_ref_end (o := .cells #[.string p1, .slice D9 p2.length g9] 27) (G := G) (n := 2) (m := 3) (F' := (FT.mk F.id F.kind p1 p2 F.andT F.andA F.sketch F.amount F.count F.x F.y F.z)) (v3 := (.slice D9 p2.length g9)) (v5 := (.slice A5 F.andA.length c5)) (x1 := .string p1) (x2 := .slice D9 p2.length g9) HGB.out HB.out HQ.out⟩
set_option maxHeartbeats 6400000 in
set_option maxRecDepth 100000 in
theorem refPut_and (F : FT) (A3 : Option Addr) (c3 : Nat) (A5 : Option Addr) (c5 : Nat) (s p1 : ByteArray) (p2 : List ByteArray) (p3 : Bool) (k : Nat) (w : World) (hp : voussoirref28_Parse.f k s = some (p1, p2, p3)) :
 Calls Tryz.prog 28 #[.agg #[.string F.id, .int .i64 F.kind, .string F.onT, .slice A3 F.onA.length c3, .string F.andT, .slice A5 F.andA.length c5, .string F.sketch, .string F.amount, .string F.count, .string F.x, .string F.y, .string F.z], .string X30.Fd.and.str, .string s] w fun e w' => ∃ (D9 : Option Addr) (g9 : Nat), e = .returned (.tuple #[.agg (featCells (FT.mk F.id F.kind F.onT F.onA p1 p2 F.sketch F.amount F.count F.x F.y F.z) (.slice A3 F.onA.length c3) (.slice D9 p2.length g9)), .bool p3]) ∧ Kd.Q Kd.string 9 w' w.heap.size (fun _ => True) (.slice D9 p2.length g9) p2 ∧ Below w.heap.size w w' := by
 have hs0 : (X30.Fd.and.str.toList == [115, 107, 101, 116, 99, 104]) = false := by decide +kernel
 have hs1 : (X30.Fd.and.str.toList == [97, 109, 111, 117, 110, 116]) = false := by decide +kernel
 have hs2 : (X30.Fd.and.str.toList == [99, 111, 117, 110, 116]) = false := by decide +kernel
 have hs3 : (X30.Fd.and.str.toList == [120]) = false := by decide +kernel
 have hs4 : (X30.Fd.and.str.toList == [121]) = false := by decide +kernel
 have hs5 : (X30.Fd.and.str.toList == [122]) = false := by decide +kernel
 have hsn : (X30.Fd.and.str.toList == [111, 110]) = false := by decide +kernel
 have HP := Aside0.mk hp
 have HF0 := Aside0.mk (blk_alloc (blk_new w (.cells #[.string F.id, .int .i64 F.kind, .string F.onT, .slice A3 F.onA.length c3, .string F.andT, .slice A5 F.andA.length c5, .string F.sketch, .string F.amount, .string F.count, .string F.x, .string F.y, .string F.z] 30)) (.cells (featCells FT.zero (.slice none 0 0) (.slice none 0 0)) 30))
 have hz := blk_new (w.alloc (.cells #[.string F.id, .int .i64 F.kind, .string F.onT, .slice A3 F.onA.length c3, .string F.andT, .slice A5 F.andA.length c5, .string F.sketch, .string F.amount, .string F.count, .string F.x, .string F.y, .string F.z] 30)) (.cells (featCells FT.zero (.slice none 0 0) (.slice none 0 0)) 30)
 rw [show (w.alloc (.cells #[.string F.id, .int .i64 F.kind, .string F.onT, .slice A3 F.onA.length c3, .string F.andT, .slice A5 F.andA.length c5, .string F.sketch, .string F.amount, .string F.count, .string F.x, .string F.y, .string F.z] 30)).heap.size = w.heap.size + 1 by simp] at hz
 have HZ := Aside0.mk hz
 clear hz hp
 go_enter Tryz.func28, Tryz.ntmps28
 go_wp2_with fail
 refine (voussoirref28_Parse.calls k s p1 p2 p3 _ HP.out).mono ?_
 rintro e1 w1 ⟨v1, rfl, hQ, hb⟩
 obtain ⟨D9, g9, rfl, hle⟩ := Kd.Q_slice hQ
 have hQ2 := Kd.Q_lower (base' := w.heap.size + 2) hQ (by simp)
 have HQ := Aside0.mk hQ2
 have HB := Aside0.mk (below_step (below_alloc (below_alloc (Below.refl w.heap.size w) (.cells #[.string F.id, .int .i64 F.kind, .string F.onT, .slice A3 F.onA.length c3, .string F.andT, .slice A5 F.andA.length c5, .string F.sketch, .string F.amount, .string F.count, .string F.x, .string F.y, .string F.z] 30)) (.cells (featCells FT.zero (.slice none 0 0) (.slice none 0 0)) 30)) hb)
 have HF1 := Aside0.mk (blk_below HF0.out hb)
 have HZ1 := Aside0.mk (blk_below HZ.out hb)
 clear hQ hQ2 hb hle HF0 HZ HP
 obtain ⟨G, hG⟩ : ∃ G, G = w.heap.size := ⟨_, rfl⟩
 rw [← hG] at HF1 HZ1
 rw [← hG]
 have HGB := Aside0.mk hG
 clear hG
 obtain ⟨q0, q1, q2, q3, q4, q5, q6, q7, q8, q9, q10, q11⟩ := feat_cellsB HF1.out
 obtain ⟨y0, y1, y2, y3, y4, y5, y6, y7, y8, y9, y10, y11⟩ := feat_cellsB HZ1.out
 have qf : ∀ o i, (w1.alloc o).frozen? ⟨G, i, none⟩ = false := fun o i => blk_frozen (blk_alloc HF1.out o) i
 have yf : ∀ o i, (w1.alloc o).frozen? ⟨G + 1, i, none⟩ = false := fun o i => blk_frozen (blk_alloc HZ1.out o) i
 go_wp2_with fail
 have hne : G + 1 ≠ G := by omega
 have hz9 := blk_far (p := ⟨G, 5, none⟩) (blk_far (p := ⟨G, 4, none⟩) (blk_alloc HZ1.out (.cells #[.string p1, .slice D9 p2.length g9] 27)) hne (.string p1)) hne (.slice D9 p2.length g9)
 have key := put12_blk (FT.mk F.id F.kind F.onT F.onA p1 p2 F.sketch F.amount F.count F.x F.y F.z) (.slice A3 F.onA.length c3) (.slice D9 p2.length g9) hz9
 have hres := fun tmps (hp : Array.getD tmps 6 undef = .pointer (some ⟨G + 1, 0, none⟩)) => results_ct (P := Tryz.prog) (fn := Tryz.f28) rfl tmps _ (G + 1) 30 _ (0, 0) _ hp key Tryz.underlying30 rfl (by kernel_rfl)
 refine bodyPost_ret (hres _ rfl) rfl ?_
 exact ⟨D9, g9, rfl, put_ref_end (o := .cells #[.string p1, .slice D9 p2.length g9] 27) (G := G) (n := 4) (m := 5) (F' := (FT.mk F.id F.kind F.onT F.onA p1 p2 F.sketch F.amount F.count F.x F.y F.z)) (v3 := (.slice A3 F.onA.length c3)) (v5 := (.slice D9 p2.length g9)) (x1 := .string p1) (x2 := .slice D9 p2.length g9) HGB.out HB.out HQ.out⟩
theorem own_lt {w : World} {base : Nat} {ok : Nat → Prop} {v : Value} {xs : List ByteArray} (h : Kd.Q Kd.string 9 w base ok v xs) : ∀ k, v.ownBlock = some k → k < w.heap.size := fun k hk => ((Kd.Q_bound h).1 k hk).2.2.1
theorem own_ge {w : World} {base : Nat} {ok : Nat → Prop} {v : Value} {xs : List ByteArray} (h : Kd.Q Kd.string 9 w base ok v xs) : ∀ k, v.ownBlock = some k → base ≤ k := fun k hk => ((Kd.Q_bound h).1 k hk).2.1
theorem RowsQ.on {w w' : World} {base : Nat} {F F' : FT} {v3 v5 v9 : Value} (h : RowsQ w base F v3 v5) (hq : Kd.Q Kd.string 9 w' w.heap.size (fun _ => True) v9 F'.onA) (he : F'.andA = F.andA) (hb : Below w.heap.size w w') (hbase : base ≤ w.heap.size) : RowsQ w' base F' v9 v5 :=
 ⟨Kd.Q_lower (Kd.Q_mono (Kd.Q_bound hq) (fun k hk => ⟨trivial, fun e => absurd (own_lt h.q5 k e.symm) (Nat.not_lt.2 hk.2.1)⟩)) hbase,
  by rw [he]; exact Kd.Q_below (Kd.Q_mono (Kd.Q_bound h.q5) (fun k hk => ⟨trivial, fun e => absurd hk.2.2.1 (Nat.not_lt.2 (own_ge hq k e.symm))⟩)) hb⟩
theorem RowsQ.and {w w' : World} {base : Nat} {F F' : FT} {v3 v5 v9 : Value} (h : RowsQ w base F v3 v5) (hq : Kd.Q Kd.string 9 w' w.heap.size (fun _ => True) v9 F'.andA) (he : F'.onA = F.onA) (hb : Below w.heap.size w w') (hbase : base ≤ w.heap.size) : RowsQ w' base F' v3 v9 :=
 ⟨by rw [he]; exact Kd.Q_below (Kd.Q_mono (Kd.Q_bound h.q3) (fun k hk => ⟨trivial, fun e => absurd hk.2.2.1 (Nat.not_lt.2 (own_ge hq k e.symm))⟩)) hb,
  Kd.Q_lower (Kd.Q_mono (Kd.Q_bound hq) (fun k hk => ⟨trivial, fun e => absurd (own_lt h.q3 k e.symm) (Nat.not_lt.2 hk.2.1)⟩)) hbase⟩
theorem RowsQ.same {w w' : World} {base : Nat} {F F' : FT} {v3 v5 : Value} (h : RowsQ w base F v3 v5) (h3 : F'.onA = F.onA) (h5 : F'.andA = F.andA) (hb : Below w.heap.size w w') : RowsQ w' base F' v3 v5 := by
 have := h.below hb
 exact ⟨by rw [h3]; exact this.q3, by rw [h5]; exact this.q5⟩
theorem refPut_any (k : Nat) (f : X30.Fd) (F F' : FT) (ok : Bool) (A3 : Option Addr) (c3 : Nat) (A5 : Option Addr) (c5 : Nat) (s : ByteArray) (hs : s.size ≤ 1000000) (w : World) (h : setOf k F f s = some (F', ok)) :
 Calls Tryz.prog 28 #[.agg (featCells F (.slice A3 F.onA.length c3) (.slice A5 F.andA.length c5)), .string f.str, .string s] w fun e w' => ∃ v3' v5', e = .returned (.tuple #[.agg (featCells F' v3' v5'), .bool ok]) ∧ (∀ base, base ≤ w.heap.size → RowsQ w base F (.slice A3 F.onA.length c3) (.slice A5 F.andA.length c5) → RowsQ w' base F' v3' v5') ∧ (∀ k, v3'.ownBlock = some k ∨ v5'.ownBlock = some k → w.heap.size ≤ k ∨ (Value.slice A3 F.onA.length c3).ownBlock = some k ∨ (Value.slice A5 F.andA.length c5).ownBlock = some k) ∧ Below w.heap.size w w' := by
 unfold setOf at h
 cases f
 case on =>
  rw [if_pos (show X30.Fd.isRef _ = true from rfl)] at h
  obtain ⟨⟨p1, p2, p3⟩, hp, he⟩ := Option.map_eq_some_iff.1 h
  simp only [Prod.mk.injEq] at he
  obtain ⟨rfl, rfl⟩ := he
  obtain ⟨k', hp'⟩ := ref_of_parse k s _ hs hp
  refine (refPut_on F A3 c3 A5 c5 s p1 p2 p3 k' w hp').mono ?_
  rintro e w' ⟨D9, g9, rfl, hq, hb⟩
  exact ⟨_, _, rfl, fun base hbase hr => hr.on (F' := F.setRef .on p1 p2) hq rfl hb hbase, fun k hk => hk.elim (fun h => .inl (own_ge hq k h)) (fun h => .inr (.inr h)), hb⟩
 case and =>
  rw [if_pos (show X30.Fd.isRef _ = true from rfl)] at h
  obtain ⟨⟨p1, p2, p3⟩, hp, he⟩ := Option.map_eq_some_iff.1 h
  simp only [Prod.mk.injEq] at he
  obtain ⟨rfl, rfl⟩ := he
  obtain ⟨k', hp'⟩ := ref_of_parse k s _ hs hp
  refine (refPut_and F A3 c3 A5 c5 s p1 p2 p3 k' w hp').mono ?_
  rintro e w' ⟨D9, g9, rfl, hq, hb⟩
  exact ⟨_, _, rfl, fun base hbase hr => hr.and (F' := F.setRef .and p1 p2) hq rfl hb hbase, fun k hk => hk.elim (fun h => .inr (.inl h)) (fun h => .inl (own_ge hq k h)), hb⟩
 case sketch =>
  rw [if_neg (by decide)] at h
  simp only [Option.some.injEq, Prod.mk.injEq] at h
  obtain ⟨rfl, rfl⟩ := h
  refine (refPut_sketch F A3 c3 A5 c5 s w).mono ?_
  rintro e w' ⟨rfl, hb⟩
  exact ⟨_, _, rfl, fun base hbase hr => hr.same rfl rfl hb, fun k hk => .inr hk, hb⟩
 case amount =>
  rw [if_neg (by decide)] at h
  simp only [Option.some.injEq, Prod.mk.injEq] at h
  obtain ⟨rfl, rfl⟩ := h
  refine (refPut_amount F A3 c3 A5 c5 s w).mono ?_
  rintro e w' ⟨rfl, hb⟩
  exact ⟨_, _, rfl, fun base hbase hr => hr.same rfl rfl hb, fun k hk => .inr hk, hb⟩
 case count =>
  rw [if_neg (by decide)] at h
  simp only [Option.some.injEq, Prod.mk.injEq] at h
  obtain ⟨rfl, rfl⟩ := h
  refine (refPut_count F A3 c3 A5 c5 s w).mono ?_
  rintro e w' ⟨rfl, hb⟩
  exact ⟨_, _, rfl, fun base hbase hr => hr.same rfl rfl hb, fun k hk => .inr hk, hb⟩
 case x =>
  rw [if_neg (by decide)] at h
  simp only [Option.some.injEq, Prod.mk.injEq] at h
  obtain ⟨rfl, rfl⟩ := h
  refine (refPut_x F A3 c3 A5 c5 s w).mono ?_
  rintro e w' ⟨rfl, hb⟩
  exact ⟨_, _, rfl, fun base hbase hr => hr.same rfl rfl hb, fun k hk => .inr hk, hb⟩
 case y =>
  rw [if_neg (by decide)] at h
  simp only [Option.some.injEq, Prod.mk.injEq] at h
  obtain ⟨rfl, rfl⟩ := h
  refine (refPut_y F A3 c3 A5 c5 s w).mono ?_
  rintro e w' ⟨rfl, hb⟩
  exact ⟨_, _, rfl, fun base hbase hr => hr.same rfl rfl hb, fun k hk => .inr hk, hb⟩
 case z =>
  rw [if_neg (by decide)] at h
  simp only [Option.some.injEq, Prod.mk.injEq] at h
  obtain ⟨rfl, rfl⟩ := h
  refine (refPut_z F A3 c3 A5 c5 s w).mono ?_
  rintro e w' ⟨rfl, hb⟩
  exact ⟨_, _, rfl, fun base hbase hr => hr.same rfl rfl hb, fun k hk => .inr hk, hb⟩
end Go.Proofs.YtoccbcfjbingbaaGreatDoor.X30

namespace Go.Proofs.YtoccbcfjbingbaaGreatDoor.P30
open Go hiding Fd
open Go.RowKit Go.Lib Go.Proofs.YtoccbcfjbingbaaGreatDoorW.PrintWords Go.Proofs.YtoccbcfjbingbaaGreatDoorW.PrintLast Go.Proofs.YtoccbcfjbingbaaGreatDoor.X30 Go.Proofs.Facename Go.Proofs.YtoccbcfjbingbaaGreatDoor.P27
theorem split_joinX (s : ByteArray) : join ((splitB ⟨#[124]⟩ 0 (countB s ⟨#[124]⟩) s).map (·.data.toList)) [124] = s.data.toList := by
 rw [splitB_data]
 have key : ∀ (k : Nat) (l : List UInt8), join (splitK [124] 0 k l) [124] = l ∧ splitK [124] 0 k l ≠ [] := by
  intro k
  induction k with
  | zero => intro l; exact ⟨join_one _ _, by simp [splitK]⟩
  | succ k ih =>
   intro l
   unfold splitK
   rcases index_spec l [124] with ⟨h, -⟩ | ⟨i, h, hi, ho, -⟩
   · rw [h, if_pos (beq_self_eq_true _)]; exact ⟨join_one _ _, by simp⟩
   · have hn : ¬ ((index l [124] == -1) = true) := by rw [beq_iff_eq]; omega
     rw [if_neg hn, h, Int.toNat_natCast]
     have hc := occAt_head (s := l) (sub := [124]) (i := i) (c := 124) (t := []) rfl ho
     obtain ⟨h1, h2⟩ := ih (l.drop (i + 1))
     refine ⟨?_, by simp⟩
     have hlt : i < l.length := by
      rcases Nat.lt_or_ge i l.length with h | h
      · exact h
      · rw [List.getElem?_eq_none h] at hc; cases hc
     have hd : l.drop i = 124 :: l.drop (i + 1) := by
      rw [List.drop_eq_getElem_cons hlt]
      rw [List.getElem?_eq_getElem hlt] at hc
      rw [Option.some.inj hc]
     rw [show ([124] : List UInt8).length = 1 from rfl, Nat.add_zero]
     generalize splitK [124] 0 k (l.drop (i + 1)) = r at h1 h2
     cases r with
     | nil => exact absurd rfl h2
     | cons x r =>
      have : join (l.take i :: x :: r) [124] = l.take i ++ 124 :: join (x :: r) [124] := by
       simp [join, List.intercalate]
      rw [this, h1, ← hd, List.take_append_drop]
 exact (key _ _).1
theorem format_parseX {K : Nat} {s t : ByteArray} {a : List ByteArray} (hs : s.size ≤ 100000) (h : resolve_Parse.f K s = some (t, a, true)) : resolve_Format.f t a = some s ∧ t.size + wt a = s.size := by
 unfold resolve_Parse.f at h
 obtain ⟨l, hl, h⟩ := Option.bind_eq_some_iff.1 h
 have hj := split_joinX s
 have hlen := splitB_len s ⟨#[124]⟩ (by decide)
 have hcn := countB_le ⟨#[124]⟩ (by decide) s.size s (Nat.le_refl _)
 unfold strings_Split.f at hl
 rw [if_pos ⟨by omega, by decide⟩] at hl
 obtain rfl := Option.some.inj hl
 generalize splitB ⟨#[124]⟩ 0 (countB s ⟨#[124]⟩) s = l at h hj hlen
 match l, h with
 | x :: rest, h =>
  simp only at h
  obtain ⟨e, he, h⟩ := Option.bind_eq_some_iff.1 h
  by_cases hz : e = 0
  · rw [if_pos hz] at h
    simp only [Option.some.injEq, Prod.mk.injEq, and_true] at h
    obtain ⟨rfl, rfl⟩ := h
    have hz2 := size_list s
    simp only [List.length_cons] at hlen
    refine ⟨?_, ?_⟩
    case refine_2 =>
     have h1 := congrArg List.length hj
     rw [List.map_cons, join_length] at h1
     have h2 := lens_wt rest
     have h3 := size_list x
     simp only [lens, List.map_cons, List.sum_cons, List.length_map, List.length_cons, List.length_nil] at h1 h2
     omega
    unfold resolve_Format.f
    simp only [Option.bind_some, List.length_cons, List.length_nil]
    rw [if_pos (by omega)]
    unfold strings_Join.f
    have hx : ([x] ++ rest) = x :: rest := rfl
    rw [hx, show (⟨#[124]⟩ : ByteArray).data.toList = [124] from rfl, hj, if_pos ⟨by omega, by simp only [List.length_cons]; omega⟩, Option.bind_some, Array.toArray_toList]
  · rw [if_neg hz] at h
    simp at h
end Go.Proofs.YtoccbcfjbingbaaGreatDoor.P30
namespace Go.Proofs.YtoccbcfjbingbaaGreatDoor.X30
open Go hiding Fd
open Go.RowKit Go.Shelf Go.Lib Go.Proofs.YtoccbcfjbingbaaGreatDoorW.PrintWords Go.Proofs.YtoccbcfjbingbaaGreatDoorW.PrintLast Go.Proofs.YtoccbcfjbingbaaGreatDoorW.PrintMore Go.Proofs.YtoccbcfjbingbaaGreatDoor.P30 Go.Proofs.YtoccbcfjbingbaaGreatDoor.P27 Go.Proofs.Facename
set_option linter.unusedVariables false
set_option linter.unusedSimpArgs false
theorem kind_ev (s : ByteArray) : Ev (fun k => voussoirref30_Kind.f k s) (kindNo s) := by
 obtain ⟨l, hl, -, -⟩ := names_at 0 (by decide)
 have h8 : l.length = 8 := by
  have : voussoirref30_names.f = some l := hl
  unfold voussoirref30_names.f at this
  obtain rfl := Option.some.inj this
  rfl
 have hrd : ∀ n : Nat, n < 8 → rdOf ByteArray.empty l (n : Int) = (kAt n).1 := by
  intro n hn
  obtain ⟨l', hl', -, h⟩ := names_at n hn
  obtain rfl := Option.some.inj (hl.symm.trans hl')
  exact h
 have key : ∀ (m n : Nat), n + m = 8 → noKind s n → ∀ k, m < k → voussoirref30_Kind.l0 k s (n : Int) = some (kindNo s) := by
  intro m
  induction m with
  | zero =>
   intro n hn hno k hk
   obtain ⟨k, rfl⟩ : ∃ j, k = j + 1 := ⟨k - 1, by omega⟩
   obtain rfl : n = 8 := by omega
   simp only [voussoirref30_Kind.l0]
   rw [hl, Option.bind_some, if_neg (by omega)]
   have : kindNo s = (0, false) := by
    unfold kindNo
    have : kindTab.findIdx? (fun x => x.1.toList == s.toList) = none := by
     rw [List.findIdx?_eq_none_iff]
     intro x hx
     obtain ⟨j, hj, rfl⟩ := List.getElem_of_mem hx
     have := hno j hj
     rw [kAt_eq j hj] at this
     exact this
    rw [this]
   rw [this]
  | succ m ih =>
   intro n hn hno k hk
   obtain ⟨k, rfl⟩ : ∃ j, k = j + 1 := ⟨k - 1, by omega⟩
   have hn8 : n < 8 := by omega
   simp only [voussoirref30_Kind.l0]
   rw [hl, Option.bind_some, if_pos (by omega), Option.bind_some, if_pos (by omega), if_pos (by omega), hrd n hn8]
   by_cases hc : (kAt n).1.toList = s.toList
   · rw [if_pos hc, kindNo_hit hno hn8 (beq_iff_eq.2 hc), show wrap64 ((n : Int) + 1) = (n : Int) + 1 by unfold wrap64; omega]
   · rw [if_neg hc, show wrap64 ((n : Int) + 1) = ((n + 1 : Nat) : Int) by unfold wrap64; omega]
     refine ih (n + 1) (by omega) (fun j hj => ?_) k (by omega)
     rcases Nat.lt_or_ge j n with h | h
     · exact hno j h
     · obtain rfl : j = n := by omega
       exact beq_eq_false_iff_ne.2 hc
 exact ⟨9, fun k hk => key 8 0 (by omega) (fun j hj => absurd hj (Nat.not_lt_zero j)) k (by omega)⟩
structure RdAt (w wr : World) (P : Nat) (F : FT) (v3 v5 tv : Value) (met : List ByteArray) : Prop where
 own : FeatOwn wr w.heap.size P F v3 v5
 res : wr.heap[w.heap.size]? = some (.cells (featCells FT.zero (.slice none 0 0) (.slice none 0 0)) 30 (0, 0))
 row : Kd.R Kd.string 9 wr w.heap.size (fun _ => True) tv met
 dis : ∀ k, tv.ownBlock = some k → v3.ownBlock ≠ some k ∧ v5.ownBlock ≠ some k
 hb : Below w.heap.size w wr
 hlt : w.heap.size < P
theorem RdAt.below {w wr w' : World} {P : Nat} {F : FT} {v3 v5 tv : Value} {met : List ByteArray} (h : RdAt w wr P F v3 v5 tv met) (hb : Below wr.heap.size wr w') : RdAt w w' P F v3 v5 tv met :=
 ⟨h.own.below hb, blk_below h.res hb, Kd.R_below h.row hb, h.dis, below_step h.hb hb, h.hlt⟩
theorem row_lt {w : World} {base : Nat} {ok : Nat → Prop} {v : Value} {xs : List ByteArray} (h : Kd.R Kd.string 9 w base ok v xs) : ∀ k, v.ownBlock = some k → k < w.heap.size := fun k hk => ((Kd.R_bound h).1 k hk).2.2.1
theorem Q_ok {w : World} {base : Nat} {ok ok' : Nat → Prop} {v : Value} {xs : List ByteArray} (h : Kd.Q Kd.string 9 w base ok v xs) (h' : ∀ k, v.ownBlock = some k → ok' k) : Kd.Q Kd.string 9 w base ok' v xs := by
 obtain ⟨h0, inner, ho, hr⟩ := h
 exact ⟨h', inner, ho, hr.imp_ (fun _ _ hp => hp)⟩
theorem Q_stay {w w' : World} {base : Nat} {ok : Nat → Prop} {v : Value} {xs : List ByteArray} (h : Kd.Q Kd.string 9 w base ok v xs) (hm : ∀ k, v.ownBlock = some k → k < w.heap.size → w'.heap[k]? = w.heap[k]?) : Kd.Q Kd.string 9 w' base ok v xs :=
 Q_ok (Kd.Q_step (Q_ok (ok' := fun k => v.ownBlock = some k) h (fun _ hk => hk)) (fun k hk hlt => hm k hk hlt)) h.1
theorem RdAt.grown {w wr w' : World} {P : Nat} {F : FT} {v3 v5 tv tv' : Value} {met met' : List ByteArray} (h : RdAt w wr P F v3 v5 tv met) (hR : Kd.R Kd.string 9 w' w.heap.size (fun _ => True) tv' met') (hb : Below w.heap.size w w') (hg : wr.grownBy w' tv.ownBlock)
 (hat : tv'.ownBlock = tv.ownBlock ∨ ∃ b, tv'.ownBlock = some b ∧ wr.heap.size ≤ b) : RdAt w w' P F v3 v5 tv' met' := by
 have far3 : ∀ k, v3.ownBlock = some k → some k ≠ tv.ownBlock := fun k hk e => (h.dis k e.symm).1 hk
 have far5 : ∀ k, v5.ownBlock = some k → some k ≠ tv.ownBlock := fun k hk e => (h.dis k e.symm).2 hk
 refine ⟨⟨blk_grown h.own.blk hg (Kd.R_ne h.row h.own.blk (by decide)), Q_stay h.own.q3 (fun k hk hlt => hg.block k hlt (far3 k hk)), Q_stay h.own.q5 (fun k hk hlt => hg.block k hlt (far5 k hk))⟩, blk_grown h.res hg (Kd.R_ne h.row h.res (by decide)), hR, fun k hk => ?_, hb, h.hlt⟩
 rcases hat with e | ⟨b, e, hle⟩
 · exact h.dis k (e.symm.trans hk)
 · obtain rfl : b = k := Option.some.inj (e.symm.trans hk)
   exact ⟨fun h3 => absurd (own_lt h.own.q3 b h3) (Nat.not_lt.2 hle), fun h5 => absurd (own_lt h.own.q5 b h5) (Nat.not_lt.2 hle)⟩
theorem RdAt.put {w wr w' : World} {P : Nat} {F F' : FT} {v3 v5 v3' v5' tv : Value} {met : List ByteArray} (h : RdAt w wr P F v3 v5 tv met) (hbk : w'.heap[P]? = some (.cells (featCells F' v3' v5') 30 (0, 0))) (hr : RowsQ wr w.heap.size F' v3' v5')
 (hk : KeepBut wr w' P none) (hb : Below w.heap.size w w') (hd : ∀ k, tv.ownBlock = some k → v3'.ownBlock ≠ some k ∧ v5'.ownBlock ≠ some k) : RdAt w w' P F' v3' v5' tv met := by
 refine ⟨⟨hbk, ?_, ?_⟩, hk.blk h.res (by have := h.hlt; omega) (by simp), ?_, hd, hb, h.hlt⟩
 · exact Kd.Q_mono (Kd.Q_keep (Kd.Q_types hr.q3 h.own.blk (by decide)) hk (fun _ hk => hk.2)) (fun _ hk => hk.1)
 · exact Kd.Q_mono (Kd.Q_keep (Kd.Q_types hr.q5 h.own.blk (by decide)) hk (fun _ hk => hk.2)) (fun _ hk => hk.1)
 · exact Kd.R_mono (Kd.R_keep (Kd.R_types h.row h.own.blk (by decide)) hk (fun _ hk => hk.2)) (fun _ hk => hk.1)
def lensP (l : List S45) : Nat := (l.map fun d => d.f1.size).sum
theorem set_wt {k : Nat} {F F' : FT} {f : X30.Fd} {s : ByteArray} (hs : s.size ≤ 100000) (h : setOf k F f s = some (F', true)) : FT.wt F' ≤ FT.wt F + s.size := by
 unfold setOf at h
 cases hr : f.isRef with
 | true =>
  rw [hr, if_pos rfl] at h
  obtain ⟨⟨t, a, b⟩, hp, he⟩ := Option.map_eq_some_iff.1 h
  simp only [Prod.mk.injEq] at he
  obtain ⟨rfl, rfl⟩ := he
  have := (format_parseX hs hp).2
  unfold FT.wt
  cases f <;> first | (cases hr; done) | (simp only [FT.setRef]; omega)
 | false =>
  rw [hr, if_neg Bool.false_ne_true] at h
  simp only [Option.some.injEq, Prod.mk.injEq, and_true] at h
  subst h
  unfold FT.wt
  cases f <;> first | (cases hr; done) | (simp only [FT.setPlain]; omega)
theorem RdAt.far {w wr w' : World} {P g : Nat} {F : FT} {v3 v5 tv : Value} {met : List ByteArray} {cs : Array Value} (h : RdAt w wr P F v3 v5 tv met) (hg : wr.heap[g]? = some (.cells cs 30 (0, 0))) (hP : P ≠ g) (hr : w.heap.size ≠ g) (hk : KeepBut wr w' g none) (hb : Below w.heap.size w w') : RdAt w w' P F v3 v5 tv met :=
 ⟨⟨hk.blk h.own.blk hP (by simp), Kd.Q_mono (Kd.Q_keep (Kd.Q_types h.own.q3 hg (by decide)) hk (fun _ hk => hk.2)) (fun _ hk => hk.1), Kd.Q_mono (Kd.Q_keep (Kd.Q_types h.own.q5 hg (by decide)) hk (fun _ hk => hk.2)) (fun _ hk => hk.1)⟩,
  hk.blk h.res hr (by simp), Kd.R_mono (Kd.R_keep (Kd.R_types h.row hg (by decide)) hk (fun _ hk => hk.2)) (fun _ hk => hk.1), h.dis, hb, h.hlt⟩
theorem RowsQ.far {w w' : World} {base g : Nat} {F : FT} {v3 v5 : Value} {cs : Array Value} (h : RowsQ w base F v3 v5) (hg : w.heap[g]? = some (.cells cs 30 (0, 0))) (hk : KeepBut w w' g none) : RowsQ w' base F v3 v5 :=
 ⟨Kd.Q_mono (Kd.Q_keep (Kd.Q_types h.q3 hg (by decide)) hk (fun _ hk => hk.2)) (fun _ hk => hk.1), Kd.Q_mono (Kd.Q_keep (Kd.Q_types h.q5 hg (by decide)) hk (fun _ hk => hk.2)) (fun _ hk => hk.1)⟩
theorem RdAt.apart {w wr : World} {P N : Nat} {F : FT} {v3 v5 v3' v5' tv : Value} {met : List ByteArray} (h : RdAt w wr P F v3 v5 tv met) (hN : wr.heap.size ≤ N) (ho : ∀ k, v3'.ownBlock = some k ∨ v5'.ownBlock = some k → N ≤ k ∨ v3.ownBlock = some k ∨ v5.ownBlock = some k) :
 ∀ k, tv.ownBlock = some k → v3'.ownBlock ≠ some k ∧ v5'.ownBlock ≠ some k := fun k hk => by
 have hlt := row_lt h.row k hk
 have hd := h.dis k hk
 exact ⟨fun e => (ho k (.inl e)).elim (fun h => absurd hlt (Nat.not_lt.2 (Nat.le_trans hN h))) (fun h => h.elim hd.1 hd.2), fun e => (ho k (.inr e)).elim (fun h => absurd hlt (Nat.not_lt.2 (Nat.le_trans hN h))) (fun h => h.elim hd.1 hd.2)⟩
theorem refPut_cells (k : Nat) (f : X30.Fd) (F F' : FT) (ok : Bool) (A3 : Option Addr) (c3 : Nat) (A5 : Option Addr) (c5 : Nat) (s : ByteArray) (hs : s.size ≤ 1000000) (w : World) (h : setOf k F f s = some (F', ok)) :
 Calls Tryz.prog 28 #[.agg (featCells F (.slice A3 F.onA.length c3) (.slice A5 F.andA.length c5)), .string f.str, .string s] w fun e w' => ∃ v3' v5', e = .returned (.tuple #[.agg #[.string F'.id, .int .i64 F'.kind, .string F'.onT, v3', .string F'.andT, v5', .string F'.sketch, .string F'.amount, .string F'.count, .string F'.x, .string F'.y, .string F'.z], .bool ok]) ∧ (∀ base, base ≤ w.heap.size → RowsQ w base F (.slice A3 F.onA.length c3) (.slice A5 F.andA.length c5) → RowsQ w' base F' v3' v5') ∧ (∀ k, v3'.ownBlock = some k ∨ v5'.ownBlock = some k → w.heap.size ≤ k ∨ (Value.slice A3 F.onA.length c3).ownBlock = some k ∨ (Value.slice A5 F.andA.length c5).ownBlock = some k) ∧ Below w.heap.size w w' :=
 refPut_any k f F F' ok A3 c3 A5 c5 s hs w h
theorem nd_le {α : Type} : ∀ {l m : List α}, l.Nodup → (∀ x ∈ l, x ∈ m) → l.length ≤ m.length
 | [], _, _, _ => Nat.zero_le _
 | x :: l, m, hn, hs => by
  obtain ⟨a, b, rfl⟩ := List.append_of_mem (hs x (List.mem_cons_self ..))
  rw [List.nodup_cons] at hn
  have := nd_le (l := l) (m := a ++ b) hn.2 (fun y hy => by
   have := hs y (List.mem_cons_of_mem _ hy)
   rw [List.mem_append, List.mem_cons] at this
   rw [List.mem_append]
   rcases this with h | rfl | h
   · exact .inl h
   · exact absurd hy hn.1
   · exact .inr h)
  simp only [List.length_cons, List.length_append] at this ⊢
  omega
theorem nd_all {α : Type} {l m : List α} (hn : m.Nodup) (hs : ∀ x ∈ m, x ∈ l) (hl : l.length ≤ m.length) : ∀ x ∈ l, x ∈ m := fun x hx => Classical.byContradiction fun hc => by
 have := nd_le (l := x :: m) (m := l) (List.nodup_cons.2 ⟨hc, hn⟩) (fun y hy => by
  rcases List.mem_cons.1 hy with rfl | h
  · exact hx
  · exact hs y h)
 simp only [List.length_cons] at this
 omega
theorem memS_iff (l : List ByteArray) (x : ByteArray) : memS l x = true ↔ x ∈ l := by
 unfold memS
 rw [List.any_eq_true]
 exact ⟨fun ⟨y, hy, e⟩ => by
  have : x = y := str_ext' (beq_iff_eq.1 e)
  rw [this]; exact hy, fun h => ⟨x, h, beq_self_eq_true _⟩⟩
theorem fdOf_strX (f : X30.Fd) : fdOf f.str = some f := by cases f <;> kernel_rfl
theorem kindFd_nodupX : ∀ n, n < 8 → (kindFd n).Nodup := by
 intro n hn
 match n, hn with
 | 0, _ | 1, _ | 2, _ | 3, _ | 4, _ | 5, _ | 6, _ | 7, _ => decide
theorem own_nodup : ∀ n, n < 8 → (kAt n).2.Nodup := by
 intro n hn
 rw [kindFd_str n hn]
 refine List.Pairwise.map _ (fun a b h e => h ?_) (kindFd_nodupX n hn)
 have h1 : fdOf a.str = fdOf b.str := by rw [e]
 rw [fdOf_strX, fdOf_strX] at h1
 exact Option.some.inj h1
theorem held14 {w4 w' : World} {g : Nat} {F : FT} {v3 v5 : Value} {a0 a1 : Addr} {u0 u1 : Value} (hb : Below w4.heap.size w4 w') (h : w4.heap[g]? = some (.cells (featCells F v3 v5) 30 (0, 0))) (h0 : w4.cell? a0 = some u0) (h1 : w4.cell? a1 = some u1) :
 w'.cell? ⟨g, 0, none⟩ = some (.string F.id) ∧ w'.cell? ⟨g, 1, none⟩ = some (.int .i64 F.kind) ∧ w'.cell? ⟨g, 2, none⟩ = some (.string F.onT) ∧ w'.cell? ⟨g, 3, none⟩ = some v3 ∧ w'.cell? ⟨g, 4, none⟩ = some (.string F.andT) ∧ w'.cell? ⟨g, 5, none⟩ = some v5 ∧ w'.cell? ⟨g, 6, none⟩ = some (.string F.sketch) ∧ w'.cell? ⟨g, 7, none⟩ = some (.string F.amount) ∧ w'.cell? ⟨g, 8, none⟩ = some (.string F.count) ∧ w'.cell? ⟨g, 9, none⟩ = some (.string F.x) ∧ w'.cell? ⟨g, 10, none⟩ = some (.string F.y) ∧ w'.cell? ⟨g, 11, none⟩ = some (.string F.z) ∧ w'.cell? a0 = some u0 ∧ w'.cell? a1 = some u1 := by
 obtain ⟨q0, q1, q2, q3, q4, q5, q6, q7, q8, q9, q10, q11⟩ := feat_cells (blk_below h hb)
 exact ⟨q0, q1, q2, q3, q4, q5, q6, q7, q8, q9, q10, q11, (hb.cell (World.block_lt_of_cell? _ _ h0)).trans h0, (hb.cell (World.block_lt_of_cell? _ _ h1)).trans h1⟩
theorem held1 {w4 w' : World} {a0 : Addr} {v0 : Value} (hb : Below w4.heap.size w4 w') (h0 : w4.cell? a0 = some v0) : w'.cell? a0 = some v0 := (hb.cell (World.block_lt_of_cell? _ _ h0)).trans h0
set_option maxHeartbeats 12800000 in
set_option maxRecDepth 100000 in
theorem Read_walk (k : Nat) (a0 a1 : ByteArray) (A2 : Option Addr) (c2 : Nat) (l2 : List S45) (p : FT × Int) (w : World) (hr2 : Kd.C k45 w A2 l2.length l2) (hc2 : l2.length ≤ c2) (hl2 : l2.length ≤ 100000) (hW : a0.size + lensP l2 ≤ 9000) (hp : fromFields k a0 a1 l2 = some p) :
 Calls Tryz.prog 12 #[.string a0, .string a1, .slice A2 l2.length c2] w (FromPost w p) := by
 obtain ⟨kk, okk, hkn⟩ : ∃ kk okk, kindNo a1 = (kk, okk) := ⟨_, _, rfl⟩
 obtain ⟨kq, hkq⟩ := (kind_ev a1).rounds
 rw [hkn] at hkq
 have HKQ := Aside0.mk hkq
 have HKN := Aside0.mk hkn
 have HP := Aside0.mk hp
 have HR2 := Aside0.mk hr2
 have HL2 := Aside0.mk hl2
 have HWW := Aside0.mk hW
 have hRB := blk_new w (.cells (featCells FT.zero (.slice none 0 0) (.slice none 0 0)) 30)
 have hb0 := below_alloc (Below.refl w.heap.size w) (.cells (featCells FT.zero (.slice none 0 0) (.slice none 0 0)) 30)
 clear hkn hp hr2 hkq hW hl2
 go_enter Tryz.func12, Tryz.ntmps12
 go_wp2_with fail
 refine (voussoirref30_Kind.calls kq a1 kk okk _ HKQ.out).mono ?_
 rintro e1 w1 ⟨rfl, hb1⟩
 have HB1 := Aside0.mk (below_step hb0 hb1)
 have hR1 := blk_below hRB hb1
 have HR1 := Aside0.mk hR1
 clear hb0 hb1 hRB
 have hp := HP.out
 unfold fromFields at hp
 rw [HKN.out] at hp
 simp only at hp
 cases okk with
 | false =>
  rw [if_neg Bool.false_ne_true] at hp
  obtain rfl := Option.some.inj hp
  obtain ⟨y0, y1, y2, y3, y4, y5, y6, y7, y8, y9, y10, y11⟩ := feat_cells hR1
  have yf := blk_frozen hR1
  clear hp HP hR1
  go_wp2_with fail
  refine bodyPost_ret (results_ct rfl _ _ w.heap.size 30 (featCells FT.zero (.slice none 0 0) (.slice none 0 0)) (0, 0) _ rfl (put12_blk FT.zero (.slice none 0 0) (.slice none 0 0) HR1.out) Tryz.underlying30 rfl (by kernel_rfl)) rfl ?_
  exact FromPost.zero HR1.out HB1.out
 | true =>
  rw [if_pos rfl] at hp
  obtain ⟨hk1, hk8⟩ : 1 ≤ kk ∧ kk ≤ 8 := by have := kindNo_le a1 (by rw [HKN.out]); rw [HKN.out] at this; exact this
  obtain ⟨n, hn⟩ : ∃ n : Nat, n = (kk - 1).toNat := ⟨_, rfl⟩
  have hn8 : n < 8 := by omega
  have hkk : kk = (n : Int) + 1 := by omega
  rw [← hn] at hp
  subst hkk
  obtain ⟨res, hfill, hp⟩ := Option.bind_eq_some_iff.1 hp
  have HFILL := Aside0.mk hfill
  have HPP := Aside0.mk hp
  have hks := kindFd_str n hn8
  obtain ⟨hp0, hp4⟩ := kindFd_pos n hn8
  have HLEN := Aside0.mk (show (kAt n).2.length < 4611686018427387904 by rw [hks, List.length_map]; omega)
  have HD0 : Aside0 (RdAt w (w1.alloc (.cells (featCells (FT.start a0 ((n : Int) + 1)) (.slice none 0 0) (.slice none 0 0)) 30)) w1.heap.size (FT.start a0 ((n : Int) + 1)) (.slice none 0 0) (.slice none 0 0) (.slice none 0 0) []) :=
   ⟨⟨blk_new _ _, Kd.Q_nil _ _ _ _ _, Kd.Q_nil _ _ _ _ _⟩, blk_alloc HR1.out _, Kd.R_nil _ _ _ _ _, fun k hk => by simp [Value.ownBlock] at hk, below_step HB1.out (below_alloc (Below.refl _ _) _), blk_lt HR1.out⟩
  clear hp hfill HP hn hk1 hk8 hR1 hks hp0 hp4
  obtain ⟨P, hP⟩ : ∃ P, P = w1.heap.size := ⟨_, rfl⟩
  have HPE := Aside0.mk hP
  go_wp2_with fail
  rw [← hP] at HD0
  rw [← hP]
  clear hP
  go_loopw [11, 12] (fun th i wr => ∃ (m : Nat) (F : FT) (v3 v5 : Value) (met : List ByteArray), i = .int .i64 m ∧ m ≤ l2.length ∧ Aside0 (RdAt w wr P F v3 v5 th met) ∧ Aside0 (fill k n F met (l2.drop m) = some res) ∧ Aside0 (met.length = m) ∧ Aside0 (FT.wt F + lensP (l2.drop m) ≤ 10000) ∧ Aside0 (met.Nodup ∧ ∀ s ∈ met, s ∈ (kAt n).2))
   (fun _ i _ => l2.length - (RowKit.intOf i).toNat)
  case atStart => exact ⟨0, _, _, _, [], rfl, Nat.zero_le _, HD0, HFILL, ⟨rfl⟩, ⟨by have := HWW.out; have e0 : (⟨#[]⟩ : ByteArray).size = 0 := rfl; simp [FT.wt, FT.start, FT.zero, P30.wt, e0]; omega⟩, ⟨List.nodup_nil, fun s hs => by cases hs⟩⟩
  case round =>
   obtain ⟨m, F, v3, v5, met, rfl, hm, HD, HFL, HM, HWT, HGD⟩ := hrel
   clear HD0 HFILL
   by_cases hlt : m < l2.length
   · obtain ⟨⟨nm, tx⟩, hd⟩ : ∃ d, l2[m]? = some d := ⟨_, List.getElem?_eq_getElem hlt⟩
     have hl63 : l2.length ≤ 9223372036854775807 := HR2.out.2.1
     obtain ⟨ad, rfl, x0, x1⟩ := at_T45 HR2.out m (by omega) (by omega)
     have hrd : rd_T45 l2 m = ⟨nm, tx⟩ := by unfold rd_T45; rw [Int.toNat_natCast, List.getD_eq_getElem?_getD, hd]; rfl
     rw [hrd, Int.toNat_natCast] at x0 x1
     simp only at x0 x1
     have hf := HFL.out
     rw [List.drop_eq_getElem_cons hlt, show l2[m] = ⟨nm, tx⟩ from by rw [List.getElem?_eq_getElem hlt] at hd; exact Option.some.inj hd, fill] at hf
     simp only at hf
     have hwt := HWT.out
     rw [List.drop_eq_getElem_cons hlt, show l2[m] = ⟨nm, tx⟩ from by rw [List.getElem?_eq_getElem hlt] at hd; exact Option.some.inj hd] at hwt
     have HWT2 := Aside0.mk (show FT.wt F + tx.size + lensP (l2.drop (m + 1)) ≤ 10000 by unfold lensP at hwt ⊢; simp only [List.map_cons, List.sum_cons] at hwt; omega)
     have HF := Aside0.mk hf
     have XW0 := Aside0.mk x0
     have XW1 := Aside0.mk x1
     clear x0 x1
     have X0 := Aside0.mk (held1 HD.out.hb XW0.out)
     have X1 := Aside0.mk (held1 HD.out.hb XW1.out)
     have hm2 : (m : Int) < (l2.length : Int) := by omega
     have HM2 := Aside0.mk (show met.length < 4611686018427387904 by have := HM.out; have := HL2.out; omega)
     clear hd hrd HFL hwt hf HWT
     go_upto_region 9 with fail
     go_cut [42] (fun c wx => c = .bool (!memS (kAt n).2 nm) ∧ Aside0 (Below wr.heap.size wr wx))
     case first =>
      go_region_held3 (fun w' => w'.cell? (ad.add (m * 2)) = some (.string nm)) ((refine held1 ?_ X0.out; (repeat (first | with_reducible exact HB6.out | with_reducible exact HB5.out | with_reducible exact Below.refl _ _ | with_reducible apply below_drew | with_reducible apply below_alloc)))) (first | (go_at_call 27; refine (voussoirref30_has.calls 1 ((n : Int) + 1) (kAt n).2 _ (has_f n hn8)).mono ?_; rintro e5 w5 ⟨v0, rfl, hR, hb5⟩; obtain ⟨A5, c5, e55⟩ := Kd.R_slice hR; subst e55; obtain ⟨-, hc5, hC5⟩ := Kd.R_reads' hR; have HC5 := Aside0.mk hC5; have LC5 := Aside0.mk hc5; have HB5 : Aside0 (Below wr.heap.size wr w5) := ⟨below_step (by repeat (first | with_reducible exact Below.refl _ _ | with_reducible apply below_drew | with_reducible apply below_alloc)) hb5⟩; clear hR hc5 hC5 hb5) | (go_at_call 26; refine (voussoirref30_among.calls _ A5 c5 (kAt n).2 nm _ _ HC5.out LC5.out (among_f (kAt n).2 nm HLEN.out)).mono ?_; rintro e6 w6 ⟨rfl, hd6⟩; have HB6 : Aside0 (Below wr.heap.size wr w6) := ⟨below_step HB5.out hd6.below⟩; clear hd6))
      all_goals
       go_wp2_with fail
       go_meet
       exact ⟨rfl, HB6⟩
     case rest =>
      obtain ⟨rfl, HBW⟩ := hcut
      have HD2 := Aside0.mk (HD.out.below HBW.out)
      have X02 := Aside0.mk (held1 HBW.out X0.out)
      have X12 := Aside0.mk (held1 HBW.out X1.out)
      clear HD X0 X1 HBW
      cases hmem : memS (kAt n).2 nm with
      | false =>
       have hf := HF.out
       rw [hmem, if_neg Bool.false_ne_true] at hf
       obtain rfl := Option.some.inj hf
       obtain rfl := Option.some.inj HPP.out
       clear hf hmem
       obtain ⟨y0, y1, y2, y3, y4, y5, y6, y7, y8, y9, y10, y11⟩ := feat_cells HD2.out.res
       have yf := blk_frozen HD2.out.res
       go_wp2_with fail
       refine bodyPost_ret (results_ct rfl _ _ w.heap.size 30 (featCells FT.zero (.slice none 0 0) (.slice none 0 0)) (0, 0) _ rfl (put12_blk FT.zero (.slice none 0 0) (.slice none 0 0) HD2.out.res) Tryz.underlying30 rfl (by kernel_rfl)) rfl ?_
       exact FromPost.zero HD2.out.res HD2.out.hb
      | true =>
       have hf := HF.out
       rw [hmem, if_pos rfl] at hf
       obtain ⟨f, hfd, rfl, hsz⟩ := fd_of_mem hn8 hmem
       rw [hfd, Option.bind_some] at hf
       have HF2 := Aside0.mk hf
       have HIN := Aside0.mk ((memS_iff _ _).1 hmem)
       clear hf HF hmem hfd
       obtain ⟨At, ct, et⟩ := Kd.R_slice HD2.out.row
       subst et
       obtain ⟨-, hct, hCt⟩ := Kd.R_reads' HD2.out.row
       have HCT := Aside0.mk hCt
       have LCT := Aside0.mk hct
       have hx02 := X02.out
       clear hct hCt
       go_wp2_with fail
       refine (voussoirref30_among.calls _ At ct met f.str _ _ HCT.out LCT.out (among_f met f.str HM2.out)).mono ?_
       rintro e3 w3 ⟨rfl, hd3⟩
       have HD3 := Aside0.mk (HD2.out.below hd3.below)
       have X03 := Aside0.mk (held1 hd3.below X02.out)
       have X13 := Aside0.mk (held1 hd3.below X12.out)
       clear hd3 HD2 X02 X12 HCT LCT hx02
       cases hms : memS met f.str with
       | true =>
        have hf := HF2.out
        rw [hms, if_pos rfl] at hf
        obtain rfl := Option.some.inj hf
        obtain rfl := Option.some.inj HPP.out
        clear hf hms
        obtain ⟨y0, y1, y2, y3, y4, y5, y6, y7, y8, y9, y10, y11⟩ := feat_cells HD3.out.res
        have yf := blk_frozen HD3.out.res
        go_wp2_with fail
        refine bodyPost_ret (results_ct rfl _ _ w.heap.size 30 (featCells FT.zero (.slice none 0 0) (.slice none 0 0)) (0, 0) _ rfl (put12_blk FT.zero (.slice none 0 0) (.slice none 0 0) HD3.out.res) Tryz.underlying30 rfl (by kernel_rfl)) rfl ?_
        exact FromPost.zero HD3.out.res HD3.out.hb
       | false =>
        have hf := HF2.out
        rw [hms, if_neg Bool.false_ne_true] at hf
        obtain ⟨⟨F', ok⟩, hset, hf⟩ := Option.bind_eq_some_iff.1 hf
        simp only at hf
        have HSET := Aside0.mk hset
        have HF3 := Aside0.mk hf
        have hx03 := X03.out
        have hnd : (met ++ [f.str]).Nodup := by
         rw [List.nodup_append]
         refine ⟨HGD.out.1, by simp, fun a ha b hb e => ?_⟩
         rw [List.mem_singleton] at hb
         rw [hb] at e
         rw [e] at ha
         have hin := (memS_iff met f.str).2 ha
         rw [hin] at hms
         cases hms
        have hsub : ∀ s ∈ met ++ [f.str], s ∈ (kAt n).2 := fun s hs => by
         rcases List.mem_append.1 hs with h | h
         · exact HGD.out.2 s h
         · rw [List.mem_singleton] at h; rw [h]; exact HIN.out
        have HGD2 : Aside0 ((met ++ [f.str]).Nodup ∧ ∀ s ∈ met ++ [f.str], s ∈ (kAt n).2) := ⟨hnd, hsub⟩
        clear hnd hsub
        clear hf HF2 hset hms HGD HIN
        have hml : met.length ≤ 100000 := by have := HM.out; have := HL2.out; omega
        go_wp2_with (first | ((with_reducible refine gate_dst (N := 59) rfl ?_); refine Kd.R_append Kd.string (w0 := w) (W := w3) w.heap.size rfl (.tmp 52) (.tmp 58) 25 9 (.string ⟨#[]⟩) 16 rfl Tryz.underlying25 info9 rfl (by decide) (by decide) _ met f.str [.string f.str] (fun _ => True) (fun _ => False) rfl rfl rfl (fun _ h_ => h_.elim) (fun _ _ => trivial) HD3.out.row HD3.out.hb (below_size HD3.out.hb) (by omega) ?_; intro v1 w4 hR1 hb1 hg1 hat1; have HD4 := Aside0.mk (HD3.out.grown hR1 hb1 hg1 hat1); clear hR1 hb1 hg1 hat1 HD3 X03 X13 hx03 hml))
        go_upto_region 14 with fail
        obtain ⟨A3, c3, A5, c5, e3, e5, hat⟩ := HD4.out.own.at
        subst e3 e5
        have X04 := Aside0.mk (held1 HD4.out.hb XW0.out)
        have X14 := Aside0.mk (held1 HD4.out.hb XW1.out)
        clear hat
        go_cut [13, 14] (fun p13 q wx => q = .bool ok ∧ ∃ (b13 : Nat) (A3' A5' : Option Addr) (c3' c5' : Nat), p13 = .pointer (some ⟨b13, 0, none⟩) ∧ Aside0 (wx.heap[b13]? = some (.cells (featCells F' (.slice A3' F'.onA.length c3') (.slice A5' F'.andA.length c5')) 30 (0, 0))) ∧ Aside0 (RowsQ wx w.heap.size F' (.slice A3' F'.onA.length c3') (.slice A5' F'.andA.length c5')) ∧ Aside0 (RdAt w wx P F (.slice A3 F.onA.length c3) (.slice A5 F.andA.length c5) v1 (met ++ [f.str])) ∧ Aside0 (∀ k, v1.ownBlock = some k → (Value.slice A3' F'.onA.length c3').ownBlock ≠ some k ∧ (Value.slice A5' F'.andA.length c5').ownBlock ≠ some k))
        case first =>
         clear HF3 HPP
         go_region_held3 (fun w' => w'.cell? ⟨P, 0, none⟩ = some (.string F.id) ∧ w'.cell? ⟨P, 1, none⟩ = some (.int .i64 F.kind) ∧ w'.cell? ⟨P, 2, none⟩ = some (.string F.onT) ∧ w'.cell? ⟨P, 3, none⟩ = some (.slice A3 F.onA.length c3) ∧ w'.cell? ⟨P, 4, none⟩ = some (.string F.andT) ∧ w'.cell? ⟨P, 5, none⟩ = some (.slice A5 F.andA.length c5) ∧ w'.cell? ⟨P, 6, none⟩ = some (.string F.sketch) ∧ w'.cell? ⟨P, 7, none⟩ = some (.string F.amount) ∧ w'.cell? ⟨P, 8, none⟩ = some (.string F.count) ∧ w'.cell? ⟨P, 9, none⟩ = some (.string F.x) ∧ w'.cell? ⟨P, 10, none⟩ = some (.string F.y) ∧ w'.cell? ⟨P, 11, none⟩ = some (.string F.z) ∧ w'.cell? (ad.add (m * 2)) = some (.string f.str) ∧ w'.cell? ⟨(ad.add (m * 2)).block, (ad.add (m * 2)).off + 1, none⟩ = some (.string tx)) ((refine held14 ?_ HD4.out.own.blk X04.out X14.out; (repeat (first | with_reducible exact HB5.out | with_reducible exact Below.refl _ _ | with_reducible apply below_drew | with_reducible apply below_alloc | (with_reducible refine below_set ?_ (by with_reducible exact Nat.le_refl _)))))) (first | (go_at_call 28; refine (refPut_cells k f F F' ok A3 c3 A5 c5 tx (by have := HWT2.out; omega) _ HSET.out).mono ?_; rintro e5 w5 ⟨v3', v5', rfl, hrq, hown, hb5⟩; have HRS := Aside0.mk (hrq w.heap.size (by first | exact below_size (below_step HD4.out.hb (by repeat (first | with_reducible exact Below.refl _ _ | with_reducible apply below_drew | with_reducible apply below_alloc))) | omega) (RowsQ.below ⟨HD4.out.own.q3, HD4.out.own.q5⟩ (by repeat (first | with_reducible exact Below.refl _ _ | with_reducible apply below_drew | with_reducible apply below_alloc)))); have HOWN5 := Aside0.mk (HD4.out.apart (below_size (by repeat (first | with_reducible exact Below.refl _ _ | with_reducible apply below_drew | with_reducible apply below_alloc))) hown); have HB5 : Aside0 (Below w4.heap.size w4 w5) := ⟨below_step (by repeat (first | with_reducible exact Below.refl _ _ | with_reducible apply below_drew | with_reducible apply below_alloc)) hb5⟩; obtain ⟨A3', c3', e33, -⟩ := Kd.Q_slice HRS.out.q3; obtain ⟨A5', c5', e55, -⟩ := Kd.Q_slice HRS.out.q5; subst e33 e55; (first | (have Y5 : w5.heap[w4.heap.size]? = some (.cells (featCells FT.zero (.slice none 0 0) (.slice none 0 0)) 30 (0, 0)) := blk_below (w := w4.drew.alloc (.cells (featCells FT.zero (.slice none 0 0) (.slice none 0 0)) 30)) (blk_new w4.drew _) hb5; obtain ⟨y0, y1, y2, y3, y4, y5, y6, y7, y8, y9, y10, y11⟩ := feat_cells Y5; have yf := blk_frozen Y5) | skip); clear hb5 hrq hown))
         all_goals
          go_wp2_with fail
          go_meet
          first
           | (
            have r1 := put12_blk F' (.slice A3' F'.onA.length c3') (.slice A5' F'.andA.length c5') Y5
            have r2 := RowsQ.far HRS.out Y5 (put12_keep w5 w4.heap.size F' (.slice A3' F'.onA.length c3') (.slice A5' F'.andA.length c5'))
            have r3 := RdAt.far (HD4.out.below HB5.out) Y5 (Nat.ne_of_lt (blk_lt HD4.out.own.blk)) (Nat.ne_of_lt (blk_lt HD4.out.res)) (put12_keep w5 w4.heap.size F' (.slice A3' F'.onA.length c3') (.slice A5' F'.andA.length c5')) (put12_below F' (.slice A3' F'.onA.length c3') (.slice A5' F'.andA.length c5') (HD4.out.below HB5.out).hb (below_size HD4.out.hb))
            exact ⟨rfl, w4.heap.size, A3', A5', c3', c5', rfl, ⟨r1⟩, ⟨r2⟩, ⟨r3⟩, HOWN5⟩)
           | (
            have r1 := blk_new w5 (.cells (featCells F' (.slice A3' F'.onA.length c3') (.slice A5' F'.andA.length c5')) 30)
            have r2 := RowsQ.below HRS.out (below_alloc (Below.refl w5.heap.size w5) (.cells (featCells F' (.slice A3' F'.onA.length c3') (.slice A5' F'.andA.length c5')) 30))
            have r3 := (HD4.out.below HB5.out).below (below_alloc (Below.refl w5.heap.size w5) (.cells (featCells F' (.slice A3' F'.onA.length c3') (.slice A5' F'.andA.length c5')) 30))
            exact ⟨rfl, w5.heap.size, A3', A5', c3', c5', rfl, ⟨r1⟩, ⟨r2⟩, ⟨r3⟩, HOWN5⟩)
        case rest =>
         obtain ⟨rfl, b13, A3', A5', c3', c5', rfl, HB13, HRS, HD6, HOWN6⟩ := hcut
         clear HD4 X04 X14
         cases ok with
         | false =>
          have hf := HF3.out
          rw [if_neg Bool.false_ne_true] at hf
          obtain rfl := Option.some.inj hf
          obtain rfl := Option.some.inj HPP.out
          clear hf
          obtain ⟨y0, y1, y2, y3, y4, y5, y6, y7, y8, y9, y10, y11⟩ := feat_cells HD6.out.res
          have yf := blk_frozen HD6.out.res
          go_wp2_with fail
          refine bodyPost_ret (results_ct rfl _ _ w.heap.size 30 (featCells FT.zero (.slice none 0 0) (.slice none 0 0)) (0, 0) _ rfl (put12_blk FT.zero (.slice none 0 0) (.slice none 0 0) HD6.out.res) Tryz.underlying30 rfl (by kernel_rfl)) rfl ?_
          exact FromPost.zero HD6.out.res HD6.out.hb
         | true =>
          have hf := HF3.out
          rw [if_pos rfl] at hf
          have HFL2 := Aside0.mk hf
          have HWT3 := Aside0.mk (show FT.wt F' + lensP (l2.drop (m + 1)) ≤ 10000 by have := HWT2.out; have := set_wt (by omega) HSET.out; omega)
          have HM3 := Aside0.mk (show (met ++ [f.str]).length = m + 1 by rw [List.length_append, HM.out]; rfl)
          have HD7 : Aside0 (RdAt w (put12 wc P F' (.slice A3' F'.onA.length c3') (.slice A5' F'.andA.length c5')) P F' (.slice A3' F'.onA.length c3') (.slice A5' F'.andA.length c5') v1 (met ++ [f.str])) := ⟨HD6.out.put (put12_blk F' (.slice A3' F'.onA.length c3') (.slice A5' F'.andA.length c5') HD6.out.own.blk) HRS.out (put12_keep wc P F' (.slice A3' F'.onA.length c3') (.slice A5' F'.andA.length c5')) (put12_below F' (.slice A3' F'.onA.length c3') (.slice A5' F'.andA.length c5') HD6.out.hb (Nat.le_of_lt HD6.out.hlt)) HOWN6.out⟩
          obtain ⟨z0, z1, z2, z3, z4, z5, z6, z7, z8, z9, z10, z11⟩ := feat_cells HB13.out
          obtain ⟨y0, y1, y2, y3, y4, y5, y6, y7, y8, y9, y10, y11⟩ := feat_cells HD6.out.own.blk
          have yf := blk_frozen HD6.out.own.blk
          clear hf HF3
          go_wp2_with fail
          go_roundw
          case rel => first | exact ⟨m + 1, F', _, _, met ++ [f.str], by go_num, by omega, HD7, HFL2, HM3, HWT3, HGD2⟩ | ((repeat apply Exists.intro); exact ⟨⟨m + 1, F', _, _, met ++ [f.str], by go_num, by omega, HD7, HFL2, HM3, HWT3, HGD2⟩, rfl⟩)
          case measure => simp [RowKit.intOf]; omega
   · have hf := HFL.out
     rw [List.drop_eq_nil_of_le (by omega), fill] at hf
     obtain rfl := Option.some.inj hf
     have hpp := HPP.out
     simp only at hpp
     have HPQ := Aside0.mk hpp
     have HWF := Aside0.mk (show FT.wt F ≤ 10000 by have := HWT.out; omega)
     have HMS := Aside0.mk (show met.length < 4611686018427387904 by have := HM.out; have := HL2.out; omega)
     have HND := Aside0.mk (own_nodup n hn8)
     have hown8 : (kAt n).2.length ≤ 4 := by rw [kindFd_str n hn8, List.length_map]; exact (kindFd_pos n hn8).2
     obtain ⟨At, ct, et⟩ := Kd.R_slice HD.out.row
     subst et
     clear hf HFL HPP hpp HWT HM
     go_wp2_with fail
     go_loopw [15] (fun i wr => ∃ (j : Nat), i = .int .i64 j ∧ j ≤ (kAt n).2.length ∧ Aside0 (RdAt w wr P F v3 v5 (.slice At met.length ct) met) ∧ Aside0 (∀ (q : Nat) s, q < j → (kAt n).2[q]? = some s → s ∈ met))
      (fun i _ => 8 - (RowKit.intOf i).toNat)
     case atStart => exact ⟨0, rfl, Nat.zero_le _, HD, ⟨fun q s hq => absurd hq (Nat.not_lt_zero q)⟩⟩
     case round =>
      clear HD hm hlt
      obtain ⟨j, rfl, hj, HD, HALL⟩ := hrel
      go_wp2_with fail
      refine (voussoirref30_has.calls 1 ((n : Int) + 1) (kAt n).2 _ (has_f n hn8)).mono ?_
      rintro e2 w2 ⟨u0, rfl, hR, hb2⟩
      obtain ⟨A7, c7, e7⟩ := Kd.R_slice hR
      subst e7
      have HD2 := Aside0.mk (HD.out.below hb2)
      clear hR hb2 HD
      by_cases hlt : j < (kAt n).2.length
      · have hlt2 : (j : Int) < ((kAt n).2.length : Int) := by omega
        obtain ⟨s, hs⟩ : ∃ s, (kAt n).2[j]? = some s := ⟨_, List.getElem?_eq_getElem hlt⟩
        go_wp2_with fail
        refine (voussoirref30_has.calls 1 ((n : Int) + 1) (kAt n).2 _ (has_f n hn8)).mono ?_
        rintro e3 w3 ⟨u0, rfl, hR, hb3⟩
        obtain ⟨A8, c8, e8⟩ := Kd.R_slice hR
        subst e8
        have HD3 := Aside0.mk (HD2.out.below hb3)
        have hC8 := (Kd.R_reads' hR).2.2
        obtain ⟨ad8, e8, x8⟩ := Kd.at_string hC8 j (by omega) hlt2
        subst e8
        have hrd : rdOf ByteArray.empty (kAt n).2 (j : Int) = s := by unfold rdOf; rw [Int.toNat_natCast, List.getD_eq_getElem?_getD, hs]; rfl
        rw [hrd, Int.toNat_natCast] at x8
        obtain ⟨-, hct, hCt⟩ := Kd.R_reads' HD3.out.row
        have HCT := Aside0.mk hCt
        have LCT := Aside0.mk hct
        have HS := Aside0.mk hs
        clear hb3 HD2 hR hC8 hrd hct hCt hs
        go_wp2_with fail
        refine (voussoirref30_among.calls _ At ct met s _ _ HCT.out LCT.out (among_f met s HMS.out)).mono ?_
        rintro e4 w4 ⟨rfl, hd4⟩
        have HD4 := Aside0.mk (HD3.out.below hd4.below)
        clear hd4 HD3 x8 HCT LCT
        cases hin : memS met s with
        | true =>
         have HALL2 : Aside0 (∀ (q : Nat) s, q < j + 1 → (kAt n).2[q]? = some s → s ∈ met) := ⟨fun q t hq ht => by
          rcases Nat.lt_or_ge q j with h | h
          · exact HALL.out q t h ht
          · obtain rfl : q = j := by omega
            obtain rfl := Option.some.inj (HS.out.symm.trans ht)
            exact (memS_iff _ _).1 hin⟩
         clear hin HALL HS
         go_wp2_with fail
         go_roundw
         case rel => first | exact ⟨j + 1, by go_num, by omega, HD4, HALL2⟩ | ((repeat apply Exists.intro); exact ⟨⟨j + 1, by go_num, by omega, HD4, HALL2⟩, rfl⟩)
         case measure => simp [RowKit.intOf]; omega
        | false =>
         have hpq := HPQ.out
         rw [if_pos (by
          refine Classical.byContradiction fun hc => ?_
          have := nd_all HGD.out.1 HGD.out.2 (by omega) s (List.mem_of_getElem? HS.out)
          rw [(memS_iff met s).2 this] at hin
          cases hin)] at hpq
         obtain rfl := Option.some.inj hpq
         clear hpq hin
         obtain ⟨y0, y1, y2, y3, y4, y5, y6, y7, y8, y9, y10, y11⟩ := feat_cells HD4.out.res
         have yf := blk_frozen HD4.out.res
         go_wp2_with fail
         refine bodyPost_ret (results_ct rfl _ _ w.heap.size 30 (featCells FT.zero (.slice none 0 0) (.slice none 0 0)) (0, 0) _ rfl (put12_blk FT.zero (.slice none 0 0) (.slice none 0 0) HD4.out.res) Tryz.underlying30 rfl (by kernel_rfl)) rfl ?_
         exact FromPost.zero HD4.out.res HD4.out.hb
      · have hlt2 : ¬ (j : Int) < ((kAt n).2.length : Int) := by omega
        have hpq := HPQ.out
        rw [if_neg (by
         refine Nat.not_lt.2 (nd_le HND.out (fun x hx => ?_))
         obtain ⟨q, hq, rfl⟩ := List.getElem_of_mem hx
         exact HALL.out q _ (by omega) (List.getElem?_eq_getElem hq))] at hpq
        obtain ⟨e, he, hpq⟩ := Option.bind_eq_some_iff.1 hpq
        have HE := Aside0.mk he
        have HPR := Aside0.mk hpq
        obtain ⟨A3, c3, A5, c5, e3, e5, hat⟩ := HD2.out.own.at
        have HAT := Aside0.mk hat
        subst e3 e5
        obtain ⟨q0, q1, q2, q3, q4, q5, q6, q7, q8, q9, q10, q11⟩ := feat_cells HD2.out.own.blk
        clear he hpq hat HPQ HALL
        go_wp2_with fail
        refine (refCheck_walk k F A3 c3 A5 c5 e _ HAT.out.r3 HAT.out.l3 HAT.out.r5 HAT.out.l5 HWF.out HE.out).mono ?_
        rintro e8 w8 ⟨rfl, hb8⟩
        have HD8 := Aside0.mk (HD2.out.below hb8)
        clear hb8 q0 q1 q2 q3 q4 q5 q6 q7 q8 q9 q10 q11 HD2 HE HAT
        obtain ⟨y0, y1, y2, y3, y4, y5, y6, y7, y8, y9, y10, y11⟩ := feat_cells HD8.out.res
        have yf := blk_frozen HD8.out.res
        by_cases hz : e = 0
        · subst hz
          have hpq := HPR.out
          rw [if_pos rfl] at hpq
          obtain rfl := Option.some.inj hpq
          obtain ⟨q0, q1, q2, q3, q4, q5, q6, q7, q8, q9, q10, q11⟩ := feat_cells HD8.out.own.blk
          clear hpq HPR
          go_wp2_with fail
          refine bodyPost_ret (results_ct rfl _ _ w.heap.size 30 (featCells F (.slice A3 F.onA.length c3) (.slice A5 F.andA.length c5)) (0, 0) _ rfl (put12_blk F (.slice A3 F.onA.length c3) (.slice A5 F.andA.length c5) HD8.out.res) Tryz.underlying30 rfl (by kernel_rfl)) rfl ?_
          have kb := put12_keep w8 w.heap.size F (.slice A3 F.onA.length c3) (.slice A5 F.andA.length c5)
          exact ⟨_, _, rfl, Kd.Q_mono (Kd.Q_keep (Kd.Q_types HD8.out.own.q3 HD8.out.res (by decide)) kb (fun _ hk => hk.2)) (fun _ hk => hk.1), Kd.Q_mono (Kd.Q_keep (Kd.Q_types HD8.out.own.q5 HD8.out.res (by decide)) kb (fun _ hk => hk.2)) (fun _ hk => hk.1), put12_below _ _ _ HD8.out.hb (Nat.le_refl _)⟩
        · have hz2 : (e != 0) = true := bne_iff_ne.2 hz
          have hpq := HPR.out
          rw [if_neg hz] at hpq
          obtain rfl := Option.some.inj hpq
          clear hpq HPR hz
          go_wp2_with fail
          refine bodyPost_ret (results_ct rfl _ _ w.heap.size 30 (featCells FT.zero (.slice none 0 0) (.slice none 0 0)) (0, 0) _ rfl (put12_blk FT.zero (.slice none 0 0) (.slice none 0 0) HD8.out.res) Tryz.underlying30 rfl (by kernel_rfl)) rfl ?_
          exact FromPost.zero HD8.out.res HD8.out.hb
end Go.Proofs.YtoccbcfjbingbaaGreatDoor.X30

namespace Go.Proofs.YtoccbcfjbingbaaGreatDoor.X30
open Go hiding Fd
open Go.RowKit Go.Shelf Go.Lib Go.Proofs.YtoccbcfjbingbaaGreatDoorW.PrintWords Go.Proofs.YtoccbcfjbingbaaGreatDoorW.PrintLast Go.Proofs.YtoccbcfjbingbaaGreatDoorW.PrintMore Go.Proofs.YtoccbcfjbingbaaGreatDoor.P30 Go.Proofs.YtoccbcfjbingbaaGreatDoor.P27 Go.Proofs.Facename
set_option linter.unusedVariables false
set_option linter.unusedSimpArgs false
def wtP (l : List S45) : Nat := (l.map fun d => d.f0.size + d.f1.size + 1).sum
theorem wrap3 (a x y : Nat) (h : a + (x + y + 1) < 4611686018427387904) : wrap64 ((wrap64 ((wrap64 ((a : Int) + (x : Int))) + (y : Int))) + 1) = ((a + (x + y + 1) : Nat) : Int) := by
 have e1 : wrap64 ((a : Int) + (x : Int)) = ((a + x : Nat) : Int) := by unfold wrap64; omega
 have e2 : wrap64 (((a + x : Nat) : Int) + (y : Int)) = ((a + x + y : Nat) : Int) := by unfold wrap64; omega
 have e3 : wrap64 (((a + x + y : Nat) : Int) + 1) = ((a + (x + y + 1) : Nat) : Int) := by unfold wrap64; omega
 rw [e1, e2, e3]
theorem wrap1 (n : Nat) (h : n < 4611686018427387904) : wrap64 ((n : Int) + 1) = ((n + 1 : Nat) : Int) := by unfold wrap64; omega
set_option maxHeartbeats 800000 in
theorem great_l0Z (l : List S45) (hl : l.length < 4611686018427387904) : ∀ (rest pre : List S45), l = pre ++ rest → ∀ (a : Nat), a + wtP rest < 4611686018427387904 → ∀ k, rest.length < k →
 voussoirlaw30_great.l0 k l (a : Int) (pre.length : Int) = some (decide (a + wtP rest > 6000))
 | [], pre, hp, a, ha, k, hk => by
  obtain ⟨k, rfl⟩ : ∃ m, k = m + 1 := ⟨k - 1, by omega⟩
  rw [List.append_nil] at hp
  simp only [voussoirlaw30_great.l0]
  rw [if_neg (by rw [hp]; omega)]
  congr 1
  exact decide_eq_decide.2 (by simp [wtP]; omega)
 | d :: rest, pre, hp, a, ha, k, hk => by
  obtain ⟨k, rfl⟩ : ∃ m, k = m + 1 := ⟨k - 1, by omega⟩
  have hlen : l.length = pre.length + (rest.length + 1) := by rw [hp]; simp
  have hrd : rd_T45 l (pre.length : Int) = d := by
   unfold rd_T45
   rw [Int.toNat_natCast, List.getD_eq_getElem?_getD, hp, List.getElem?_append_right (Nat.le_refl _), Nat.sub_self]
   rfl
  have hw : wtP (d :: rest) = d.f0.size + d.f1.size + 1 + wtP rest := by unfold wtP; simp
  rw [hw] at ha ⊢
  simp only [voussoirlaw30_great.l0]
  rw [if_pos (by omega), if_pos (by omega), hrd]
  have hk2 : rest.length < k := by simp only [List.length_cons] at hk; omega
  have ih := great_l0Z l hl rest (pre ++ [d]) (by rw [hp]; simp) (a + (d.f0.size + d.f1.size + 1)) (by omega) k hk2
  have hpl : (pre ++ [d]).length = pre.length + 1 := by simp
  rw [hpl] at ih
  rw [wrap3 a d.f0.size d.f1.size (by omega), wrap1 pre.length (by omega), ih]
  congr 1
  exact decide_eq_decide.2 (by omega)
theorem wtP_len : ∀ l, l.length ≤ wtP l
 | [] => Nat.zero_le _
 | d :: l => by
  have := wtP_len l; have : wtP (d :: l) = d.f0.size + d.f1.size + 1 + wtP l := by unfold wtP; simp
  simp only [List.length_cons]; omega
theorem wtP_lens : ∀ l, lensP l ≤ wtP l
 | [] => Nat.zero_le _
 | d :: l => by
  have := wtP_lens l; have h1 : wtP (d :: l) = d.f0.size + d.f1.size + 1 + wtP l := by unfold wtP; simp
  have h2 : lensP (d :: l) = d.f1.size + lensP l := by unfold lensP; simp
  omega
theorem fill_ev (n : Nat) (hn : n < 8) : ∀ (l : List S45) (F : FT) (met : List ByteArray), FT.wt F + lensP l ≤ 10000 → ∃ r, Ev (fun k => fill k n F met l) r ∧ ∀ F' m', r = .inl (F', m') → FT.wt F' ≤ 10000
 | [], F, met, hw => ⟨_, Ev.now _, fun F' m' h => by cases h; unfold lensP at hw; simp at hw; omega⟩
 | d :: l, F, met, hw => by
  have h2 : lensP (d :: l) = d.f1.size + lensP l := by unfold lensP; simp
  simp only [fill]
  by_cases h1 : memS (kAt n).2 d.f0 = true
  · simp only [if_pos h1]
    by_cases h3 : memS met d.f0 = true
    · simp only [if_pos h3]
      exact ⟨_, Ev.now _, fun F' m' h => by cases h⟩
    · simp only [if_neg h3]
      obtain ⟨f, hf, -, -⟩ := fd_of_mem hn h1
      simp only [hf, Option.bind_some]
      obtain ⟨q, hq⟩ : ∃ q, Ev (fun k => setOf k F f d.f1) q := by
       unfold setOf
       by_cases hr : f.isRef = true
       · simp only [if_pos hr]
         obtain ⟨r, hr⟩ := parseRef_ev d.f1 (by omega)
         exact ⟨_, Ev.mapO hr⟩
       · simp only [if_neg hr]
         exact ⟨_, Ev.now _⟩
      by_cases ho : q.2 = true
      · have hwt : FT.wt q.1 ≤ FT.wt F + d.f1.size := by
         obtain ⟨k, hk⟩ := hq.rounds
         obtain ⟨q1, q2⟩ := q
         simp only at ho
         subst ho
         exact set_wt (by omega) hk
        obtain ⟨r, hr, hr2⟩ := fill_ev n hn l q.1 (met ++ [d.f0]) (by omega)
        exact ⟨r, Ev.bind (f := fun k p => if p.2 = true then fill k n p.1 (met ++ [d.f0]) l else some (.inr 3)) hq (by simp only [if_pos ho]; exact hr), hr2⟩
      · exact ⟨.inr 3, Ev.bind (f := fun k p => if p.2 = true then fill k n p.1 (met ++ [d.f0]) l else some (.inr 3)) hq (by simp only [if_neg ho]; exact Ev.now _), fun F' m' h => by cases h⟩
  · simp only [if_neg h1]
    exact ⟨_, Ev.now _, fun F' m' h => by cases h⟩
theorem from_ev (id kind : ByteArray) (l : List S45) (hw : id.size + lensP l ≤ 9000) : ∃ k p, fromFields k id kind l = some p := by
 unfold fromFields
 by_cases hk : (kindNo kind).2 = true
 · simp only [if_pos hk]
   have h18 := kindNo_le kind hk
   obtain ⟨r, hr, hr2⟩ := fill_ev ((kindNo kind).1 - 1).toNat (by omega) l (FT.start id (kindNo kind).1) [] (by have e0 : (⟨#[]⟩ : ByteArray).size = 0 := rfl; simp [FT.wt, FT.start, FT.zero, P30.wt, e0]; omega)
   cases r with
   | inr e =>
    obtain ⟨K, hK⟩ := hr
    have h := hK K (Nat.le_refl _)
    simp only at h
    exact ⟨K, (FT.zero, e), by rw [h, Option.bind_some]⟩
   | inl q =>
    obtain ⟨F, met⟩ := q
    by_cases hs : met.length < (kAt ((kindNo kind).1 - 1).toNat).2.length
    · obtain ⟨K, hK⟩ := hr
      have h := hK K (Nat.le_refl _)
      simp only at h
      exact ⟨K, (FT.zero, 9), by rw [h, Option.bind_some]; simp only [if_pos hs]⟩
    · obtain ⟨e, K2, hK2⟩ := checkOf_ev F (hr2 F met rfl)
      obtain ⟨K, hK⟩ := hr
      refine ⟨K + K2, if e = 0 then (F, 0) else (FT.zero, e), ?_⟩
      have h := hK (K + K2) (by omega)
      simp only at h
      rw [h, Option.bind_some]
      simp only [if_neg hs]
      have := hK2 (K + K2) (by omega)
      simp only at this
      rw [this, Option.bind_some]
      by_cases he : e = 0
      · rw [if_pos he, if_pos he]
      · rw [if_neg he, if_neg he]
 · simp only [if_neg hk]
   exact ⟨0, _, rfl⟩
theorem eqlArr (w : World) (x y z : ByteArray) : (binOp .eql 28 (.agg #[.string x, .string y, .string z]) (.agg #[.string x, .string y, .string z])).run Tryz.prog w = .ok (.bool true) w := by
 have h := eqArr3 9998 w Tryz.underlying28 x x y y z z
 have h2 : (Op.equal 28 (.agg #[.string x, .string y, .string z]) (.agg #[.string x, .string y, .string z])).run Tryz.prog w = .ok true w := by
  refine Eq.trans (show _ = (Op.equalIn (9998 + 2) 28 (.agg #[.string x, .string y, .string z]) (.agg #[.string x, .string y, .string z])).run Tryz.prog w from rfl) (h.trans ?_)
  simp
 simp only [binOp]
 simp [h2]
set_option maxHeartbeats 6400000 in
set_option maxRecDepth 100000 in
theorem refSame_any (F : FT) (A3 : Option Addr) (c3 : Nat) (A5 : Option Addr) (c5 : Nat) (B3 : Option Addr) (d3 : Nat) (B5 : Option Addr) (d5 : Nat) (w : World)
 (h3 : Kd.C Kd.string w A3 F.onA.length F.onA) (hc3 : F.onA.length ≤ c3) (h5 : Kd.C Kd.string w A5 F.andA.length F.andA) (hc5 : F.andA.length ≤ c5)
 (g3 : Kd.C Kd.string w B3 F.onA.length F.onA) (hd3 : F.onA.length ≤ d3) (g5 : Kd.C Kd.string w B5 F.andA.length F.andA) (hd5 : F.andA.length ≤ d5) :
 Calls Tryz.prog 15 #[.agg #[.string F.id, .int .i64 F.kind, .string F.onT, .slice A3 F.onA.length c3, .string F.andT, .slice A5 F.andA.length c5, .string F.sketch, .string F.amount, .string F.count, .string F.x, .string F.y, .string F.z], .agg #[.string F.id, .int .i64 F.kind, .string F.onT, .slice B3 F.onA.length d3, .string F.andT, .slice B5 F.andA.length d5, .string F.sketch, .string F.amount, .string F.count, .string F.x, .string F.y, .string F.z]] w fun e w' => e = .returned (.bool true) ∧ Below w.heap.size w w' := by
 have HS3 := Aside0.mk ((sameRef_f' F.onT F.onT F.onA F.onA h3.2.1 h3.2.1).trans (show _ = some true by simp))
 have HS5 := Aside0.mk ((sameRef_f' F.andT F.andT F.andA F.andA h5.2.1 h5.2.1).trans (show _ = some true by simp))
 have H3 := Aside0.mk h3
 have H5 := Aside0.mk h5
 have G3 := Aside0.mk g3
 have G5 := Aside0.mk g5
 have L3 := Aside0.mk hc3
 have L5 := Aside0.mk hc5
 have M3 := Aside0.mk hd3
 have M5 := Aside0.mk hd5
 have hF := Aside0.mk (blk_alloc (blk_new w (.cells (featCells F (.slice A3 F.onA.length c3) (.slice A5 F.andA.length c5)) 30)) (.cells (featCells F (.slice B3 F.onA.length d3) (.slice B5 F.andA.length d5)) 30))
 have hG := blk_new (w.alloc (.cells (featCells F (.slice A3 F.onA.length c3) (.slice A5 F.andA.length c5)) 30)) (.cells (featCells F (.slice B3 F.onA.length d3) (.slice B5 F.andA.length d5)) 30)
 rw [show (w.alloc (.cells (featCells F (.slice A3 F.onA.length c3) (.slice A5 F.andA.length c5)) 30)).heap.size = w.heap.size + 1 by simp] at hG
 have HG := Aside0.mk hG
 have HB0 := Aside0.mk (below_alloc (below_alloc (Below.refl w.heap.size w) (.cells (featCells F (.slice A3 F.onA.length c3) (.slice A5 F.andA.length c5)) 30)) (.cells (featCells F (.slice B3 F.onA.length d3) (.slice B5 F.andA.length d5)) 30))
 have e1 : (F.id.toList == F.id.toList) = true := beq_self_eq_true _
 have e2 : (F.kind == F.kind) = true := beq_self_eq_true _
 have e4 : (F.sketch.toList == F.sketch.toList) = true := beq_self_eq_true _
 have e5 : (F.amount.toList == F.amount.toList) = true := beq_self_eq_true _
 have e6 : (F.count.toList == F.count.toList) = true := beq_self_eq_true _
 have e7 := fun w => eqlArr w F.x F.y F.z
 clear h3 h5 g3 g5 hc3 hc5 hd3 hd5 hG
 go_enter Tryz.func15, Tryz.ntmps15
 go_wp2_with fail
 refine (voussoirref30_SameRef.calls _ F.onT A3 c3 F.onA F.onT B3 d3 F.onA true _ (Kd.C_below H3.out HB0.out) L3.out (Kd.C_below G3.out HB0.out) M3.out HS3.out).mono ?_
 rintro e1 w1 ⟨rfl, hb1⟩
 have HB1 := Aside0.mk (below_step HB0.out hb1)
 have HF1 := Aside0.mk (blk_below hF.out hb1)
 have HG1 := Aside0.mk (blk_below HG.out hb1)
 clear hb1 hF HG HB0
 obtain ⟨p0, p1, p2, p3, p4, p5, p6, p7, p8, p9, p10, p11⟩ := feat_cells HF1.out
 obtain ⟨q0, q1, q2, q3, q4, q5, q6, q7, q8, q9, q10, q11⟩ := feat_cells HG1.out
 go_wp2_with fail
 refine (voussoirref30_SameRef.calls _ F.andT A5 c5 F.andA F.andT B5 d5 F.andA true _ (Kd.C_below H5.out HB1.out) L5.out (Kd.C_below G5.out HB1.out) M5.out HS5.out).mono ?_
 rintro e2 w2 ⟨rfl, hb2⟩
 have HB2 := Aside0.mk (below_step HB1.out hb2)
 have HF2 := Aside0.mk (blk_below HF1.out hb2)
 have HG2 := Aside0.mk (blk_below HG1.out hb2)
 clear hb2 HF1 HG1 HB1 p0 p1 p2 p3 p4 p5 p6 p7 p8 p9 p10 p11 q0 q1 q2 q3 q4 q5 q6 q7 q8 q9 q10 q11
 obtain ⟨p0, p1, p2, p3, p4, p5, p6, p7, p8, p9, p10, p11⟩ := feat_cells HF2.out
 obtain ⟨q0, q1, q2, q3, q4, q5, q6, q7, q8, q9, q10, q11⟩ := feat_cells HG2.out
 go_wp2_with fail
 go_ret
 exact ⟨rfl, HB2.out⟩
theorem Read_cells (k : Nat) (a0 a1 : ByteArray) (A2 : Option Addr) (c2 : Nat) (l2 : List S45) (p : FT × Int) (w : World) (hr2 : Kd.C k45 w A2 l2.length l2) (hc2 : l2.length ≤ c2) (hl2 : l2.length ≤ 100000) (hW : a0.size + lensP l2 ≤ 9000) (hp : fromFields k a0 a1 l2 = some p) :
 Calls Tryz.prog 12 #[.string a0, .string a1, .slice A2 l2.length c2] w fun e w' => ∃ (B3 B5 : Option Addr) (d3 d5 : Nat), e = .returned (.tuple #[.agg #[.string p.1.id, .int .i64 p.1.kind, .string p.1.onT, .slice B3 p.1.onA.length d3, .string p.1.andT, .slice B5 p.1.andA.length d5, .string p.1.sketch, .string p.1.amount, .string p.1.count, .string p.1.x, .string p.1.y, .string p.1.z], .int .i64 p.2]) ∧
  Kd.C Kd.string w' B3 p.1.onA.length p.1.onA ∧ p.1.onA.length ≤ d3 ∧ Kd.C Kd.string w' B5 p.1.andA.length p.1.andA ∧ p.1.andA.length ≤ d5 ∧ Below w.heap.size w w' := by
 refine (Read_walk k a0 a1 A2 c2 l2 p w hr2 hc2 hl2 hW hp).mono ?_
 rintro e w' ⟨v3, v5, rfl, q3, q5, hb⟩
 obtain ⟨B3, d3, rfl, hd3⟩ := Kd.Q_slice q3
 obtain ⟨B5, d5, rfl, hd5⟩ := Kd.Q_slice q5
 exact ⟨B3, B5, d3, d5, rfl, (Kd.Q_reads' q3).2.2, hd3, (Kd.Q_reads' q5).2.2, hd5, hb⟩
theorem From_cells (k : Nat) (a0 a1 : ByteArray) (A2 : Option Addr) (c2 : Nat) (l2 : List S45) (p : FT × Int) (w : World) (hr2 : Kd.C k45 w A2 l2.length l2) (hc2 : l2.length ≤ c2) (hp : fromFields k a0 a1 l2 = some p) (hG : Env w) :
 Calls Tryz.prog 11 #[.string a0, .string a1, .slice A2 l2.length c2] w fun e w' => ∃ (B3 B5 : Option Addr) (d3 d5 : Nat), e = .returned (.tuple #[.agg #[.string p.1.id, .int .i64 p.1.kind, .string p.1.onT, .slice B3 p.1.onA.length d3, .string p.1.andT, .slice B5 p.1.andA.length d5, .string p.1.sketch, .string p.1.amount, .string p.1.count, .string p.1.x, .string p.1.y, .string p.1.z], .int .i64 p.2]) ∧
  Kd.C Kd.string w' B3 p.1.onA.length p.1.onA ∧ p.1.onA.length ≤ d3 ∧ Kd.C Kd.string w' B5 p.1.andA.length p.1.andA ∧ p.1.andA.length ≤ d5 ∧ Below w.heap.size w w' := by
 refine (FromFields_any k a0 a1 A2 c2 l2 p w hr2 hc2 hp hG).mono ?_
 rintro e w' ⟨v3, v5, rfl, q3, q5, hb⟩
 obtain ⟨B3, d3, rfl, hd3⟩ := Kd.Q_slice q3
 obtain ⟨B5, d5, rfl, hd5⟩ := Kd.Q_slice q5
 exact ⟨B3, B5, d3, d5, rfl, (Kd.Q_reads' q3).2.2, hd3, (Kd.Q_reads' q5).2.2, hd5, hb⟩
set_option maxHeartbeats 6400000 in
set_option maxRecDepth 100000 in
theorem FromLaw_walk (a0 a1 : ByteArray) (A2 : Option Addr) (c2 : Nat) (l2 : List S45) (w : World) (hr2 : Kd.C k45 w A2 l2.length l2) (hc2 : l2.length ≤ c2) (hwt : wtP l2 ≤ 1000000000) (hG : Env w) :
 Calls Tryz.prog 3 #[.string a0, .string a1, .slice A2 l2.length c2] w fun e w' => e = .returned (.bool true) ∧ Below w.heap.size w w' := by
 have hlen := wtP_len l2
 have hlens := wtP_lens l2
 have hgr : voussoirlaw30_great.f (l2.length + 1) l2 = some (decide (wtP l2 > 6000)) := by
  have := great_l0Z l2 (by omega) l2 [] rfl 0 (by omega) (l2.length + 1) (by omega)
  simp only [Nat.zero_add, List.length_nil] at this
  exact this
 obtain ⟨gr, hge⟩ : ∃ gr, gr = decide (wtP l2 > 6000) := ⟨_, rfl⟩
 rw [← hge] at hgr
 have HGR := Aside0.mk hgr
 have HGE := Aside0.mk hge
 have HG := Aside0.mk hG
 have R2 := Aside0.mk hr2
 have LEN := Aside0.mk hlen
 have LENS := Aside0.mk hlens
 clear hgr hge hG hr2 hlen hlens hwt
 go_enter Tryz.func3, Tryz.ntmps3
 go_wp2_with fail
 refine (alive_any _ HG.out).mono ?_
 rintro e1 w1 ⟨rfl, hb1⟩
 have HB1 := Aside0.mk hb1
 clear hb1
 go_wp2_with fail
 refine (voussoirlaw30_great.calls _ A2 c2 l2 gr _ (Kd.C_below R2.out HB1.out) hc2 HGR.out).mono ?_
 rintro e2 w2 ⟨rfl, hd2⟩
 have HB2 := Aside0.mk (below_step HB1.out hd2.below)
 clear hd2 HB1
 cases gr with
 | true =>
  go_wp2_with fail
  go_ret
  exact ⟨rfl, HB2.out⟩
 | false =>
 have hng := of_decide_eq_false HGE.out.symm
 by_cases h0 : 300 < a0.size
 · have h0' : ((300 : Int) < (a0.size : Int)) = True := eq_true (by omega)
   clear h0 hng
   go_wp2_with fail
   go_ret
   exact ⟨rfl, HB2.out⟩
 have h0' : ((300 : Int) < (a0.size : Int)) = False := eq_false (by omega)
 by_cases h1 : 300 < a1.size
 · have h1' : ((300 : Int) < (a1.size : Int)) = True := eq_true (by omega)
   clear h0 h1 hng
   go_wp2_with fail
   go_ret
   exact ⟨rfl, HB2.out⟩
 have h1' : ((300 : Int) < (a1.size : Int)) = False := eq_false (by omega)
 have hW : a0.size + lensP l2 ≤ 9000 := by have := LENS.out; omega
 have hL : l2.length ≤ 100000 := by have := LEN.out; omega
 obtain ⟨k, p, hp⟩ := from_ev a0 a1 l2 hW
 obtain ⟨kn, ok, hkn⟩ : ∃ kn ok, kindNo a1 = (kn, ok) := ⟨_, _, rfl⟩
 obtain ⟨kq, hkq⟩ := (kind_ev a1).rounds
 rw [hkn] at hkq
 have HP := Aside0.mk hp
 have HKN := Aside0.mk hkn
 have HKQ := Aside0.mk hkq
 have HW := Aside0.mk hW
 have HL := Aside0.mk hL
 have LC := Aside0.mk hc2
 clear hp hkn hkq hW hL h0 h1 hng hc2
 go_wp2_with fail
 refine (From_cells k a0 a1 A2 c2 l2 p _ (Kd.C_below R2.out HB2.out) LC.out HP.out (HG.out.below HB2.out)).mono ?_
 rintro e3 w3 ⟨A3, A5, c3, c5, rfl, hC3, hc3, hC5, hc5, hb3⟩
 have HB3 := Aside0.mk (below_step HB2.out hb3)
 have C3 := Aside0.mk hC3
 have C5 := Aside0.mk hC5
 have L3 := Aside0.mk hc3
 have L5 := Aside0.mk hc5
 clear hb3 hC3 hC5 hc3 hc5 HB2
 have K7 := Aside0.mk (blk_new w3 (.cells (featCells p.1 (.slice A3 p.1.onA.length c3) (.slice A5 p.1.andA.length c5)) 30))
 have HB4 := Aside0.mk (below_alloc HB3.out (.cells (featCells p.1 (.slice A3 p.1.onA.length c3) (.slice A5 p.1.andA.length c5)) 30))
 have C3a := Aside0.mk (Kd.C_alloc C3.out (.cells (featCells p.1 (.slice A3 p.1.onA.length c3) (.slice A5 p.1.andA.length c5)) 30))
 have C5a := Aside0.mk (Kd.C_alloc C5.out (.cells (featCells p.1 (.slice A3 p.1.onA.length c3) (.slice A5 p.1.andA.length c5)) 30))
 clear C3 C5 HB3
 go_wp2_with fail
 refine (Read_cells k a0 a1 A2 c2 l2 p _ (Kd.C_below R2.out HB4.out) LC.out HL.out HW.out HP.out).mono ?_
 rintro e5 w5 ⟨B3, B5, d3, d5, rfl, hD3, hd3, hD5, hd5, hb5⟩
 have HB5 := Aside0.mk (below_step HB4.out hb5)
 have C3b := Aside0.mk (Kd.C_below C3a.out hb5)
 have C5b := Aside0.mk (Kd.C_below C5a.out hb5)
 have K7b := Aside0.mk (blk_below K7.out hb5)
 have M3 := Aside0.mk hd3
 have M5 := Aside0.mk hd5
 have hA5 := below_alloc (Below.refl w5.heap.size w5) (.cells (featCells p.1 (.slice B3 p.1.onA.length d3) (.slice B5 p.1.andA.length d5)) 30)
 have K9 := Aside0.mk (blk_new w5 (.cells (featCells p.1 (.slice B3 p.1.onA.length d3) (.slice B5 p.1.andA.length d5)) 30))
 have K7c := Aside0.mk (blk_below K7b.out hA5)
 have C3c := Aside0.mk (Kd.C_below C3b.out hA5)
 have C5c := Aside0.mk (Kd.C_below C5b.out hA5)
 have D3c := Aside0.mk (Kd.C_below hD3 hA5)
 have D5c := Aside0.mk (Kd.C_below hD5 hA5)
 have HB6 := Aside0.mk (below_step HB5.out hA5)
 obtain ⟨g7, hg7⟩ : ∃ g, g = w3.heap.size := ⟨_, rfl⟩
 obtain ⟨g9, hg9⟩ : ∃ g, g = w5.heap.size := ⟨_, rfl⟩
 rw [← hg7] at K7c
 rw [← hg9] at K9
 have E7 := Aside0.mk hg7
 have E9 := Aside0.mk hg9
 clear hb5 hD3 hD5 hd3 hd5 hA5 hg7 hg9 K7 K7b C3a C5a C3b C5b HB4 HB5
 go_wp2_with fail
 refine (feature_KindByName.calls a1 kn ok _ (congrArg some HKN.out) (HG.out.below HB6.out)).mono ?_
 rintro e7 w7 ⟨rfl, hb7⟩
 have HB7 := Aside0.mk (below_step HB6.out hb7)
 have K7d := Aside0.mk (blk_below K7c.out hb7)
 have K9d := Aside0.mk (blk_below K9.out hb7)
 have C3d := Aside0.mk (Kd.C_below C3c.out hb7)
 have C5d := Aside0.mk (Kd.C_below C5c.out hb7)
 have D3d := Aside0.mk (Kd.C_below D3c.out hb7)
 have D5d := Aside0.mk (Kd.C_below D5c.out hb7)
 clear hb7 HB6 K7c K9 C3c C5c D3c D5c
 go_wp2_with fail
 refine (voussoirref30_Kind.calls kq a1 kn ok _ HKQ.out).mono ?_
 rintro e8 w8 ⟨rfl, hb8⟩
 have HB8 := Aside0.mk (below_step HB7.out hb8)
 have K7e := Aside0.mk (blk_below K7d.out hb8)
 have K9e := Aside0.mk (blk_below K9d.out hb8)
 have C3e := Aside0.mk (Kd.C_below C3d.out hb8)
 have C5e := Aside0.mk (Kd.C_below C5d.out hb8)
 have D3e := Aside0.mk (Kd.C_below D3d.out hb8)
 have D5e := Aside0.mk (Kd.C_below D5d.out hb8)
 clear hb8 HB7 K7d K9d C3d C5d D3d D5d
 rw [← E7.out, ← E9.out]
 have e1 : (p.2 == p.2) = true := beq_self_eq_true _
 have e2 : (kn == kn) = true := beq_self_eq_true _
 have e3 : (ok == ok) = true := beq_self_eq_true _
 obtain ⟨y0, y1, y2, y3, y4, y5, y6, y7, y8, y9, y10, y11⟩ := feat_cells K7e.out
 obtain ⟨z0, z1, z2, z3, z4, z5, z6, z7, z8, z9, z10, z11⟩ := feat_cells K9e.out
 go_wp2_with fail
 refine (refSame_any p.1 A3 c3 A5 c5 B3 d3 B5 d5 _ C3e.out L3.out C5e.out L5.out D3e.out M3.out D5e.out M5.out).mono ?_
 rintro e9 w9 ⟨rfl, hb9⟩
 have HB9 := Aside0.mk (below_step HB8.out hb9)
 clear hb9
 go_wp2_with fail
 go_ret
 exact ⟨rfl, HB9.out⟩
open Go.Proofs.YtoccbcfjbingbaaGreatDoor.Opens
open Go.ChangeShapes
theorem op45Z : Opens Tryz.prog 45 k45 wt45 good45 := by
 have h1 : FieldsOpen Tryz.prog [{ name := "Text", type := 9, offset := 1, embedded := false, tag := "", pkgPath := "", byteOffset := 16 }] 1 _ _ _ := fields_one rfl op9
 have h0 : FieldsOpen Tryz.prog [{ name := "Name", type := 9, offset := 0, embedded := false, tag := "", pkgPath := "", byteOffset := 0 }, { name := "Text", type := 9, offset := 1, embedded := false, tag := "", pkgPath := "", byteOffset := 16 }] 0 _ _ _ := fields_cons rfl op9 rfl h1
 exact opens_struct Tryz.underlying45 (by kernel_rfl) (fields_iso (fun x : S45 => (x.f0, x.f1)) (fun p => ⟨p.1, p.2⟩) (fun _ => rfl) h0)
theorem op22Z : Opens Tryz.prog 22 (Kd.slice 45 k45) (fun xs => (xs.map wt45).sum + 1) (fun xs => xs.length ≤ maxLen ∧ ∀ x ∈ xs, good45 x) := opens_slice Tryz.underlying22 (by kernel_rfl) op45Z
theorem wtP_wt : ∀ l : List S45, wtP l ≤ (l.map wt45).sum
 | [] => Nat.le_refl _
 | d :: l => by
  have := wtP_wt l
  have h1 : wtP (d :: l) = d.f0.size + d.f1.size + 1 + wtP l := by unfold wtP; simp
  have h2 : ((d :: l).map wt45).sum = wt45 d + (l.map wt45).sum := by simp
  have h3 : d.f0.size + d.f1.size + 1 ≤ wt45 d := by simp only [wt45]; omega
  omega
theorem From_all (a0 a1 : ByteArray) (y2 : List S45) (v2 : Value) (W : World) (w0 : a0.size ≤ 140737488351232) (w1 : a1.size ≤ 140737488351232) (k2 : (Kd.slice 45 k45).K W y2 [v2]) (b2 : (y2.map wt45).sum + 1 ≤ 1048576) (hG : Env W) :
 Calls Tryz.prog 3 #[.string a0, .string a1, v2] W fun e w' => e = .returned (.bool true) ∧ Below W.heap.size W w' := by
 obtain ⟨A2, c2, e, hc, hC⟩ := k2
 obtain rfl : v2 = .slice A2 y2.length c2 := (List.cons.inj e).1
 exact FromLaw_walk a0 a1 A2 c2 y2 W hC hc (by have := wtP_wt y2; omega) hG
end Go.Proofs.YtoccbcfjbingbaaGreatDoor.X30
