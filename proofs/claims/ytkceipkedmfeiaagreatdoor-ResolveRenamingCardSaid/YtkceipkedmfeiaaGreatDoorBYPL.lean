/- facename.ByPlane and resolve.least: the names of a plane, sorted, and the first of them. -/
import Derived.Test.YtkceipkedmfeiaaGreatDoorRV
import Derived.Test.YtkceipkedmfeiaaGreatDoorSTR
namespace Go.Proofs.YtkceipkedmfeiaaGreatDoor.XL
open Go Go.RowKit Go.Shelf Go.Proofs.YtkceipkedmfeiaaGreatDoorW.PrintWords Go.Proofs.YtkceipkedmfeiaaGreatDoorW.PrintLast Go.Proofs.YtkceipkedmfeiaaGreatDoorW.PrintMore Go.Proofs.YtkceipkedmfeiaaGreatDoor.X30 Go.Proofs.YtkceipkedmfeiaaGreatDoor.XU

def names (t : List NP) (p : PL) : List ByteArray := (t.filter fun x => plEq x.f1 p).map (·.f0)
theorem names_snoc (t : List NP) (p : PL) (n : Nat) (h : n < t.length) : names (t.take (n + 1)) p = names (t.take n) p ++ (if plEq t[n].f1 p = true then [t[n].f0] else []) := by
  unfold names
  rw [List.take_succ_eq_append_getElem h, List.filter_append, List.map_append]
  congr 1
  by_cases hh : plEq t[n].f1 p = true
  · rw [if_pos hh]; simp [hh]
  · rw [if_neg hh]; simp [hh]
theorem names_le (t : List NP) (p : PL) : (names t p).length ≤ t.length := by
  unfold names
  rw [List.length_map]
  exact List.length_filter_le _ _
theorem rd50 (L : List NP) (n : Nat) (h : n < L.length) : rd_T50 L (n : Int) = L[n] := by
  unfold rd_T50
  rw [Int.toNat_natCast, List.getD_eq_getElem?_getD, List.getElem?_eq_getElem h]
  rfl
theorem alloc_size (W : World) (o : Obj) : (W.alloc o).heap.size = W.heap.size + 1 := Array.size_push _
theorem info9s : (Tryz.prog.info? 9).map (fun i => (i.zero, i.size, i.bytes)) = some (some (.string ⟨#[]⟩), 1, 16) := by kernel_rfl
attribute [local go_sem high] eqA33
set_option maxHeartbeats 12800000 in
set_option maxRecDepth 100000 in
theorem ByPlane_any (t : List NP) (A1 : Option Addr) (c1 : Nat) (p : PL) (w : World) (h1 : Kd.C k50 w A1 t.length t) (lt : t.length ≤ 4398046511104) :
    Calls Tryz.prog 56 #[.slice A1 t.length c1, .agg (plCells p)] w fun e w' => ∃ v : Value, e = .returned v ∧ Kd.R Kd.string 9 w' w.heap.size (fun _ => True) v (compB (sortB (names t p))) ∧ Below w.heap.size w w' := by
  have R1 := Aside0.mk h1
  have HB0 := Aside0.mk (below_alloc (Below.refl w.heap.size w) (.cells (plCells p) 33))
  have K0 := Aside0.mk (blk_new w (.cells (plCells p) 33))
  clear h1
  unfold plCells at HB0 K0 ⊢
  go_enter Tryz.func56, Tryz.ntmps56
  go_wp2_with fail
  go_loopw [5, 10] (fun v i wr => ∃ n : Nat, i = .int .i64 n ∧ n ≤ t.length ∧ Aside0 (Kd.R Kd.string 9 wr w.heap.size (fun _ => True) v (names (t.take n) p)) ∧ Aside0 (wr.heap[w.heap.size]? = some (.cells #[.bool p.f0.f0, .string p.f0.f1, .bool p.f1.f0, .string p.f1.f1, .bool p.f2.f0, .string p.f2.f1, .bool p.f3.f0, .string p.f3.f1] 33 (0, 0))) ∧ Aside0 (Below w.heap.size w wr)) (fun _ i _ => t.length - (RowKit.intOf i).toNat)
  case atStart => exact ⟨0, rfl, Nat.zero_le _, ⟨Kd.R_nil _ _ _ _ _⟩, K0, HB0⟩
  case round =>
    clear K0 HB0
    obtain ⟨n, rfl, hn, HR, K0, HB⟩ := hrel
    by_cases hlt : n < t.length
    · have p1 : (0 : Int) ≤ (n : Int) := by omega
      have q1 : (n : Int) < (t.length : Int) := by omega
      obtain ⟨ad, e9, x0, x1, x2, x3, x4, x5, x6, x7, x8⟩ := at_T50 (Kd.C_below R1.out HB.out) (n : Int) p1 q1
      subst e9
      have HNS := Aside0.mk (names_snoc t p n hlt)
      rw [rd50 t n hlt] at x0 x1 x2 x3 x4 x5 x6 x7 x8
      obtain ⟨x, hx⟩ : ∃ x, x = t[n] := ⟨_, rfl⟩
      rw [← hx] at x0 x1 x2 x3 x4 x5 x6 x7 x8 HNS
      clear hx
      simp only [Int.toNat_natCast] at x0 x1 x2 x3 x4 x5 x6 x7 x8
      replace p1 := eq_true p1
      replace q1 := eq_true q1
      have y0 : ∀ o, (wr.alloc o).cell? ⟨w.heap.size, 0, none⟩ = some (.bool p.f0.f0) := fun o => blk_cell (blk_alloc K0.out o) 0
      have y1 : ∀ o, (wr.alloc o).cell? ⟨w.heap.size, 1, none⟩ = some (.string p.f0.f1) := fun o => blk_cell (blk_alloc K0.out o) 1
      have y2 : ∀ o, (wr.alloc o).cell? ⟨w.heap.size, 2, none⟩ = some (.bool p.f1.f0) := fun o => blk_cell (blk_alloc K0.out o) 2
      have y3 : ∀ o, (wr.alloc o).cell? ⟨w.heap.size, 3, none⟩ = some (.string p.f1.f1) := fun o => blk_cell (blk_alloc K0.out o) 3
      have y4 : ∀ o, (wr.alloc o).cell? ⟨w.heap.size, 4, none⟩ = some (.bool p.f2.f0) := fun o => blk_cell (blk_alloc K0.out o) 4
      have y5 : ∀ o, (wr.alloc o).cell? ⟨w.heap.size, 5, none⟩ = some (.string p.f2.f1) := fun o => blk_cell (blk_alloc K0.out o) 5
      have y6 : ∀ o, (wr.alloc o).cell? ⟨w.heap.size, 6, none⟩ = some (.bool p.f3.f0) := fun o => blk_cell (blk_alloc K0.out o) 6
      have y7 : ∀ o, (wr.alloc o).cell? ⟨w.heap.size, 7, none⟩ = some (.string p.f3.f1) := fun o => blk_cell (blk_alloc K0.out o) 7
      have HBn := Aside0.mk (below_alloc HB.out (.cells #[.string x.f0, .bool x.f1.f0.f0, .string x.f1.f0.f1, .bool x.f1.f1.f0, .string x.f1.f1.f1, .bool x.f1.f2.f0, .string x.f1.f2.f1, .bool x.f1.f3.f0, .string x.f1.f3.f1] 50))
      have K0n := Aside0.mk (blk_alloc K0.out (.cells #[.string x.f0, .bool x.f1.f0.f0, .string x.f1.f0.f1, .bool x.f1.f1.f0, .string x.f1.f1.f1, .bool x.f1.f2.f0, .string x.f1.f2.f1, .bool x.f1.f3.f0, .string x.f1.f3.f1] 50))
      have HRn := Aside0.mk (Kd.R_alloc HR.out (.cells #[.string x.f0, .bool x.f1.f0.f0, .string x.f1.f0.f1, .bool x.f1.f1.f0, .string x.f1.f1.f1, .bool x.f1.f2.f0, .string x.f1.f2.f1, .bool x.f1.f3.f0, .string x.f1.f3.f1] 50))
      have hle := names_le (t.take n) p
      have hle2 : (t.take n).length ≤ n := List.length_take_le _ _
      obtain ⟨ns, hns⟩ : ∃ ns, ns = names (t.take n) p := ⟨_, rfl⟩
      rw [← hns] at HNS HRn hle
      have hle3 : ns.length ≤ n := Nat.le_trans hle hle2
      clear HR hns hle hle2 HB K0
      cases hpe : plEq x.f1 p with
      | false =>
        have HV := Aside0.mk (show names (t.take (n + 1)) p = ns from by rw [HNS.out, if_neg (by rw [hpe]; exact Bool.false_ne_true), List.append_nil])
        unfold plEq at hpe
        clear HNS
        go_wp2_with fail
        go_roundw
        case rel => exact ⟨n + 1, by go_num, hlt, by rw [HV.out]; exact HRn, K0n, HBn⟩
        case measure => simp [RowKit.intOf]; omega
      | true =>
        have HV := Aside0.mk (show names (t.take (n + 1)) p = ns ++ [x.f0] from by rw [HNS.out, if_pos hpe])
        unfold plEq at hpe
        clear HNS
        go_wp2_with (first | ((with_reducible refine gate_dst (N := 22) rfl ?_); refine Kd.R_append Kd.string (w0 := w) w.heap.size rfl (.tmp 18) (.tmp 21) 24 9 (.string ⟨#[]⟩) 16 rfl Tryz.underlying24 info9s rfl (by decide) (by decide) _ ns x.f0 [.string x.f0] (fun _ => True) (fun _ => False) rfl (by rw [alloc_size]; rfl) rfl (fun _ h_ => h_.elim) (fun _ _ => trivial) HRn.out HBn.out (below_size HBn.out) (by omega) ?_; intro v1 w3 hR1 hb1 hg1 hat1; replace K0 := Aside0.mk (blk_grown K0n.out hg1 (Kd.R_ne HRn.out K0n.out (by decide))); replace HBn := Aside0.mk hb1; have HRm := Aside0.mk hR1; clear hR1 hb1 hg1 hat1))
        go_roundw
        case rel => exact ⟨n + 1, by go_num, hlt, by rw [HV.out]; exact HRm, K0, HBn⟩
        case measure => simp [RowKit.intOf]; omega
    · rw [List.take_of_length_le (by omega)] at HR
      have hle := names_le t p
      go_wp2_with fail
      refine (Sort_any HR.out (by omega)).mono ?_
      rintro e2 w2 ⟨rfl, hR2, hg2⟩
      have HB2 := Aside0.mk (pw_below_grown HB.out _ (below_size HB.out) hg2 (Kd.R_base HR.out))
      go_wp2_with fail
      refine (Compact_any hR2).mono ?_
      rintro e3 w3 ⟨v3, rfl, hR3, hv3, hg3⟩
      have HB3 := Aside0.mk (pw_below_grown HB2.out _ (below_size HB2.out) hg3 (Kd.R_base hR2))
      go_wp2_with fail
      go_ret
      exact ⟨v3, rfl, hR3, HB3.out⟩
end Go.Proofs.YtkceipkedmfeiaaGreatDoor.XL
