/- The reference's comparisons at equal arguments, and the law's renaming of a plane. -/
import Derived.Test.YtkceipkedmfeiaaGreatDoorRENP
import Derived.Test.YtkceipkedmfeiaaGreatDoorTOT
import Derived.Deep.QuietTactic
import Derived.BigQuiet
import Derived.Deep.DeepCutAuto
namespace Go.Proofs.YtkceipkedmfeiaaGreatDoor.XL
open Go Go.RowKit Go.Shelf Go.Proofs.YtkceipkedmfeiaaGreatDoorW.PrintWords Go.Proofs.YtkceipkedmfeiaaGreatDoorW.PrintLast Go.Proofs.YtkceipkedmfeiaaGreatDoorW.PrintMore Go.Proofs.YtkceipkedmfeiaaGreatDoor.X30 Go.Proofs.YtkceipkedmfeiaaGreatDoor.XU

/-- The next operation of a region that yields its value in every world that meets S (the first that is not listed yet). -/
theorem tkW {P : Program} {md : Region.Mode} {ops : Array Oper} {Q : Exit → Act → World → Prop} {S : World → Prop} {i : Nat} {oi : Oper} {v : Value} {fuel : Nat} {listed : Array Bool} {a : Act} {w : World}
    (hv : ∀ w, S w → (execOp a.eval oi).run P w = .ok (.value v) w) (h : wpAnyH P md ops Q S fuel (listed.setIfInBounds i true) (a.put oi.dst v) w)
    (_hx : (listed.toList.takeWhile id).length = i := by rfl) (hi : ops[i]? = some oi := by simp only [List.getElem?_toArray, List.getElem?_cons_succ, List.getElem?_cons_zero]; rfl) (hs : Region.noSelect ops = true := by kernel_rfl) (hf : Region.free md ops listed i = true := by kernel_rfl) (hr : (Region.ready md ops listed).contains i = true := by kernel_rfl)
    (hQ : ∀ c a w, Q (.panic c) (a.put oi.dst v) w → Q (.panic c) a w := by exact fun _ _ _ h => h) (hw : Region.wanted oi (yielded ops a.tmps) = true := by rfl) (hS : S w := by assumption) : wpAnyH P md ops Q S (fuel + 1) listed a w :=
  wpAnyH_take hi hs hf hr hQ (.inl ⟨hw, hv⟩) hS h
/-- .. that is not wanted. -/
theorem tkN {P : Program} {md : Region.Mode} {ops : Array Oper} {Q : Exit → Act → World → Prop} {S : World → Prop} {i : Nat} {oi : Oper} {fuel : Nat} {listed : Array Bool} {a : Act} {w : World}
    (h : wpAnyH P md ops Q S fuel (listed.setIfInBounds i true) (a.put oi.dst undef) w)
    (_hx : (listed.toList.takeWhile id).length = i := by rfl) (hi : ops[i]? = some oi := by simp only [List.getElem?_toArray, List.getElem?_cons_succ, List.getElem?_cons_zero]; rfl) (hs : Region.noSelect ops = true := by kernel_rfl) (hf : Region.free md ops listed i = true := by kernel_rfl) (hr : (Region.ready md ops listed).contains i = true := by kernel_rfl)
    (hQ : ∀ c a w, Q (.panic c) (a.put oi.dst undef) w → Q (.panic c) a w := by exact fun _ _ _ h => h) (hw : Region.wanted oi (yielded ops a.tmps) = false := by rfl) (hS : S w := by assumption) : wpAnyH P md ops Q S (fuel + 1) listed a w :=
  wpAnyH_take hi hs hf hr hQ (.inr ⟨hw, rfl⟩) hS h
theorem blk_new2' (w : World) (o1 o2 : Obj) : ((w.alloc o1).alloc o2).heap[w.heap.size + 1]? = some o2 := by
  have := blk_new (w.alloc o1) o2
  rwa [alloc_size] at this
set_option maxHeartbeats 3200000 in
theorem turn_any (p : PL) (w : World) : Calls Tryz.prog 15 #[.agg (plCells p)] w fun e w' => e = .returned (.agg (plCells (turn p))) ∧ Below w.heap.size w w' := by
  have HB := Aside0.mk (below_alloc (below_alloc (Below.refl w.heap.size w) (.cells (plCells p) 33)) (.cells (plCells (turn p)) 33))
  have K1 := Aside0.mk (blk_new2' w (.cells (plCells p) 33) (.cells (plCells (turn p)) 33))
  unfold plCells turn at HB K1 ⊢
  go_enter Tryz.func15, Tryz.ntmps15
  go_wp2_with fail
  refine bodyPost_ret (results_cell_row rfl _ _ (w.heap.size + 1) 33 (plCells (turn p)) (0, 0) _ rfl K1.out Tryz.underlying33 rfl (by kernel_rfl)) rfl ?_
  exact ⟨rfl, HB.out⟩
/-- What a round of a comparison reads: two headers and an element of each. -/
def cmpS (g1 g2 : Nat) (o : Nat) (v1 v2 : Value) (a b : Addr) (u : Value) (w : World) : Prop := w.cell? ⟨g1, o, none⟩ = some v1 ∧ w.cell? ⟨g2, o, none⟩ = some v2 ∧ w.cell? a = some u ∧ w.cell? b = some u
set_option maxHeartbeats 3200000 in
theorem Same_eq (T : ByteArray) (l : List ByteArray) (A B : Option Addr) (c d : Nat) (w : World) (hA : Kd.C Kd.string w A l.length l) (hB : Kd.C Kd.string w B l.length l) :
    Calls Tryz.prog 16 #[.agg #[.string T, .slice A l.length c], .agg #[.string T, .slice B l.length d]] w fun e w' => e = .returned (.bool true) ∧ Below w.heap.size w w' := by
  have RA := Aside0.mk hA
  have RB := Aside0.mk hB
  have hm := Kd.C_max hA
  have HB := Aside0.mk (below_alloc (below_alloc (Below.refl w.heap.size w) (.cells #[.string T, .slice A l.length c] 26)) (.cells #[.string T, .slice B l.length d] 26))
  have K2 := Aside0.mk (blk_alloc (blk_new w (.cells #[.string T, .slice A l.length c] 26)) (.cells #[.string T, .slice B l.length d] 26))
  have K3 := Aside0.mk (blk_new2' w (.cells #[.string T, .slice A l.length c] 26) (.cells #[.string T, .slice B l.length d] 26))
  clear hA hB
  go_enter Tryz.func16, Tryz.ntmps16
  go_wp2_with fail
  go_loopw [5] (fun i wr => ∃ n : Nat, i = .int .i64 n ∧ n ≤ l.length ∧ Aside0 (wr.heap[w.heap.size]? = some (.cells #[.string T, .slice A l.length c] 26 (0, 0))) ∧ Aside0 (wr.heap[w.heap.size + 1]? = some (.cells #[.string T, .slice B l.length d] 26 (0, 0))) ∧ Aside0 (Below w.heap.size w wr)) (fun i _ => l.length - (RowKit.intOf i).toNat)
  case atStart => exact ⟨0, rfl, Nat.zero_le _, K2, K3, HB⟩
  case round =>
    clear K2 K3 HB
    obtain ⟨n, rfl, hn, K2, K3, HB⟩ := hrel
    have y2 : _ = some (Value.slice A l.length c) := blk_cell K2.out 1
    by_cases hlt : n < l.length
    · have p1 : (0 : Int) ≤ (n : Int) := by omega
      obtain ⟨a1, o1, rfl, -, hc1⟩ := C_string_cells (Kd.C_below RA.out HB.out) (by omega)
      obtain ⟨a2, o2, rfl, -, hc2⟩ := C_string_cells (Kd.C_below RB.out HB.out) (by omega)
      have HS := Aside0.mk (show cmpS w.heap.size (w.heap.size + 1) 1 (.slice (some ⟨a1, o1, none⟩) l.length c) (.slice (some ⟨a2, o2, none⟩) l.length d) ⟨a1, o1 + n, none⟩ ⟨a2, o2 + n, none⟩ (.string l[n]) wr from ⟨blk_cell K2.out 1, blk_cell K3.out 1, hc1 n _ (List.getElem?_eq_getElem hlt), hc2 n _ (List.getElem?_eq_getElem hlt)⟩)
      clear hc1 hc2
      replace p1 := eq_true p1
      have q1 : (n < l.length) = True := eq_true hlt
      go_wp2_with fail
      refine wp_region_held_drew (S := cmpS w.heap.size (w.heap.size + 1) 1 (.slice (some ⟨a1, o1, none⟩) l.length c) (.slice (some ⟨a2, o2, none⟩) l.length d) ⟨a1, o1 + n, none⟩ ⟨a2, o2 + n, none⟩ (.string l[n])) (by kernel_rfl) ?_ (fun hHeld => ?_)
      · exact HS.out
      iterate 11 (refine tkW (v := ?_) ?_ ?_; rotate_left; (intro w hSw; (try dsimp only at hSw); unfold cmpS at hSw; go_simp; try with_reducible rfl); try simp only [Act.put, List.setIfInBounds_toArray, List.set_cons_zero, List.set_cons_succ])
      refine wpAnyH_done (by kernel_rfl) ?_ _
      all_goals
        go_wp2_with fail
        go_roundw
        case rel => exact ⟨n + 1, by go_num, hlt, ⟨blk_below K2.out (below_drew (Below.refl _ _))⟩, ⟨blk_below K3.out (below_drew (Below.refl _ _))⟩, ⟨below_drew HB.out⟩⟩
        case measure => simp [RowKit.intOf]; omega
    · go_wp2_with fail
      go_ret
      exact ⟨rfl, HB.out⟩

attribute [local go_sem high] eqA33
set_option maxHeartbeats 3200000 in
theorem SameFound_eq (k : Int) (P : PL) (l : List Int) (A B : Option Addr) (c d : Nat) (w : World) (hA : Kd.C (Kd.int .i64) w A l.length l) (hB : Kd.C (Kd.int .i64) w B l.length l) :
    Calls Tryz.prog 17 #[.agg (resCells k P (.slice A l.length c)), .agg (resCells k P (.slice B l.length d))] w fun e w' => e = .returned (.bool true) ∧ Below w.heap.size w w' := by
  have RA := Aside0.mk hA
  have RB := Aside0.mk hB
  have hm := Kd.C_max hA
  have HB := Aside0.mk (below_alloc (below_alloc (Below.refl w.heap.size w) (.cells (resCells k P (.slice A l.length c)) 36)) (.cells (resCells k P (.slice B l.length d)) 36))
  have K2 := Aside0.mk (blk_alloc (blk_new w (.cells (resCells k P (.slice A l.length c)) 36)) (.cells (resCells k P (.slice B l.length d)) 36))
  have K3 := Aside0.mk (blk_new2' w (.cells (resCells k P (.slice A l.length c)) 36) (.cells (resCells k P (.slice B l.length d)) 36))
  clear hA hB
  unfold resCells at HB K2 K3 ⊢
  go_enter Tryz.func17, Tryz.ntmps17
  go_wp2_with fail
  go_loopw [5] (fun i wr => ∃ n : Nat, i = .int .i64 n ∧ n ≤ l.length ∧ Aside0 (wr.heap[w.heap.size]? = some (.cells #[.int .i64 k, .bool P.f0.f0, .string P.f0.f1, .bool P.f1.f0, .string P.f1.f1, .bool P.f2.f0, .string P.f2.f1, .bool P.f3.f0, .string P.f3.f1, .slice A l.length c] 36 (0, 0))) ∧ Aside0 (wr.heap[w.heap.size + 1]? = some (.cells #[.int .i64 k, .bool P.f0.f0, .string P.f0.f1, .bool P.f1.f0, .string P.f1.f1, .bool P.f2.f0, .string P.f2.f1, .bool P.f3.f0, .string P.f3.f1, .slice B l.length d] 36 (0, 0))) ∧ Aside0 (Below w.heap.size w wr)) (fun i _ => l.length - (RowKit.intOf i).toNat)
  case atStart => exact ⟨0, rfl, Nat.zero_le _, K2, K3, HB⟩
  case round =>
    clear K2 K3 HB
    obtain ⟨n, rfl, hn, K2, K3, HB⟩ := hrel
    have y2 : _ = some (Value.slice A l.length c) := blk_cell K2.out 9
    by_cases hlt : n < l.length
    · have p1 : (0 : Int) ≤ (n : Int) := by omega
      have q0 : (n : Int) < (l.length : Int) := by omega
      obtain ⟨a1, rfl, hc1⟩ := Kd.at_int (Kd.C_below RA.out HB.out) (n : Int) p1 q0
      obtain ⟨a2, rfl, hc2⟩ := Kd.at_int (Kd.C_below RB.out HB.out) (n : Int) p1 q0
      simp only [Int.toNat_natCast] at hc1 hc2
      have HS := Aside0.mk (show cmpS w.heap.size (w.heap.size + 1) 9 (.slice (some a1) l.length c) (.slice (some a2) l.length d) (a1.add n) (a2.add n) (.int .i64 (rd l n)) wr from ⟨blk_cell K2.out 9, blk_cell K3.out 9, hc1, hc2⟩)
      clear hc1 hc2 q0
      replace p1 := eq_true p1
      have q1 : (n < l.length) = True := eq_true hlt
      go_wp2_with fail
      refine wp_region_held_drew (S := cmpS w.heap.size (w.heap.size + 1) 9 (.slice (some a1) l.length c) (.slice (some a2) l.length d) (a1.add n) (a2.add n) (.int .i64 (rd l n))) (by kernel_rfl) ?_ (fun hHeld => ?_)
      · exact HS.out
      iterate 11 (refine tkW (v := ?_) ?_ ?_; rotate_left; (intro w hSw; (try dsimp only at hSw); unfold cmpS at hSw; go_simp; try with_reducible rfl); try simp only [Act.put, List.setIfInBounds_toArray, List.set_cons_zero, List.set_cons_succ])
      refine wpAnyH_done (by kernel_rfl) ?_ _
      all_goals
        go_wp2_with fail
        go_roundw
        case rel => exact ⟨n + 1, by go_num, hlt, ⟨blk_below K2.out (below_drew (Below.refl _ _))⟩, ⟨blk_below K3.out (below_drew (Below.refl _ _))⟩, ⟨below_drew HB.out⟩⟩
        case measure => simp [RowKit.intOf]; omega
    · go_wp2_with fail
      go_ret
      exact ⟨rfl, HB.out⟩
end Go.Proofs.YtkceipkedmfeiaaGreatDoor.XL
