/- resolve.least and resolve.Reference: what they answer. -/
import Derived.Test.YtkceipkedmfeiaaGreatDoorBYPL
namespace Go.Proofs.YtkceipkedmfeiaaGreatDoor.XL
open Go Go.RowKit Go.Shelf Go.Proofs.YtkceipkedmfeiaaGreatDoorW.PrintWords Go.Proofs.YtkceipkedmfeiaaGreatDoorW.PrintLast Go.Proofs.YtkceipkedmfeiaaGreatDoorW.PrintMore Go.Proofs.YtkceipkedmfeiaaGreatDoor.X30 Go.Proofs.YtkceipkedmfeiaaGreatDoor.XU

def headR : List ByteArray → ByteArray × Bool
  | [] => (⟨#[]⟩, false)
  | s :: _ => (s, true)
def nmR (t : List NP) (p : PL) : ByteArray × Bool := headR (compB (sortB (names t p)))
set_option maxHeartbeats 3200000 in
theorem least_any (t : List NP) (A1 : Option Addr) (c1 : Nat) (p : PL) (w : World) (h1 : Kd.C k50 w A1 t.length t) (lt : t.length ≤ 4398046511104) :
    Calls Tryz.prog 33 #[.slice A1 t.length c1, .agg (plCells p)] w fun e w' => e = .returned (.tuple #[.string (nmR t p).1, .bool (nmR t p).2]) ∧ Below w.heap.size w w' := by
  have R1 := Aside0.mk h1
  have HB0 := Aside0.mk (below_alloc (Below.refl w.heap.size w) (.cells (plCells p) 33))
  have HC := Aside0.mk (ByPlane_any t A1 c1 p _ (Kd.C_below h1 HB0.out) lt)
  obtain ⟨ns, hns⟩ : ∃ ns, ns = compB (sortB (names t p)) := ⟨_, rfl⟩
  unfold nmR
  rw [← hns] at HC ⊢
  clear h1 hns
  unfold plCells at HB0 HC ⊢
  go_enter Tryz.func33, Tryz.ntmps33
  go_wp2_with fail
  refine HC.out.mono ?_
  rintro e1 w1 ⟨v, rfl, hR, hb1⟩
  have HB1 := Aside0.mk (below_step HB0.out hb1)
  clear HC hb1 HB0
  obtain ⟨A, c, rfl, -, hC⟩ := Kd.R_reads hR
  clear hR
  cases ns with
  | nil =>
    clear hC
    go_wp2_with fail
    go_ret2
    exact ⟨rfl, HB1.out⟩
  | cons s r =>
    obtain ⟨b, o, rfl, -, hcell⟩ := C_string_cells hC (by simp)
    have hx : w1.cell? _ = some (.string s) := hcell 0 s rfl
    rw [Nat.add_zero] at hx
    clear hC hcell
    obtain ⟨m, hm⟩ : ∃ m, m = (s :: r).length := ⟨_, rfl⟩
    have m0 : 0 < m := by rw [hm]; simp
    rw [← hm]
    clear hm
    have z0 : ((m : Int) == 0) = false := beq_eq_false_iff_ne.2 (by omega)
    have z1 : (m = 0) = False := eq_false (by omega)
    have z2 : (0 < m) = True := eq_true m0
    go_wp2_with fail
    go_ret2
    exact ⟨rfl, HB1.out⟩
def adjR (t : List NP) (ps : List PL) : List ByteArray := ps.filterMap fun p => if (nmR t p).2 = true then some (nmR t p).1 else none
theorem adjR_snoc (t : List NP) (ps : List PL) (n : Nat) (h : n < ps.length) : adjR t (ps.take (n + 1)) = adjR t (ps.take n) ++ (if (nmR t ps[n]).2 = true then [(nmR t ps[n]).1] else []) := by
  unfold adjR
  rw [List.take_succ_eq_append_getElem h, List.filterMap_append]
  congr 1
  by_cases hh : (nmR t ps[n]).2 = true
  · rw [if_pos hh, List.filterMap_cons_some (b := (nmR t ps[n]).1) (by rw [if_pos hh])]; rfl
  · rw [if_neg hh, List.filterMap_cons_none (by rw [if_neg hh])]; rfl
theorem adjR_le (t : List NP) (ps : List PL) : (adjR t ps).length ≤ ps.length := List.length_filterMap_le _ _
theorem rd33 (L : List PL) (n : Nat) (h : n < L.length) : rd_T33 L (n : Int) = L[n] := by
  unfold rd_T33
  rw [Int.toNat_natCast, List.getD_eq_getElem?_getD, List.getElem?_eq_getElem h]
  rfl
/-- What Reference answers. -/
def refR (L : List FC) (t : List NP) (i : Int) : ByteArray × List ByteArray × Bool :=
  if 0 ≤ i then match L[i.toNat]? with
    | none => (⟨#[]⟩, [], false)
    | some x => if (nmR t x.f0).2 = true then ((nmR t x.f0).1, compB (sortB (adjR t x.f2)), true) else (⟨#[]⟩, [], false)
  else (⟨#[]⟩, [], false)
theorem refR_neg {L : List FC} {t : List NP} {i : Int} (h : i < 0) : refR L t i = (⟨#[]⟩, [], false) := if_neg (by omega)
theorem refR_out {L : List FC} {t : List NP} {i : Nat} (h : L.length ≤ i) : refR L t (i : Int) = (⟨#[]⟩, [], false) := by
  unfold refR
  rw [if_pos (by omega), Int.toNat_natCast, List.getElem?_eq_none h]
theorem refR_at {L : List FC} {t : List NP} {i : Nat} (h : i < L.length) : refR L t (i : Int) = if (nmR t L[i].f0).2 = true then ((nmR t L[i].f0).1, compB (sortB (adjR t L[i].f2)), true) else (⟨#[]⟩, [], false) := by
  unfold refR
  rw [if_pos (by omega), Int.toNat_natCast, List.getElem?_eq_getElem h]
theorem q_set2 {W : World} {g base : Nat} {cs : Array Value} {v : Value} {xs : List ByteArray} (h : Kd.Q Kd.string 9 W base (fun _ => True) v xs) (hg : W.heap[g]? = some (.cells cs 26 (0, 0))) (u0 u1 : Value) :
    Kd.Q Kd.string 9 ((W.setCell ⟨g, 0, none⟩ u0).setCell ⟨g, 1, none⟩ u1) base (fun _ => True) v xs :=
  Kd.Q_set (Kd.Q_set h hg (by decide) 0 u0) (blk_set hg 0 u0) (by decide) 1 u1
attribute [local go_sem high] eqA33
set_option maxHeartbeats 12800000 in
set_option maxRecDepth 100000 in
theorem Reference_any (L : List FC) (A0 : Option Addr) (c0 : Nat) (t : List NP) (A1 : Option Addr) (c1 : Nat) (i : Int) (w : World)
    (h0 : Kd.C k43 w A0 L.length L) (h1 : Kd.C k50 w A1 t.length t) (lt : t.length ≤ 4398046511104) (lx : ∀ x ∈ L, x.f2.length ≤ 4398046511104) :
    Calls Tryz.prog 14 #[.slice A0 L.length c0, .slice A1 t.length c1, .int .i64 i] w fun e w' => ∃ v : Value, e = .returned (.tuple #[.agg #[.string (refR L t i).1, v], .bool (refR L t i).2.2]) ∧ Kd.Q Kd.string 9 w' w.heap.size (fun _ => True) v (refR L t i).2.1 ∧ Below w.heap.size w w' := by
  have R0 := Aside0.mk h0
  have R1 := Aside0.mk h1
  have LX := Aside0.mk lx
  clear h0 h1 lx
  have HB0 := Aside0.mk (below_alloc (Below.refl w.heap.size w) (.cells #[.string ⟨#[]⟩, .slice none 0 0] 26))
  have K6 := Aside0.mk (blk_new w (.cells #[.string ⟨#[]⟩, .slice none 0 0] 26))
  have r0 := blk_frozen K6.out 0
  have r1 := blk_frozen K6.out 1
  by_cases hneg : i < 0
  · have HV := Aside0.mk (refR_neg (L := L) (t := t) hneg)
    have g1 : (i < 0) = True := eq_true hneg
    clear hneg
    go_enter Tryz.func14, Tryz.ntmps14
    go_wp2_with fail
    refine bodyPost_ret (results_ct rfl _ _ w.heap.size 26 #[.string ⟨#[]⟩, .slice none 0 0] (0, 0) _ rfl K6.out Tryz.underlying26 rfl (by kernel_rfl)) rfl ?_
    exact ⟨_, by rw [HV.out]; rfl, by rw [HV.out]; exact Kd.Q_nil _ _ _ _ _, HB0.out⟩
  obtain ⟨i, rfl⟩ : ∃ n : Nat, i = n := ⟨i.toNat, by omega⟩
  have g1 : ((i : Int) < 0) = False := eq_false hneg
  clear hneg
  by_cases hout : L.length ≤ i
  · have HV := Aside0.mk (refR_out (t := t) hout)
    have g2 : (L.length ≤ i) = True := eq_true hout
    clear hout
    go_enter Tryz.func14, Tryz.ntmps14
    go_wp2_with fail
    refine bodyPost_ret (results_ct rfl _ _ w.heap.size 26 #[.string ⟨#[]⟩, .slice none 0 0] (0, 0) _ rfl K6.out Tryz.underlying26 rfl (by kernel_rfl)) rfl ?_
    exact ⟨_, by rw [HV.out]; rfl, by rw [HV.out]; exact Kd.Q_nil _ _ _ _ _, HB0.out⟩
  have hlt : i < L.length := by omega
  have g2 : (L.length ≤ i) = False := eq_false hout
  clear hout
  have HV := Aside0.mk (refR_at (t := t) hlt)
  have hlx := LX.out L[i] (List.getElem_mem hlt)
  have p1 : (0 : Int) ≤ (i : Int) := by omega
  have q1 : (i : Int) < (L.length : Int) := by omega
  obtain ⟨ad, A8, c8, A9, c9, e9, x0, x1, x2, x3, x4, x5, x6, x7, x8, x9, l8, g8, l9, g9⟩ := at_T43 R0.out (i : Int) p1 q1
  subst e9
  rw [rd43 L i hlt] at x0 x1 x2 x3 x4 x5 x6 x7 x8 x9 l8 g8 l9 g9
  replace x0 := (HB0.out.cell (World.block_lt_of_cell? _ _ x0)).trans x0
  replace x1 := (HB0.out.cell (World.block_lt_of_cell? _ _ x1)).trans x1
  replace x2 := (HB0.out.cell (World.block_lt_of_cell? _ _ x2)).trans x2
  replace x3 := (HB0.out.cell (World.block_lt_of_cell? _ _ x3)).trans x3
  replace x4 := (HB0.out.cell (World.block_lt_of_cell? _ _ x4)).trans x4
  replace x5 := (HB0.out.cell (World.block_lt_of_cell? _ _ x5)).trans x5
  replace x6 := (HB0.out.cell (World.block_lt_of_cell? _ _ x6)).trans x6
  replace x7 := (HB0.out.cell (World.block_lt_of_cell? _ _ x7)).trans x7
  obtain ⟨x, hx⟩ : ∃ x, x = L[i] := ⟨_, rfl⟩
  rw [← hx] at x0 x1 x2 x3 x4 x5 x6 x7 x8 x9 l8 g8 l9 g9 hlx HV
  clear hx
  have G9 := Aside0.mk g9
  simp only [Int.toNat_natCast] at x0 x1 x2 x3 x4 x5 x6 x7 x8 x9
  have X9 := Aside0.mk x9
  replace p1 := eq_true p1
  replace q1 := eq_true q1
  clear g8 g9 l8 x8 x9
  have HL := Aside0.mk (least_any t A1 c1 x.f0 _ (Kd.C_below R1.out HB0.out) lt)
  obtain ⟨T, ok, hT⟩ : ∃ T ok, nmR t x.f0 = (T, ok) := ⟨_, _, rfl⟩
  rw [hT] at HL HV
  clear hT
  obtain ⟨RF, hRF⟩ : ∃ RF, RF = refR L t (i : Int) := ⟨_, rfl⟩
  rw [← hRF] at HV ⊢
  clear hRF
  unfold plCells at HL
  go_enter Tryz.func14, Tryz.ntmps14
  go_wp2_with fail
  refine HL.out.mono ?_
  rintro e1 w1 ⟨rfl, hb1⟩
  have HB1 := Aside0.mk (below_step HB0.out hb1)
  replace K6 := Aside0.mk (blk_below K6.out hb1)
  have hlt1 := blk_lt K6.out
  clear hb1 HL HB0 x0 x1 x2 x3 x4 x5 x6 x7 r0 r1
  have r0 := blk_frozen K6.out 0
  have r1 := blk_frozen K6.out 1
  cases ok with
  | false =>
    have HW := Aside0.mk (show RF = (⟨#[]⟩, [], false) from by rw [HV.out]; rfl)
    clear HV
    have s0 : _ = some (Value.string ⟨#[]⟩) := blk_cell K6.out 0
    have s1 : _ = some (Value.slice none 0 0) := blk_cell K6.out 1
    go_wp2_with fail
    refine bodyPost_ret (results_ct rfl _ _ w.heap.size 26 #[.string ⟨#[]⟩, .slice none 0 0] (0, 0) _ rfl (blk_put (blk_put K6.out 0 _ rfl) 1 _ rfl) Tryz.underlying26 rfl (by kernel_rfl)) rfl ?_
    exact ⟨_, by rw [HW.out]; rfl, by rw [HW.out]; exact Kd.Q_nil _ _ _ _ _, below_set (below_set HB1.out (Nat.le_refl _)) (Nat.le_refl _)⟩
  | true =>
    have HW := Aside0.mk (show RF = (T, compB (sortB (adjR t x.f2)), true) from by rw [HV.out]; rfl)
    clear HV r0 r1
    replace HB1 := Aside0.mk (below_alloc HB1.out (.cells #[.string T, .slice none 0 0] 26))
    replace K6 := Aside0.mk (blk_alloc K6.out (.cells #[.string T, .slice none 0 0] 26))
    have KA := Aside0.mk (blk_new w1 (.cells #[.string T, .slice none 0 0] 26))
    have xb := (HB1.out.cell (World.block_lt_of_cell? _ _ X9.out)).trans X9.out
    have hne : w.heap.size ≠ w1.heap.size := by omega
    have hle1 : w.heap.size ≤ w1.heap.size := by omega
    go_wp2_with fail
    go_loopw [45] (fun i wr => ∃ (n : Nat) (v : Value), i = .int .i64 n ∧ n ≤ x.f2.length ∧ Aside0 (wr.heap[w.heap.size]? = some (.cells #[.string ⟨#[]⟩, .slice none 0 0] 26 (0, 0))) ∧ Aside0 (wr.heap[w1.heap.size]? = some (.cells #[.string T, v] 26 (0, 0))) ∧ Aside0 (Kd.R Kd.string 9 wr w.heap.size (fun _ => True) v (adjR t (x.f2.take n))) ∧ Aside0 (Below w.heap.size w wr)) (fun i _ => x.f2.length - (RowKit.intOf i).toNat)
    case atStart => exact ⟨0, _, rfl, Nat.zero_le _, K6, KA, ⟨Kd.R_nil _ _ _ _ _⟩, HB1⟩
    case round =>
      clear K6 KA HB1 xb
      obtain ⟨n, v, rfl, hn, K6, KA, HR, HB⟩ := hrel
      by_cases hlt : n < x.f2.length
      · have p3 : (0 : Int) ≤ (n : Int) := by omega
        have q3 : (n : Int) < (x.f2.length : Int) := by omega
        obtain ⟨ad2, e2, y0, y1, y2, y3, y4, y5, y6, y7⟩ := at_T33 (Kd.C_below G9.out HB.out) (n : Int) p3 q3
        subst e2
        have HNS := Aside0.mk (adjR_snoc t x.f2 n hlt)
        rw [rd33 x.f2 n hlt] at y0 y1 y2 y3 y4 y5 y6 y7
        obtain ⟨q, hq⟩ : ∃ q, q = x.f2[n] := ⟨_, rfl⟩
        rw [← hq] at y0 y1 y2 y3 y4 y5 y6 y7 HNS
        clear hq
        simp only [Int.toNat_natCast] at y0 y1 y2 y3 y4 y5 y6 y7
        replace p3 := eq_true p3
        replace q3 := eq_true q3
        have hle := adjR_le t (x.f2.take n)
        have hle2 : (x.f2.take n).length ≤ n := List.length_take_le _ _
        obtain ⟨ns, hns⟩ : ∃ ns, ns = adjR t (x.f2.take n) := ⟨_, rfl⟩
        rw [← hns] at HNS HR hle
        have hle3 : ns.length ≤ n := Nat.le_trans hle hle2
        clear hns hle hle2
        have HBn := Aside0.mk (below_alloc HB.out (.cells (plCells q) 33))
        have K6n := Aside0.mk (blk_alloc K6.out (.cells (plCells q) 33))
        have KAn := Aside0.mk (blk_alloc KA.out (.cells (plCells q) 33))
        have HRn := Aside0.mk (Kd.R_alloc HR.out (.cells (plCells q) 33))
        have HL := Aside0.mk (least_any t A1 c1 q _ (Kd.C_below R1.out HBn.out) lt)
        obtain ⟨s, ok, hs⟩ : ∃ s ok, nmR t q = (s, ok) := ⟨_, _, rfl⟩
        rw [hs] at HL HNS
        clear hs HB K6 KA HR
        unfold plCells at HBn K6n KAn HRn HL
        go_wp2_with fail
        refine HL.out.mono ?_
        rintro e3 w3 ⟨rfl, hb3⟩
        replace HBn := Aside0.mk (below_step HBn.out hb3)
        replace K6n := Aside0.mk (blk_below K6n.out hb3)
        replace KAn := Aside0.mk (blk_below KAn.out hb3)
        replace HRn := Aside0.mk (Kd.R_below HRn.out hb3)
        clear hb3 HL y0 y1 y2 y3 y4 y5 y6 y7
        cases ok with
        | false =>
          have HN := Aside0.mk (show adjR t (x.f2.take (n + 1)) = ns from by rw [HNS.out]; simp)
          clear HNS
          go_wp2_with fail
          go_roundw
          case rel => exact ⟨n + 1, v, by go_num, hlt, K6n, KAn, by rw [HN.out]; exact HRn, HBn⟩
          case measure => simp [RowKit.intOf]; omega
        | true =>
          obtain ⟨ms, hms⟩ : ∃ ms, ms = ns ++ [s] := ⟨_, rfl⟩
          have HN := Aside0.mk (show adjR t (x.f2.take (n + 1)) = ms from by rw [HNS.out, hms]; simp)
          have HMS := Aside0.mk hms
          clear HNS hms
          have z1 : _ = some v := blk_cell KAn.out 1
          go_wp2_with (first | ((with_reducible refine gate_dst (N := 60) rfl ?_); refine Kd.R_append Kd.string (w0 := w) w.heap.size rfl (.tmp 57) (.tmp 59) 24 9 (.string ⟨#[]⟩) 16 rfl Tryz.underlying24 info9s rfl (by decide) (by decide) _ ns s [.string s] (fun _ => True) (fun _ => False) rfl rfl rfl (fun _ h_ => h_.elim) (fun _ _ => trivial) HRn.out HBn.out (below_size HBn.out) (by omega) ?_; intro v1 w4 hR1 hb1 hg1 hat1; replace K6n := Aside0.mk (blk_grown K6n.out hg1 (Kd.R_ne HRn.out K6n.out (by decide))); replace KAn := Aside0.mk (blk_grown KAn.out hg1 (Kd.R_ne HRn.out KAn.out (by decide))); replace HBn := Aside0.mk hb1; rw [← HMS.out] at hR1; replace HRn := Aside0.mk hR1; obtain ⟨A11, c11, rfl⟩ := Kd.R_slice hR1; clear z1 hR1 hb1 hg1 hat1; have r1 := blk_frozen KAn.out 1; have z2 : _ = some v := blk_cell KAn.out 1))
          go_roundw
          case rel => exact ⟨n + 1, _, by go_num, hlt, ⟨blk_far K6n.out hne _⟩, ⟨blk_put KAn.out 1 _ rfl⟩, ⟨by rw [HN.out]; exact Kd.R_set HRn.out KAn.out (by decide) 1 _⟩, ⟨below_set HBn.out hle1⟩⟩
          case measure => simp [RowKit.intOf]; omega
      · rw [List.take_of_length_le (by omega)] at HR
        have hle := adjR_le t x.f2
        have z1 : _ = some v := blk_cell KA.out 1
        go_wp2_with fail
        refine (Sort_any HR.out (by omega)).mono ?_
        rintro e4 w4 ⟨rfl, hR4, hg4⟩
        have HB4 := Aside0.mk (pw_below_grown HB.out _ (below_size HB.out) hg4 (Kd.R_base HR.out))
        replace K6 := Aside0.mk (blk_grown K6.out hg4 (Kd.R_ne HR.out K6.out (by decide)))
        replace KA := Aside0.mk (blk_grown KA.out hg4 (Kd.R_ne HR.out KA.out (by decide)))
        have HR4 := Aside0.mk hR4
        clear z1 hR4 hg4 HB
        have z1 : _ = some v := blk_cell KA.out 1
        go_wp2_with fail
        refine (Compact_any HR4.out).mono ?_
        rintro e5 w5 ⟨v5, rfl, hR5, hv5, hg5⟩
        have HB5 := Aside0.mk (pw_below_grown HB4.out _ (below_size HB4.out) hg5 (Kd.R_base HR4.out))
        replace K6 := Aside0.mk (blk_grown K6.out hg5 (Kd.R_ne HR4.out K6.out (by decide)))
        replace KA := Aside0.mk (blk_grown KA.out hg5 (Kd.R_ne HR4.out KA.out (by decide)))
        obtain ⟨ms, hms⟩ : ∃ ms, ms = compB (sortB (adjR t x.f2)) := ⟨_, rfl⟩
        rw [← hms] at hR5 HW
        clear hms
        have HR5 := Aside0.mk hR5
        obtain ⟨A12, c12, rfl⟩ := Kd.R_slice hR5
        clear z1 hR5 hg5 HB4 HR4 hv5
        have r1 := blk_frozen KA.out 1
        have z1 : _ = some v := blk_cell KA.out 1
        have r6 := blk_frozen K6.out 0
        have r7 := blk_frozen K6.out 1
        have z6 : _ = some (Value.string ⟨#[]⟩) := blk_cell K6.out 0
        have z7 : _ = some (Value.slice none 0 0) := blk_cell K6.out 1
        have z0 : _ = some (Value.string T) := blk_cell KA.out 0
        go_wp2_with fail
        refine bodyPost_ret (results_ct rfl _ _ w.heap.size 26 #[.string T, .slice A12 ms.length c12] (0, 0) _ rfl (blk_put (blk_put (blk_far K6.out hne _) 0 _ rfl) 1 _ rfl) Tryz.underlying26 rfl (by kernel_rfl)) rfl ?_
        exact ⟨_, by rw [HW.out]; rfl, by rw [HW.out]; exact q_set2 (Kd.Q_set (Kd.Q_of_R HR5.out) KA.out (by decide) 1 _) (blk_far K6.out hne _) _ _, below_set (below_set (below_set HB5.out hle1) (Nat.le_refl _)) (Nat.le_refl _)⟩
end Go.Proofs.YtkceipkedmfeiaaGreatDoor.XL
