/- ResolveRenaming, walked up to the renamed table: the renamed faces and names as rows of the law's own. -/
import Derived.Test.YtkceipkedmfeiaaGreatDoorSAME
namespace Go.Proofs.YtkceipkedmfeiaaGreatDoor.XL
open Go Go.RowKit Go.Shelf Go.Proofs.YtkceipkedmfeiaaGreatDoorW.PrintWords Go.Proofs.YtkceipkedmfeiaaGreatDoorW.PrintLast Go.Proofs.YtkceipkedmfeiaaGreatDoorW.PrintMore Go.Proofs.YtkceipkedmfeiaaGreatDoor.X30 Go.Proofs.YtkceipkedmfeiaaGreatDoor.XU

theorem info33 : (Tryz.prog.info? 33).map (fun i => (i.zero, i.size, i.bytes)) = some (some (.agg (plCells plZ)), 8, 96) := by kernel_rfl
theorem info43 : (Tryz.prog.info? 43).map (fun i => (i.zero, i.size, i.bytes)) = some (some (.agg (fcCells ⟨plZ, [], []⟩ (.slice none 0 0) (.slice none 0 0))), 10, 144) := by kernel_rfl
theorem info50 : (Tryz.prog.info? 50).map (fun i => (i.zero, i.size, i.bytes)) = some (some (.agg #[.string ⟨#[]⟩, .bool false, .string ⟨#[]⟩, .bool false, .string ⟨#[]⟩, .bool false, .string ⟨#[]⟩, .bool false, .string ⟨#[]⟩]), 9, 112) := by kernel_rfl
theorem map_snoc {α β : Type} (f : α → β) (l : List α) (n : Nat) (h : n < l.length) : (l.take (n + 1)).map f = (l.take n).map f ++ [f l[n]] := by
  rw [List.take_succ_eq_append_getElem h, List.map_append]; rfl
/-- What region 22 reads. -/
def refS (g : Nat) (T : ByteArray) (v : Value) (w : World) : Prop := w.cell? ⟨g, 0, none⟩ = some (.string T) ∧ w.cell? ⟨g, 1, none⟩ = some v
def set10 (W : World) (g : Nat) (u0 u1 u2 u3 u4 u5 u6 u7 u8 u9 : Value) : World := (((((((((W.setCell ⟨g, 0, none⟩ u0).setCell ⟨g, 1, none⟩ u1).setCell ⟨g, 2, none⟩ u2).setCell ⟨g, 3, none⟩ u3).setCell ⟨g, 4, none⟩ u4).setCell ⟨g, 5, none⟩ u5).setCell ⟨g, 6, none⟩ u6).setCell ⟨g, 7, none⟩ u7).setCell ⟨g, 8, none⟩ u8).setCell ⟨g, 9, none⟩ u9
theorem put10 {W : World} {g t : Nat} {z0 z1 z2 z3 z4 z5 z6 z7 z8 z9 : Value} (h : W.heap[g]? = some (.cells #[z0, z1, z2, z3, z4, z5, z6, z7, z8, z9] t (0, 0))) (u0 u1 u2 u3 u4 u5 u6 u7 u8 u9 : Value) :
    (set10 W g u0 u1 u2 u3 u4 u5 u6 u7 u8 u9).heap[g]? = some (.cells #[u0, u1, u2, u3, u4, u5, u6, u7, u8, u9] t (0, 0)) := by
  have h0 := blk_put (cs' := #[u0, z1, z2, z3, z4, z5, z6, z7, z8, z9]) h 0 u0 rfl
  have h1 := blk_put (cs' := #[u0, u1, z2, z3, z4, z5, z6, z7, z8, z9]) h0 1 u1 rfl
  have h2 := blk_put (cs' := #[u0, u1, u2, z3, z4, z5, z6, z7, z8, z9]) h1 2 u2 rfl
  have h3 := blk_put (cs' := #[u0, u1, u2, u3, z4, z5, z6, z7, z8, z9]) h2 3 u3 rfl
  have h4 := blk_put (cs' := #[u0, u1, u2, u3, u4, z5, z6, z7, z8, z9]) h3 4 u4 rfl
  have h5 := blk_put (cs' := #[u0, u1, u2, u3, u4, u5, z6, z7, z8, z9]) h4 5 u5 rfl
  have h6 := blk_put (cs' := #[u0, u1, u2, u3, u4, u5, u6, z7, z8, z9]) h5 6 u6 rfl
  have h7 := blk_put (cs' := #[u0, u1, u2, u3, u4, u5, u6, u7, z8, z9]) h6 7 u7 rfl
  have h8 := blk_put (cs' := #[u0, u1, u2, u3, u4, u5, u6, u7, u8, z9]) h7 8 u8 rfl
  have h9 := blk_put (cs' := #[u0, u1, u2, u3, u4, u5, u6, u7, u8, u9]) h8 9 u9 rfl
  unfold set10
  exact h9
theorem far10 {W : World} {g k : Nat} {o : Obj} (h : W.heap[k]? = some o) (hne : k ≠ g) (u0 u1 u2 u3 u4 u5 u6 u7 u8 u9 : Value) : (set10 W g u0 u1 u2 u3 u4 u5 u6 u7 u8 u9).heap[k]? = some o := by
  unfold set10
  iterate 10 rw [Below.heap_setCell _ _ _ k hne]
  exact h
theorem below10 {g : Nat} {w W : World} (h : Below w.heap.size w W) (hg : w.heap.size ≤ g) (u0 u1 u2 u3 u4 u5 u6 u7 u8 u9 : Value) : Below w.heap.size w (set10 W g u0 u1 u2 u3 u4 u5 u6 u7 u8 u9) := by
  unfold set10
  exact below_set (below_set (below_set (below_set (below_set (below_set (below_set (below_set (below_set (below_set h hg) hg) hg) hg) hg) hg) hg) hg) hg) hg
theorem q10 {W : World} {g base : Nat} {cs : Array Value} {v : Value} {xs : List Int} (h : Kd.Q (Kd.int .i64) 3 W base (fun _ => True) v xs) (hg : W.heap[g]? = some (.cells cs 36 (0, 0))) (u0 u1 u2 u3 u4 u5 u6 u7 u8 u9 : Value) :
    Kd.Q (Kd.int .i64) 3 (set10 W g u0 u1 u2 u3 u4 u5 u6 u7 u8 u9) base (fun _ => True) v xs := by
  unfold set10
  exact q_set10 h hg u0 u1 u2 u3 u4 u5 u6 u7 u8 u9
def set8 (W : World) (g : Nat) (u0 u1 u2 u3 u4 u5 u6 u7 : Value) : World := (((((((W.setCell ⟨g, 1, none⟩ u0).setCell ⟨g, 2, none⟩ u1).setCell ⟨g, 3, none⟩ u2).setCell ⟨g, 4, none⟩ u3).setCell ⟨g, 5, none⟩ u4).setCell ⟨g, 6, none⟩ u5).setCell ⟨g, 7, none⟩ u6).setCell ⟨g, 8, none⟩ u7
theorem put8 {W : World} {g t : Nat} {z0 z1 z2 z3 z4 z5 z6 z7 z8 z9 : Value} (h : W.heap[g]? = some (.cells #[z0, z1, z2, z3, z4, z5, z6, z7, z8, z9] t (0, 0))) (u0 u1 u2 u3 u4 u5 u6 u7 : Value) : (set8 W g u0 u1 u2 u3 u4 u5 u6 u7).heap[g]? = some (.cells #[z0, u0, u1, u2, u3, u4, u5, u6, u7, z9] t (0, 0)) := by
  have h0 := blk_put (cs' := #[z0, u0, z2, z3, z4, z5, z6, z7, z8, z9]) h 1 u0 rfl
  have h1 := blk_put (cs' := #[z0, u0, u1, z3, z4, z5, z6, z7, z8, z9]) h0 2 u1 rfl
  have h2 := blk_put (cs' := #[z0, u0, u1, u2, z4, z5, z6, z7, z8, z9]) h1 3 u2 rfl
  have h3 := blk_put (cs' := #[z0, u0, u1, u2, u3, z5, z6, z7, z8, z9]) h2 4 u3 rfl
  have h4 := blk_put (cs' := #[z0, u0, u1, u2, u3, u4, z6, z7, z8, z9]) h3 5 u4 rfl
  have h5 := blk_put (cs' := #[z0, u0, u1, u2, u3, u4, u5, z7, z8, z9]) h4 6 u5 rfl
  have h6 := blk_put (cs' := #[z0, u0, u1, u2, u3, u4, u5, u6, z8, z9]) h5 7 u6 rfl
  have h7 := blk_put (cs' := #[z0, u0, u1, u2, u3, u4, u5, u6, u7, z9]) h6 8 u7 rfl
  unfold set8
  exact h7
theorem far8 {W : World} {g k : Nat} {o : Obj} (h : W.heap[k]? = some o) (hne : k ≠ g) (u0 u1 u2 u3 u4 u5 u6 u7 : Value) : (set8 W g u0 u1 u2 u3 u4 u5 u6 u7).heap[k]? = some o := by
  unfold set8
  iterate 8 rw [Below.heap_setCell _ _ _ k hne]
  exact h
theorem below8 {g : Nat} {w W : World} (h : Below w.heap.size w W) (hg : w.heap.size ≤ g) (u0 u1 u2 u3 u4 u5 u6 u7 : Value) : Below w.heap.size w (set8 W g u0 u1 u2 u3 u4 u5 u6 u7) := by
  unfold set8
  exact below_set (below_set (below_set (below_set (below_set (below_set (below_set (below_set h hg) hg) hg) hg) hg) hg) hg) hg
theorem q_set8 {W : World} {g base : Nat} {cs : Array Value} {v : Value} {xs : List Int} (h : Kd.Q (Kd.int .i64) 3 W base (fun _ => True) v xs) (hg : W.heap[g]? = some (.cells cs 36 (0, 0))) (u0 u1 u2 u3 u4 u5 u6 u7 : Value) :
    Kd.Q (Kd.int .i64) 3 (set8 W g u0 u1 u2 u3 u4 u5 u6 u7) base (fun _ => True) v xs := by
  unfold set8
  exact Kd.Q_mono (Kd.Q_far (p := ⟨g, 8, none⟩) (Kd.Q_far (p := ⟨g, 7, none⟩) (Kd.Q_far (p := ⟨g, 6, none⟩) (Kd.Q_far (p := ⟨g, 5, none⟩) (Kd.Q_far (p := ⟨g, 4, none⟩) (Kd.Q_far (p := ⟨g, 3, none⟩) (Kd.Q_far (p := ⟨g, 2, none⟩) (Kd.Q_far (p := ⟨g, 1, none⟩) (Kd.Q_types h hg (by decide)) (fun k hk => hk.2) _) (fun k hk => hk.2) _) (fun k hk => hk.2) _) (fun k hk => hk.2) _) (fun k hk => hk.2) _) (fun k hk => hk.2) _) (fun k hk => hk.2) _) (fun k hk => hk.2) _) (fun _ _ => trivial)
theorem nmR_turn (t : List NP) (p : PL) : nmR (t.map turnN) (turn p) = nmR t p := by unfold nmR; rw [names_turn]
theorem adjR_turn (t : List NP) (ps : List PL) : adjR (t.map turnN) (ps.map turn) = adjR t ps := by
  unfold adjR
  rw [List.filterMap_map]
  congr 1
  funext p
  simp only [Function.comp]
  rw [nmR_turn]
theorem refR_turn (L : List FC) (t : List NP) (i : Nat) : refR (L.map turnF) (t.map turnN) (i : Int) = refR L t (i : Int) := by
  by_cases hn : i < L.length
  · have hn2 : i < (L.map turnF).length := by rw [List.length_map]; exact hn
    rw [refR_at hn2, refR_at hn, List.getElem_map, show (turnF L[i]).f0 = turn L[i].f0 from rfl, show (turnF L[i]).f2 = L[i].f2.map turn from rfl, nmR_turn, adjR_turn]
  · rw [refR_out (by rw [List.length_map]; omega), refR_out (by omega)]
attribute [local go_sem high] eqA33
set_option maxHeartbeats 12800000 in
set_option maxRecDepth 100000 in
theorem Ren_walk (L : List FC) (A0 : Option Addr) (c0 : Nat) (t : List NP) (A1 : Option Addr) (c1 : Nat) (T : ByteArray) (adj : List ByteArray) (A2 : Option Addr) (c2 : Nat) (w : World) (hG : EnvL w)
    (h0 : Kd.C k43 w A0 L.length L) (l0 : L.length ≤ c0) (h1 : Kd.C k50 w A1 t.length t) (l1 : t.length ≤ c1) (h2 : Kd.C Kd.string w A2 adj.length adj) (l2 : adj.length ≤ c2) (lL : L.length ≤ 977343669105) (lt : t.length ≤ 1256584717421) (lx : ∀ x ∈ L, x.f2.length ≤ 1466015503658) :
    Calls Tryz.prog 5 #[.slice A0 L.length c0, .slice A1 t.length c1, .agg #[.string T, .slice A2 adj.length c2]] w fun e w' => e = .returned (.bool true) ∧ Below w.heap.size w w' := by
  have HG := Aside0.mk hG
  have R0 := Aside0.mk h0
  have R1 := Aside0.mk h1
  have R2 := Aside0.mk h2
  have LX := Aside0.mk lx
  have HB := Aside0.mk (below_alloc (Below.refl w.heap.size w) (.cells #[.string T, .slice A2 adj.length c2] 26))
  have K5 := Aside0.mk (blk_new w (.cells #[.string T, .slice A2 adj.length c2] 26))
  clear h0 h1 h2 hG lx
  go_enter Tryz.func5, Tryz.ntmps5
  go_wp2_with fail
  obtain ⟨rg, hgr⟩ := Great_any L A0 c0 t A1 c1 T adj A2 c2 _ (Kd.C_below R0.out HB.out) l0 (Kd.C_below R1.out HB.out) l1 (Kd.C_below R2.out HB.out) l2 (by omega) (by omega) (Kd.C_max R2.out)
  refine hgr.mono ?_
  clear hgr
  rintro e1 w1 ⟨rfl, hb1⟩
  replace HB := Aside0.mk (below_step HB.out hb1)
  replace K5 := Aside0.mk (blk_below K5.out hb1)
  clear hb1
  by_cases hg : 0 < rg
  · have g1 : (0 < rg) = True := eq_true hg
    clear hg
    go_wp2_with fail
    refine (fixed_any _ (HG.out.below HB.out)).mono ?_
    rintro e2 w2 ⟨rfl, hb2⟩
    replace HB := Aside0.mk (below_step HB.out hb2)
    clear hb2
    go_wp2_with fail
    go_ret
    exact ⟨rfl, HB.out⟩
  have g1 : (0 < rg) = False := eq_false hg
  clear hg
  go_wp2_with fail
  obtain ⟨rb, hrt⟩ := right_any A1 c1 t _ (Kd.C_below R1.out HB.out) l1 (by omega)
  refine hrt.mono ?_
  clear hrt
  rintro e1 w2 ⟨rfl, hb1⟩
  replace HB := Aside0.mk (below_step HB.out hb1)
  replace K5 := Aside0.mk (blk_below K5.out hb1)
  clear hb1
  cases rb with
  | false =>
    go_wp2_with fail
    refine (fixed_any _ (HG.out.below HB.out)).mono ?_
    rintro e2 w2 ⟨rfl, hb2⟩
    replace HB := Aside0.mk (below_step HB.out hb2)
    clear hb2
    go_wp2_with fail
    go_ret
    exact ⟨rfl, HB.out⟩
  | true =>
    have x0 : _ = some (Value.string T) := blk_cell K5.out 0
    cases hT : (T.toList == [103, 114, 111, 117, 110, 100]) with
    | true =>
      go_wp2_with fail
      refine (fixed_any _ (HG.out.below HB.out)).mono ?_
      rintro e2 w2 ⟨rfl, hb2⟩
      replace HB := Aside0.mk (below_step HB.out hb2)
      clear hb2 x0
      go_wp2_with fail
      go_ret
      exact ⟨rfl, HB.out⟩
    | false =>
      go_wp2_with fail
      go_loopw [8, 42] (fun v i wr => ∃ n : Nat, i = .int .i64 n ∧ n ≤ L.length ∧ Aside0 (Kd.R k43 43 wr w.heap.size (fun _ => True) v ((L.take n).map turnF)) ∧ Aside0 (wr.heap[w.heap.size]? = some (.cells #[.string T, .slice A2 adj.length c2] 26 (0, 0))) ∧ Aside0 (Below w.heap.size w wr)) (fun _ i _ => L.length - (RowKit.intOf i).toNat)
      case atStart => exact ⟨0, rfl, Nat.zero_le _, ⟨Kd.R_nil _ _ _ _ _⟩, K5, HB⟩
      case round =>
        clear K5 HB x0
        obtain ⟨n, rfl, hn, HR, K5, HB⟩ := hrel
        rename_i vm _
        obtain ⟨wk, rfl⟩ : ∃ x : World, x = wr := ⟨_, rfl⟩
        obtain ⟨ms, hms⟩ : ∃ ms, ms = (L.take n).map turnF := ⟨_, rfl⟩
        rw [← hms] at HR
        obtain ⟨Am, cm, rfl⟩ := Kd.R_slice HR.out
        by_cases hlt : n < L.length
        · have p1 : (0 : Int) ≤ (n : Int) := by omega
          have q1 : (n : Int) < (L.length : Int) := by omega
          obtain ⟨ad, A8, c8, A9, c9, e9, x0, x1, x2, x3, x4, x5, x6, x7, x8, x9, l8, g8, l9, g9⟩ := at_T43 R0.out (n : Int) p1 q1
          subst e9
          have hlx := LX.out L[n] (List.getElem_mem hlt)
          rw [rd43 L n hlt] at x0 x1 x2 x3 x4 x5 x6 x7 x8 x9 l8 g8 l9 g9
          replace x0 := (HB.out.cell (World.block_lt_of_cell? _ _ x0)).trans x0
          replace x1 := (HB.out.cell (World.block_lt_of_cell? _ _ x1)).trans x1
          replace x2 := (HB.out.cell (World.block_lt_of_cell? _ _ x2)).trans x2
          replace x3 := (HB.out.cell (World.block_lt_of_cell? _ _ x3)).trans x3
          replace x4 := (HB.out.cell (World.block_lt_of_cell? _ _ x4)).trans x4
          replace x5 := (HB.out.cell (World.block_lt_of_cell? _ _ x5)).trans x5
          replace x6 := (HB.out.cell (World.block_lt_of_cell? _ _ x6)).trans x6
          replace x7 := (HB.out.cell (World.block_lt_of_cell? _ _ x7)).trans x7
          replace x8 := (HB.out.cell (World.block_lt_of_cell? _ _ x8)).trans x8
          replace x9 := (HB.out.cell (World.block_lt_of_cell? _ _ x9)).trans x9
          have HMS := Aside0.mk (map_snoc turnF L n hlt)
          obtain ⟨x, hx⟩ : ∃ x, x = L[n] := ⟨_, rfl⟩
          rw [← hx] at x0 x1 x2 x3 x4 x5 x6 x7 x8 x9 l8 g8 l9 g9 hlx HMS
          clear hx
          have hml : ms.length ≤ n := by rw [hms, List.length_map]; exact List.length_take_le _ _
          rw [← hms] at HMS
          clear hms
          simp only [Int.toNat_natCast] at x0 x1 x2 x3 x4 x5 x6 x7 x8 x9
          have G9 := Aside0.mk g9
          replace p1 := eq_true p1
          replace q1 := eq_true q1
          clear g8 g9 l8
          have hwk : w.heap.size ≤ wk.heap.size := below_size HB.out
          have HK := Aside0.mk (below_alloc (Below.refl wk.heap.size wk) (.cells (fcCells x (.slice A8 x.f1.length c8) (.slice A9 x.f2.length c9)) 43))
          go_wp2_with fail
          refine (turn_any x.f0 _).mono ?_
          rintro e5 w5 ⟨rfl, hb5⟩
          replace HK := Aside0.mk (below_alloc (below_step HK.out hb5) (.cells #[.bool x.f0.f1.f0, .string x.f0.f1.f1, .bool x.f0.f0.f0, .string x.f0.f0.f1, .bool x.f0.f2.f0, .string x.f0.f2.f1, .bool x.f0.f3.f0, .string x.f0.f3.f1, .slice none 0 0, .slice none 0 0] 43))
          have K10 := Aside0.mk (blk_alloc (blk_below (blk_new wk (.cells (fcCells x (.slice A8 x.f1.length c8) (.slice A9 x.f2.length c9)) 43)) hb5) (.cells #[.bool x.f0.f1.f0, .string x.f0.f1.f1, .bool x.f0.f0.f0, .string x.f0.f0.f1, .bool x.f0.f2.f0, .string x.f0.f2.f1, .bool x.f0.f3.f0, .string x.f0.f3.f1, .slice none 0 0, .slice none 0 0] 43))
          have K11 := Aside0.mk (blk_new w5 (.cells #[.bool x.f0.f1.f0, .string x.f0.f1.f1, .bool x.f0.f0.f0, .string x.f0.f0.f1, .bool x.f0.f2.f0, .string x.f0.f2.f1, .bool x.f0.f3.f0, .string x.f0.f3.f1, .slice none 0 0, .slice none 0 0] 43))
          have hk5 : wk.heap.size ≤ w5.heap.size := by have h1 := hb5.size; rw [alloc_size] at h1; omega
          clear hb5 x0 x1 x2 x3 x4 x5 x6 x7 x8 x9
          unfold plCells turn
          unfold fcCells at K10
          have y9 : _ = some (Value.slice A9 x.f2.length c9) := blk_cell K10.out 9
          go_wp2_with fail
          go_loopw [54] (fun i wr => ∃ (q : Nat) (v9 : Value), i = .int .i64 q ∧ q ≤ x.f2.length ∧ Aside0 (wr.heap[w5.heap.size]? = some (.cells #[.bool x.f0.f1.f0, .string x.f0.f1.f1, .bool x.f0.f0.f0, .string x.f0.f0.f1, .bool x.f0.f2.f0, .string x.f0.f2.f1, .bool x.f0.f3.f0, .string x.f0.f3.f1, .slice none 0 0, v9] 43 (0, 0))) ∧ Aside0 (Kd.R k33 33 wr wk.heap.size (fun _ => True) v9 ((x.f2.take q).map turn)) ∧ Aside0 (Below wk.heap.size wk wr)) (fun i _ => x.f2.length - (RowKit.intOf i).toNat)
          case atStart => exact ⟨0, _, rfl, Nat.zero_le _, K11, ⟨Kd.R_nil _ _ _ _ _⟩, HK⟩
          case round =>
            clear K10 K11 HK y9
            obtain ⟨q, v9, rfl, hq, K11, HR9, HK⟩ := hrel
            obtain ⟨A11, c11, rfl⟩ := Kd.R_slice HR9.out
            by_cases hlq : q < x.f2.length
            · have p3 : (0 : Int) ≤ (q : Int) := by omega
              have q3 : (q : Int) < (x.f2.length : Int) := by omega
              obtain ⟨ad4, e4, u0, u1, u2, u3, u4, u5, u6, u7⟩ := at_T33 (Kd.C_below G9.out (below_step HB.out HK.out)) (q : Int) p3 q3
              subst e4
              have HPS := Aside0.mk (map_snoc turn x.f2 q hlq)
              rw [rd33 x.f2 q hlq] at u0 u1 u2 u3 u4 u5 u6 u7
              obtain ⟨y, hy⟩ : ∃ y, y = x.f2[q] := ⟨_, rfl⟩
              rw [← hy] at u0 u1 u2 u3 u4 u5 u6 u7 HPS
              clear hy
              obtain ⟨ns, hns⟩ : ∃ ns, ns = (x.f2.take q).map turn := ⟨_, rfl⟩
              have hnl : ns.length ≤ q := by rw [hns, List.length_map]; exact List.length_take_le _ _
              rw [← hns] at HPS HR9 K11
              clear hns
              simp only [Int.toNat_natCast] at u0 u1 u2 u3 u4 u5 u6 u7
              replace p3 := eq_true p3
              replace q3 := eq_true q3
              have HKn := Aside0.mk (below_alloc HK.out (.cells (plCells y) 33))
              have K11n := Aside0.mk (blk_alloc K11.out (.cells (plCells y) 33))
              have HR9n := Aside0.mk (Kd.R_alloc HR9.out (.cells (plCells y) 33))
              have KY := Aside0.mk (blk_new wr (.cells (plCells y) 33))
              obtain ⟨ns2, hns2⟩ : ∃ l, l = ns ++ [turn y] := ⟨_, rfl⟩
              rw [← hns2] at HPS
              have HNS2 := Aside0.mk hns2
              clear HK K11 HR9 hns2
              unfold plCells at HKn K11n HR9n KY
              go_wp2_with fail
              generalize wr.alloc (.cells #[.bool y.f0.f0, .string y.f0.f1, .bool y.f1.f0, .string y.f1.f1, .bool y.f2.f0, .string y.f2.f1, .bool y.f3.f0, .string y.f3.f1] 33) = wz at HKn K11n HR9n KY ⊢
              have z9 : _ = some (Value.slice A11 ns.length c11) := blk_cell K11n.out 9
              have y0 : _ = some (Value.bool y.f0.f0) := blk_cell KY.out 0
              have y1 : _ = some (Value.string y.f0.f1) := blk_cell KY.out 1
              have y2 : _ = some (Value.bool y.f1.f0) := blk_cell KY.out 2
              have y3 : _ = some (Value.string y.f1.f1) := blk_cell KY.out 3
              have y4 : _ = some (Value.bool y.f2.f0) := blk_cell KY.out 4
              have y5 : _ = some (Value.string y.f2.f1) := blk_cell KY.out 5
              have y6 : _ = some (Value.bool y.f3.f0) := blk_cell KY.out 6
              have y7 : _ = some (Value.string y.f3.f1) := blk_cell KY.out 7
              go_region_law (first | (rw [if_pos (by rfl)]; go_simp; refine (turn_any y _).mono ?_; rintro e6 w6 ⟨rfl, hb6⟩; have HK6 := Aside0.mk (below_step (below_drew HKn.out) hb6); have K116 := Aside0.mk (blk_below (blk_below K11n.out (below_drew (Below.refl _ _))) hb6); have HR96 := Aside0.mk (Kd.R_below (Kd.R_drew HR9n.out) hb6); have v6 : _ = some (Value.slice A11 ns.length c11) := blk_cell K116.out 9; have v6a : ∀ o, (w6.alloc o).cell? ⟨w5.heap.size, 9, none⟩ = some (Value.slice A11 ns.length c11) := fun o => blk_cell (blk_alloc K116.out o) 9; clear hb6; unfold plCells turn) | (refine Kd.R_append_step k33 (w0 := wk) (W := w6) wk.heap.size (by rfl) (.tmp 59) (.tmp 63) 41 33 (.agg (plCells plZ)) 96 (by rfl) Tryz.underlying41 info33 (by rfl) (by decide) (by decide) (.slice A11 ns.length c11) ns (turn y) [.bool y.f1.f0, .string y.f1.f1, .bool y.f0.f0, .string y.f0.f1, .bool y.f2.f0, .string y.f2.f1, .bool y.f3.f0, .string y.f3.f1] (fun _ => True) (fun _ => False) (by rfl) (by rfl) (k33_mkM w6 wk.heap.size (fun _ => False) (turn y)) (fun _ h_ => h_.elim) (fun _ _ => trivial) HR96.out HK6.out (below_size HK6.out) (by omega) ?_; intro v1 w7 hR7 hb7 hg7 hat7; rw [← HNS2.out] at hR7; have HR7 := Aside0.mk hR7; have HK7 := Aside0.mk hb7; have K117 := Aside0.mk (blk_grown K116.out hg7 (Kd.R_ne HR96.out K116.out (by decide))); obtain ⟨A12, c12, rfl⟩ := Kd.R_slice hR7; have r7 := blk_frozen K117.out 9; have z7 : _ = some (Value.slice A11 ns.length c11) := blk_cell K117.out 9; clear hR7 hb7 hg7 hat7))
              all_goals
                go_wp2_with fail
                go_roundw
                case rel => exact ⟨q + 1, _, by go_num, hlq, ⟨blk_put K117.out 9 _ rfl⟩, ⟨by rw [HPS.out]; exact Kd.R_set HR7.out K117.out (by decide) 9 _⟩, ⟨below_set HK7.out hk5⟩⟩
                case measure => simp [RowKit.intOf]; omega
            · obtain rfl : q = x.f2.length := by omega
              rw [List.take_length] at HR9 K11
              obtain ⟨ys, hys⟩ : ∃ ys, ys = x.f2.map turn := ⟨_, rfl⟩
              rw [← hys] at HR9 K11
              have HFX := Aside0.mk (show (L.take (n + 1)).map turnF = ms ++ [(⟨turn x.f0, [], ys⟩ : FC)] from by rw [HMS.out, hys]; rfl)
              clear hys HMS
              obtain ⟨ms2, hms2⟩ : ∃ l, l = ms ++ [(⟨turn x.f0, [], ys⟩ : FC)] := ⟨_, rfl⟩
              rw [← hms2] at HFX
              have HM2 := Aside0.mk hms2
              clear hms2
              have z0 : _ = some (Value.bool x.f0.f1.f0) := blk_cell K11.out 0
              have z1 : _ = some (Value.string x.f0.f1.f1) := blk_cell K11.out 1
              have z2 : _ = some (Value.bool x.f0.f0.f0) := blk_cell K11.out 2
              have z3 : _ = some (Value.string x.f0.f0.f1) := blk_cell K11.out 3
              have z4 : _ = some (Value.bool x.f0.f2.f0) := blk_cell K11.out 4
              have z5 : _ = some (Value.string x.f0.f2.f1) := blk_cell K11.out 5
              have z6 : _ = some (Value.bool x.f0.f3.f0) := blk_cell K11.out 6
              have z7 : _ = some (Value.string x.f0.f3.f1) := blk_cell K11.out 7
              have z8 : _ = some (Value.slice none 0 0) := blk_cell K11.out 8
              have z9 : _ = some (Value.slice A11 ys.length c11) := blk_cell K11.out 9
              have HBr := Aside0.mk (below_step HB.out HK.out)
              have K5r := Aside0.mk (blk_below K5.out HK.out)
              have HRr := Aside0.mk (Kd.R_below HR.out HK.out)
              have HR9r := Aside0.mk (Kd.R_lower (Kd.R_mono (ok' := fun k => wk.heap.size ≤ k) (Kd.R_bound HR9.out) (fun k hk => hk.2.1)) hwk)
              have HOK := Aside0.mk (show ∀ k, wk.heap.size ≤ k → True ∧ some k ≠ (Value.slice Am ms.length cm).ownBlock from fun k hk => ⟨trivial, fun he => by have := Kd.R_lt HR.out k he.symm; omega⟩)
              go_wp2_with (first | ((with_reducible refine gate_dst (N := 70) rfl ?_); refine Kd.R_append k43 (w0 := w) (W := wr) w.heap.size rfl (.tmp 67) (.tmp 69) 22 43 (.agg (fcCells ⟨plZ, [], []⟩ (.slice none 0 0) (.slice none 0 0))) 144 rfl Tryz.underlying22 info43 rfl (by decide) (by decide) _ ms (⟨turn x.f0, [], ys⟩ : FC) [.bool x.f0.f1.f0, .string x.f0.f1.f1, .bool x.f0.f0.f0, .string x.f0.f0.f1, .bool x.f0.f2.f0, .string x.f0.f2.f1, .bool x.f0.f3.f0, .string x.f0.f3.f1, .slice none 0 0, .slice A11 ys.length c11] (fun _ => True) (fun k => wk.heap.size ≤ k) rfl rfl (k43_mkM wr w.heap.size (fun k => wk.heap.size ≤ k) (⟨turn x.f0, [], ys⟩ : FC) (Kd.R_nil _ _ _ _ _) HR9r.out) HOK.out (fun _ _ => trivial) HRr.out HBr.out (below_size HBr.out) (by omega) ?_; intro v1 w7 hR1 hb1 hg1 hat1; rw [← HM2.out] at hR1; replace K5r := Aside0.mk (blk_grown K5r.out hg1 (Kd.R_ne HRr.out K5r.out (by decide))); have HR7 := Aside0.mk hR1; have HB7 := Aside0.mk hb1; clear hR1 hb1 hg1 hat1))
              go_roundw
              case rel => exact ⟨n + 1, by go_num, hlt, by rw [HFX.out]; exact HR7, K5r, HB7⟩
              case measure => simp [RowKit.intOf]; omega
        · obtain rfl : n = L.length := by omega
          rw [List.take_length] at hms
          have HML := Aside0.mk hms
          clear hms
          go_wp2_with fail
          go_loopw [14, 74] (fun v i wr => ∃ n : Nat, i = .int .i64 n ∧ n ≤ t.length ∧ Aside0 (Kd.R k50 50 wr wk.heap.size (fun _ => True) v ((t.take n).map turnN)) ∧ Aside0 (Below wk.heap.size wk wr)) (fun _ i _ => t.length - (RowKit.intOf i).toNat)
          case atStart => exact ⟨0, rfl, Nat.zero_le _, ⟨Kd.R_nil _ _ _ _ _⟩, ⟨Below.refl _ _⟩⟩
          case round =>
            obtain ⟨n, rfl, hnt, HU, HK⟩ := hrel
            obtain ⟨us, hus⟩ : ∃ us, us = (t.take n).map turnN := ⟨_, rfl⟩
            rw [← hus] at HU
            obtain ⟨Au, cu, rfl⟩ := Kd.R_slice HU.out
            by_cases hlt : n < t.length
            · have p1 : (0 : Int) ≤ (n : Int) := by omega
              have q1 : (n : Int) < (t.length : Int) := by omega
              obtain ⟨ad, e9, x0, x1, x2, x3, x4, x5, x6, x7, x8⟩ := at_T50 (Kd.C_below R1.out (below_step HB.out HK.out)) (n : Int) p1 q1
              subst e9
              rw [rd50 t n hlt] at x0 x1 x2 x3 x4 x5 x6 x7 x8
              have HUS := Aside0.mk (map_snoc turnN t n hlt)
              obtain ⟨x, hx⟩ : ∃ x, x = t[n] := ⟨_, rfl⟩
              rw [← hx] at x0 x1 x2 x3 x4 x5 x6 x7 x8 HUS
              clear hx
              have hul : us.length ≤ n := by rw [hus, List.length_map]; exact List.length_take_le _ _
              rw [← hus] at HUS
              obtain ⟨us2, hus2⟩ : ∃ l, l = us ++ [turnN x] := ⟨_, rfl⟩
              rw [← hus2] at HUS
              have HU2 := Aside0.mk hus2
              clear hus hus2
              simp only [Int.toNat_natCast] at x0 x1 x2 x3 x4 x5 x6 x7 x8
              replace p1 := eq_true p1
              replace q1 := eq_true q1
              have HKn := Aside0.mk (below_alloc HK.out (.cells #[.string x.f0, .bool x.f1.f0.f0, .string x.f1.f0.f1, .bool x.f1.f1.f0, .string x.f1.f1.f1, .bool x.f1.f2.f0, .string x.f1.f2.f1, .bool x.f1.f3.f0, .string x.f1.f3.f1] 50))
              have HUn := Aside0.mk (Kd.R_alloc HU.out (.cells #[.string x.f0, .bool x.f1.f0.f0, .string x.f1.f0.f1, .bool x.f1.f1.f0, .string x.f1.f1.f1, .bool x.f1.f2.f0, .string x.f1.f2.f1, .bool x.f1.f3.f0, .string x.f1.f3.f1] 50))
              have KY := Aside0.mk (blk_new wr (.cells #[.string x.f0, .bool x.f1.f0.f0, .string x.f1.f0.f1, .bool x.f1.f1.f0, .string x.f1.f1.f1, .bool x.f1.f2.f0, .string x.f1.f2.f1, .bool x.f1.f3.f0, .string x.f1.f3.f1] 50))
              clear HK HU
              go_wp2_with fail
              generalize wr.alloc (.cells #[.string x.f0, .bool x.f1.f0.f0, .string x.f1.f0.f1, .bool x.f1.f1.f0, .string x.f1.f1.f1, .bool x.f1.f2.f0, .string x.f1.f2.f1, .bool x.f1.f3.f0, .string x.f1.f3.f1] 50) = wz at HKn HUn KY ⊢
              have y0 : _ = some (Value.string x.f0) := blk_cell KY.out 0
              have y1 : _ = some (Value.bool x.f1.f0.f0) := blk_cell KY.out 1
              have y2 : _ = some (Value.string x.f1.f0.f1) := blk_cell KY.out 2
              have y3 : _ = some (Value.bool x.f1.f1.f0) := blk_cell KY.out 3
              have y4 : _ = some (Value.string x.f1.f1.f1) := blk_cell KY.out 4
              have y5 : _ = some (Value.bool x.f1.f2.f0) := blk_cell KY.out 5
              have y6 : _ = some (Value.string x.f1.f2.f1) := blk_cell KY.out 6
              have y7 : _ = some (Value.bool x.f1.f3.f0) := blk_cell KY.out 7
              have y8 : _ = some (Value.string x.f1.f3.f1) := blk_cell KY.out 8
              go_region_law (first | (rw [if_pos (by rfl)]; go_simp; refine (turn_any x.f1 _).mono ?_; rintro e6 w6 ⟨rfl, hb6⟩; have HK6 := Aside0.mk (below_step (below_drew HKn.out) hb6); have KY6 := Aside0.mk (blk_below (blk_below KY.out (below_drew (Below.refl _ _))) hb6); have HU6 := Aside0.mk (Kd.R_below (Kd.R_drew HUn.out) hb6); have v6 : _ = some (Value.string x.f0) := blk_cell KY6.out 0; clear hb6; unfold plCells turn) | (refine Kd.R_append_step k50 (w0 := wk) (W := w6) wk.heap.size (by rfl) (.tmp 78) (.tmp 86) 23 50 (.agg #[.string ⟨#[]⟩, .bool false, .string ⟨#[]⟩, .bool false, .string ⟨#[]⟩, .bool false, .string ⟨#[]⟩, .bool false, .string ⟨#[]⟩]) 112 (by rfl) Tryz.underlying23 info50 (by rfl) (by decide) (by decide) (.slice Au us.length cu) us (turnN x) [.string x.f0, .bool x.f1.f1.f0, .string x.f1.f1.f1, .bool x.f1.f0.f0, .string x.f1.f0.f1, .bool x.f1.f2.f0, .string x.f1.f2.f1, .bool x.f1.f3.f0, .string x.f1.f3.f1] (fun _ => True) (fun _ => False) (by rfl) (by rfl) (k50_mkM w6 wk.heap.size (fun _ => False) (turnN x)) (fun _ h_ => h_.elim) (fun _ _ => trivial) HU6.out HK6.out (below_size HK6.out) (by omega) ?_; intro v1 w7 hR7 hb7 hg7 hat7; rw [← HU2.out] at hR7; have HR7 := Aside0.mk hR7; have HK7 := Aside0.mk hb7; clear hR7 hb7 hg7 hat7))
              all_goals
                go_wp2_with fail
                go_roundw
                case rel => exact ⟨n + 1, by go_num, hlt, by rw [HUS.out]; exact HR7, HK7⟩
                case measure => simp [RowKit.intOf]; omega
            · obtain rfl : n = t.length := by omega
              rw [List.take_length] at hus
              have HUS := Aside0.mk hus
              clear hus
              obtain ⟨wu, rfl⟩ : ∃ x : World, x = wr := ⟨_, rfl⟩
              replace K5 := Aside0.mk (blk_below K5.out HK.out)
              replace HR := Aside0.mk (Kd.R_below HR.out HK.out)
              replace HB := Aside0.mk (below_step HB.out HK.out)
              clear HK
              obtain ⟨k, P, pl, hres⟩ : ∃ k P pl, resolveF L t T adj = (k, P, pl) := ⟨_, _, _, rfl⟩
              have hres2 := resolveF_turn L t T adj hT
              rw [← HML.out, ← HUS.out, hres] at hres2
              have hmlL : ms.length = L.length := by rw [HML.out, List.length_map]
              have hutL : us.length = t.length := by rw [HUS.out, List.length_map]
              have HRS1 : Aside0 (∀ W, Below wu.heap.size wu W → Calls Tryz.prog 12 #[.slice A0 L.length c0, .slice A1 t.length c1, .agg #[.string T, .slice A2 adj.length c2]] W fun e w' => ∃ (B : Option Addr) (d : Nat), e = .returned (.agg (resCells k P (.slice B pl.length d))) ∧ Kd.Q (Kd.int .i64) 3 w' wu.heap.size (fun _ => True) (.slice B pl.length d) pl ∧ Below W.heap.size W w') := ⟨fun W hW => by
                have hw := below_step HB.out hW
                refine (Resolve_any L A0 c0 t A1 c1 T adj A2 c2 W (HG.out.below hw) (Kd.C_below R0.out hw) (Kd.C_below R1.out hw) (Kd.C_below R2.out hw) (by omega) (by omega) (Kd.C_max R2.out) (fun x hx => Nat.le_trans (LX.out x hx) (by omega))).mono ?_
                rintro e w' ⟨v, rfl, hQ, hb⟩
                rw [hres] at hQ ⊢
                obtain ⟨B, d, rfl, -⟩ := Kd.Q_slice hQ
                exact ⟨B, d, rfl, Kd.Q_lower hQ (below_size hW), hb⟩⟩
              have HRS2 : Aside0 (∀ W, Below wu.heap.size wu W → Calls Tryz.prog 12 #[.slice Am ms.length cm, .slice Au us.length cu, .agg #[.string T, .slice A2 adj.length c2]] W fun e w' => ∃ (B : Option Addr) (d : Nat), e = .returned (.agg (resCells k (turn P) (.slice B pl.length d))) ∧ Kd.Q (Kd.int .i64) 3 w' wu.heap.size (fun _ => True) (.slice B pl.length d) pl ∧ Below W.heap.size W w') := ⟨fun W hW => by
                have hw := below_step HB.out hW
                refine (Resolve_any ms Am cm us Au cu T adj A2 c2 W (HG.out.below hw) (Kd.C_below (Kd.R_reads' HR.out).2.2 hW) (Kd.C_below (Kd.R_reads' HU.out).2.2 hW) (Kd.C_below R2.out hw) (by omega) (by omega) (Kd.C_max R2.out) (fun x hx => by
                  rw [HML.out] at hx
                  obtain ⟨x', hx', rfl⟩ := List.mem_map.1 hx
                  have := LX.out x' hx'
                  show (x'.f2.map turn).length ≤ _
                  rw [List.length_map]
                  omega)).mono ?_
                rintro e w' ⟨v, rfl, hQ, hb⟩
                rw [hres2] at hQ ⊢
                obtain ⟨B, d, rfl, -⟩ := Kd.Q_slice hQ
                exact ⟨B, d, rfl, Kd.Q_lower hQ (below_size hW), hb⟩⟩
              have HS5 : Aside0 (∀ W, Below wu.heap.size wu W → refS w.heap.size T (.slice A2 adj.length c2) W) := ⟨fun W hW => ⟨blk_cell (blk_below K5.out hW) 0, blk_cell (blk_below K5.out hW) 1⟩⟩
              have HLL := Aside0.mk (And.intro hmlL hutL)
              clear hres hres2 hmlL hutL
              go_wp2_with fail
              go_upto_region 22 with fail
              go_cut [17, 18] (fun a b wx => ∃ (ga gb : Nat) (B1 B2 : Option Addr) (d1 d2 : Nat), a = .pointer (some ⟨ga, 0, none⟩) ∧ b = .pointer (some ⟨gb, 0, none⟩) ∧ Aside0 (wu.heap.size ≤ ga) ∧ Aside0 (ga ≠ gb) ∧ Aside0 (wx.heap[ga]? = some (.cells #[.int .i64 k, .bool P.f0.f0, .string P.f0.f1, .bool P.f1.f0, .string P.f1.f1, .bool P.f2.f0, .string P.f2.f1, .bool P.f3.f0, .string P.f3.f1, .slice B1 pl.length d1] 36 (0, 0))) ∧ Aside0 (wx.heap[gb]? = some (.cells #[.int .i64 k, .bool P.f1.f0, .string P.f1.f1, .bool P.f0.f0, .string P.f0.f1, .bool P.f2.f0, .string P.f2.f1, .bool P.f3.f0, .string P.f3.f1, .slice B2 pl.length d2] 36 (0, 0))) ∧ Aside0 (Kd.Q (Kd.int .i64) 3 wx wu.heap.size (fun _ => True) (.slice B1 pl.length d1) pl) ∧ Aside0 (Kd.Q (Kd.int .i64) 3 wx wu.heap.size (fun _ => True) (.slice B2 pl.length d2) pl) ∧ Aside0 (Below wu.heap.size wu wx))
              case first =>
                have HK := Aside0.mk (below_drew (Below.refl wu.heap.size wu))
                refine wp_region_held_drew (S := refS w.heap.size T (.slice A2 adj.length c2)) (by kernel_rfl) ?_ (fun hHeld => ?_)
                · exact HS5.out _ HK.out
                refine wpAnyH_take (i := 0) (v := ?_) (by simp only [List.getElem?_toArray, List.getElem?_cons_zero]; rfl) (by kernel_rfl) (by kernel_rfl) (by kernel_rfl) (by exact fun _ _ _ h => h) (Or.inl ⟨by rfl, ?_⟩) (by assumption) ?_
                rotate_left
                · (intro w hSw; (try dsimp only at hSw); unfold refS at hSw; go_simp; try with_reducible rfl)
                try simp only [Act.put, List.setIfInBounds_toArray, List.set_cons_zero, List.set_cons_succ]
                refine wpAnyH_take (i := 1) (v := ?_) (by simp only [List.getElem?_toArray, List.getElem?_cons_succ, List.getElem?_cons_zero]; rfl) (by kernel_rfl) (by kernel_rfl) (by kernel_rfl) (by exact fun _ _ _ h => h) (Or.inl ⟨by rfl, ?_⟩) (by assumption) ?_
                rotate_left
                · (intro w hSw; (try dsimp only at hSw); unfold refS at hSw; go_simp; try with_reducible rfl)
                try simp only [Act.put, List.setIfInBounds_toArray, List.set_cons_zero, List.set_cons_succ]
                refine wpAnyH_take (i := 2) (v := ?_) (by simp only [List.getElem?_toArray, List.getElem?_cons_succ, List.getElem?_cons_zero]; rfl) (by kernel_rfl) (by kernel_rfl) (by kernel_rfl) (by exact fun _ _ _ h => h) (Or.inl ⟨by rfl, ?_⟩) (by assumption) ?_
                rotate_left
                · (intro w hSw; (try dsimp only at hSw); unfold refS at hSw; go_simp; try with_reducible rfl)
                try simp only [Act.put, List.setIfInBounds_toArray, List.set_cons_zero, List.set_cons_succ]
                refine wpAnyH_take (i := 4) (v := ?_) (by simp only [List.getElem?_toArray, List.getElem?_cons_succ, List.getElem?_cons_zero]; rfl) (by kernel_rfl) (by kernel_rfl) (by kernel_rfl) (by exact fun _ _ _ h => h) (Or.inl ⟨by rfl, ?_⟩) (by assumption) ?_
                rotate_left
                · (intro w hSw; (try dsimp only at hSw); unfold refS at hSw; go_simp; try with_reducible rfl)
                try simp only [Act.put, List.setIfInBounds_toArray, List.set_cons_zero, List.set_cons_succ]
                refine wpAnyH_take (i := 5) (v := ?_) (by simp only [List.getElem?_toArray, List.getElem?_cons_succ, List.getElem?_cons_zero]; rfl) (by kernel_rfl) (by kernel_rfl) (by kernel_rfl) (by exact fun _ _ _ h => h) (Or.inl ⟨by rfl, ?_⟩) (by assumption) ?_
                rotate_left
                · (intro w hSw; (try dsimp only at hSw); unfold refS at hSw; go_simp; try with_reducible rfl)
                try simp only [Act.put, List.setIfInBounds_toArray, List.set_cons_zero, List.set_cons_succ]
                refine wpAnyH_take (i := 6) (v := ?_) (by simp only [List.getElem?_toArray, List.getElem?_cons_succ, List.getElem?_cons_zero]; rfl) (by kernel_rfl) (by kernel_rfl) (by kernel_rfl) (by exact fun _ _ _ h => h) (Or.inl ⟨by rfl, ?_⟩) (by assumption) ?_
                rotate_left
                · (intro w hSw; (try dsimp only at hSw); unfold refS at hSw; go_simp; try with_reducible rfl)
                try simp only [Act.put, List.setIfInBounds_toArray, List.set_cons_zero, List.set_cons_succ]
                obtain ⟨wz, hwz⟩ : ∃ x, x = wu.drew := ⟨_, rfl⟩
                rw [← hwz] at HK hHeld ⊢
                clear hwz
                iterate 4
                  all_goals
                    (first | refine wpAnyH_ready (rs := [3, 8, 9]) (by decide +kernel) (by simp) (AllReadyH.cons rfl (fun K hK => ?_) (AllReadyH.cons rfl (fun K hK => ?_) (AllReadyH.cons rfl (fun K hK => ?_) AllReadyH.nil))) | refine wpAnyH_ready (rs := [7, 8, 9]) (by decide +kernel) (by simp) (AllReadyH.cons rfl (fun K hK => ?_) (AllReadyH.cons rfl (fun K hK => ?_) (AllReadyH.cons rfl (fun K hK => ?_) AllReadyH.nil))) | refine wpAnyH_ready (rs := [3, 9]) (by decide +kernel) (by simp) (AllReadyH.cons rfl (fun K hK => ?_) (AllReadyH.cons rfl (fun K hK => ?_) AllReadyH.nil)) | refine wpAnyH_ready (rs := [3, 8]) (by decide +kernel) (by simp) (AllReadyH.cons rfl (fun K hK => ?_) (AllReadyH.cons rfl (fun K hK => ?_) AllReadyH.nil)) | refine wpAnyH_ready (rs := [7, 9]) (by decide +kernel) (by simp) (AllReadyH.cons rfl (fun K hK => ?_) (AllReadyH.cons rfl (fun K hK => ?_) AllReadyH.nil)) | refine wpAnyH_ready (rs := [7, 8]) (by decide +kernel) (by simp) (AllReadyH.cons rfl (fun K hK => ?_) (AllReadyH.cons rfl (fun K hK => ?_) AllReadyH.nil)) | refine wpAnyH_ready (rs := [8, 9]) (by decide +kernel) (by simp) (AllReadyH.cons rfl (fun K hK => ?_) (AllReadyH.cons rfl (fun K hK => ?_) AllReadyH.nil)) | refine wpAnyH_ready (rs := [3]) (by decide +kernel) (by simp) (AllReadyH.cons rfl (fun K hK => ?_) AllReadyH.nil) | refine wpAnyH_ready (rs := [7]) (by decide +kernel) (by simp) (AllReadyH.cons rfl (fun K hK => ?_) AllReadyH.nil) | refine wpAnyH_ready (rs := [8]) (by decide +kernel) (by simp) (AllReadyH.cons rfl (fun K hK => ?_) AllReadyH.nil) | refine wpAnyH_ready (rs := [9]) (by decide +kernel) (by simp) (AllReadyH.cons rfl (fun K hK => ?_) AllReadyH.nil))
                    all_goals
                      rw [if_pos (by rfl)]
                      go_simp
                      first
                        | ((with_reducible refine (HRS1.out _ HK.out).mono ?_); rintro e8 w8 ⟨B1, d1, rfl, q8, hb8⟩; replace HK := Aside0.mk (below_step HK.out hb8); (try replace G1 := Aside0.mk (blk_below G1.out hb8)); (try replace G2 := Aside0.mk (blk_below G2.out hb8)); (try replace Q2 := Aside0.mk (Kd.Q_below Q2.out hb8)); have Q1 := Aside0.mk q8; clear q8 hb8; unfold resCells; refine hK.out _ _ ?_ (fun hHeld2 => ?_); (focus (exact HS5.out _ HK.out)); clear hK K hHeld; have hHeld := hHeld2; clear hHeld2; (try simp only [Act.put, List.setIfInBounds_toArray, List.set_cons_zero, List.set_cons_succ]); obtain ⟨wz, rfl⟩ : ∃ x : World, x = w8 := ⟨_, rfl⟩)
                        | ((with_reducible refine (HRS2.out _ HK.out).mono ?_); rintro e8 w8 ⟨B2, d2, rfl, q8, hb8⟩; replace HK := Aside0.mk (below_step HK.out hb8); (try replace G1 := Aside0.mk (blk_below G1.out hb8)); (try replace G2 := Aside0.mk (blk_below G2.out hb8)); (try replace Q1 := Aside0.mk (Kd.Q_below Q1.out hb8)); have Q2 := Aside0.mk q8; clear q8 hb8; unfold resCells; refine hK.out _ _ ?_ (fun hHeld2 => ?_); (focus (exact HS5.out _ HK.out)); clear hK K hHeld; have hHeld := hHeld2; clear hHeld2; (try simp only [Act.put, List.setIfInBounds_toArray, List.set_cons_zero, List.set_cons_succ]); obtain ⟨wz, rfl⟩ : ∃ x : World, x = w8 := ⟨_, rfl⟩)
                        | (have H2 := Aside0.mk (below_size HK.out); have HNE := Aside0.mk (show g1 ≠ wz.heap.size from by have := blk_lt G1.out; omega); have G2 := Aside0.mk (blk_new wz (.cells #[.int .i64 0, .bool false, .string ⟨#[]⟩, .bool false, .string ⟨#[]⟩, .bool false, .string ⟨#[]⟩, .bool false, .string ⟨#[]⟩, .slice none 0 0] 36)); replace G1 := Aside0.mk (blk_alloc G1.out (.cells #[.int .i64 0, .bool false, .string ⟨#[]⟩, .bool false, .string ⟨#[]⟩, .bool false, .string ⟨#[]⟩, .bool false, .string ⟨#[]⟩, .slice none 0 0] 36)); replace HK := Aside0.mk (below_alloc HK.out (.cells #[.int .i64 0, .bool false, .string ⟨#[]⟩, .bool false, .string ⟨#[]⟩, .bool false, .string ⟨#[]⟩, .bool false, .string ⟨#[]⟩, .slice none 0 0] 36)); (try replace Q1 := Aside0.mk (Kd.Q_alloc Q1.out (.cells #[.int .i64 0, .bool false, .string ⟨#[]⟩, .bool false, .string ⟨#[]⟩, .bool false, .string ⟨#[]⟩, .bool false, .string ⟨#[]⟩, .slice none 0 0] 36))); (try replace Q2 := Aside0.mk (Kd.Q_alloc Q2.out (.cells #[.int .i64 0, .bool false, .string ⟨#[]⟩, .bool false, .string ⟨#[]⟩, .bool false, .string ⟨#[]⟩, .bool false, .string ⟨#[]⟩, .slice none 0 0] 36))); refine hK.out _ _ ?_ (fun hHeld2 => ?_); (focus (exact HS5.out _ HK.out)); clear hK K hHeld; have hHeld := hHeld2; clear hHeld2; (try simp only [Act.put, List.setIfInBounds_toArray, List.set_cons_zero, List.set_cons_succ]); obtain ⟨wy, hwy⟩ : ∃ x, x = wz.alloc (.cells #[.int .i64 0, .bool false, .string ⟨#[]⟩, .bool false, .string ⟨#[]⟩, .bool false, .string ⟨#[]⟩, .bool false, .string ⟨#[]⟩, .slice none 0 0] 36) := ⟨_, rfl⟩; obtain ⟨gy, hgy⟩ : ∃ x, x = wz.heap.size := ⟨_, rfl⟩; rw [← hwy] at HK G1 G2 hHeld ⊢; (try rw [← hwy] at Q1); (try rw [← hwy] at Q2); rw [← hgy] at G2 H2 HNE ⊢; clear hwy hgy; obtain ⟨wz, rfl⟩ : ∃ x : World, x = wy := ⟨_, rfl⟩; obtain ⟨g2, rfl⟩ : ∃ x : Nat, x = gy := ⟨_, rfl⟩)
                        | (have H1 := Aside0.mk (below_size HK.out); have G1 := Aside0.mk (blk_new wz (.cells #[.int .i64 0, .bool false, .string ⟨#[]⟩, .bool false, .string ⟨#[]⟩, .bool false, .string ⟨#[]⟩, .bool false, .string ⟨#[]⟩, .slice none 0 0] 36)); replace HK := Aside0.mk (below_alloc HK.out (.cells #[.int .i64 0, .bool false, .string ⟨#[]⟩, .bool false, .string ⟨#[]⟩, .bool false, .string ⟨#[]⟩, .bool false, .string ⟨#[]⟩, .slice none 0 0] 36)); (try replace Q1 := Aside0.mk (Kd.Q_alloc Q1.out (.cells #[.int .i64 0, .bool false, .string ⟨#[]⟩, .bool false, .string ⟨#[]⟩, .bool false, .string ⟨#[]⟩, .bool false, .string ⟨#[]⟩, .slice none 0 0] 36))); (try replace Q2 := Aside0.mk (Kd.Q_alloc Q2.out (.cells #[.int .i64 0, .bool false, .string ⟨#[]⟩, .bool false, .string ⟨#[]⟩, .bool false, .string ⟨#[]⟩, .bool false, .string ⟨#[]⟩, .slice none 0 0] 36))); refine hK.out _ _ ?_ (fun hHeld2 => ?_); (focus (exact HS5.out _ HK.out)); clear hK K hHeld; have hHeld := hHeld2; clear hHeld2; (try simp only [Act.put, List.setIfInBounds_toArray, List.set_cons_zero, List.set_cons_succ]); obtain ⟨wy, hwy⟩ : ∃ x, x = wz.alloc (.cells #[.int .i64 0, .bool false, .string ⟨#[]⟩, .bool false, .string ⟨#[]⟩, .bool false, .string ⟨#[]⟩, .bool false, .string ⟨#[]⟩, .slice none 0 0] 36) := ⟨_, rfl⟩; obtain ⟨gy, hgy⟩ : ∃ x, x = wz.heap.size := ⟨_, rfl⟩; rw [← hwy] at HK G1 hHeld ⊢; (try rw [← hwy] at Q1); (try rw [← hwy] at Q2); rw [← hgy] at G1 H1 ⊢; clear hwy hgy; obtain ⟨wz, rfl⟩ : ∃ x : World, x = wy := ⟨_, rfl⟩; obtain ⟨g1, rfl⟩ : ∃ x : Nat, x = gy := ⟨_, rfl⟩)
                all_goals
                  first
                    | (have yf := blk_frozen G1.out; have e0 : _ = some (Value.int .i64 0) := blk_cell G1.out 0; have e1 : _ = some (Value.bool false) := blk_cell G1.out 1; have e2 : _ = some (Value.string ⟨#[]⟩) := blk_cell G1.out 2; have e3 : _ = some (Value.bool false) := blk_cell G1.out 3; have e4 : _ = some (Value.string ⟨#[]⟩) := blk_cell G1.out 4; have e5 : _ = some (Value.bool false) := blk_cell G1.out 5; have e6 : _ = some (Value.string ⟨#[]⟩) := blk_cell G1.out 6; have e7 : _ = some (Value.bool false) := blk_cell G1.out 7; have e8 : _ = some (Value.string ⟨#[]⟩) := blk_cell G1.out 8; have e9 : _ = some (Value.slice none 0 0) := blk_cell G1.out 9; refine wpAnyH_ready (rs := [10]) (by kernel_rfl) (by simp) (AllReadyH.cons rfl (fun K hK => ?_) AllReadyH.nil); rw [if_pos (by rfl)]; go_simp; refine hK.out _ (set10 wz g1 (.int .i64 k) (.bool P.f0.f0) (.string P.f0.f1) (.bool P.f1.f0) (.string P.f1.f1) (.bool P.f2.f0) (.string P.f2.f1) (.bool P.f3.f0) (.string P.f3.f1) (.slice B1 pl.length d1)) ?_ (fun hHeld2 => ?_); (focus (exact HS5.out _ (below10 HK.out H1.out _ _ _ _ _ _ _ _ _ _))); replace HK := Aside0.mk (below10 HK.out H1.out (.int .i64 k) (.bool P.f0.f0) (.string P.f0.f1) (.bool P.f1.f0) (.string P.f1.f1) (.bool P.f2.f0) (.string P.f2.f1) (.bool P.f3.f0) (.string P.f3.f1) (.slice B1 pl.length d1)); replace G2 := Aside0.mk (far10 G2.out (Ne.symm HNE.out) (.int .i64 k) (.bool P.f0.f0) (.string P.f0.f1) (.bool P.f1.f0) (.string P.f1.f1) (.bool P.f2.f0) (.string P.f2.f1) (.bool P.f3.f0) (.string P.f3.f1) (.slice B1 pl.length d1)); replace Q1 := Aside0.mk (q10 Q1.out G1.out (.int .i64 k) (.bool P.f0.f0) (.string P.f0.f1) (.bool P.f1.f0) (.string P.f1.f1) (.bool P.f2.f0) (.string P.f2.f1) (.bool P.f3.f0) (.string P.f3.f1) (.slice B1 pl.length d1)); replace Q2 := Aside0.mk (q10 Q2.out G1.out (.int .i64 k) (.bool P.f0.f0) (.string P.f0.f1) (.bool P.f1.f0) (.string P.f1.f1) (.bool P.f2.f0) (.string P.f2.f1) (.bool P.f3.f0) (.string P.f3.f1) (.slice B1 pl.length d1)); replace G1 := Aside0.mk (put10 G1.out (.int .i64 k) (.bool P.f0.f0) (.string P.f0.f1) (.bool P.f1.f0) (.string P.f1.f1) (.bool P.f2.f0) (.string P.f2.f1) (.bool P.f3.f0) (.string P.f3.f1) (.slice B1 pl.length d1)); clear hK K hHeld yf e0 e1 e2 e3 e4 e5 e6 e7 e8 e9; have hHeld := hHeld2; clear hHeld2; (try simp only [Act.put, List.setIfInBounds_toArray, List.set_cons_zero, List.set_cons_succ]); have yf := blk_frozen G2.out; have e0 : _ = some (Value.int .i64 0) := blk_cell G2.out 0; have e1 : _ = some (Value.bool false) := blk_cell G2.out 1; have e2 : _ = some (Value.string ⟨#[]⟩) := blk_cell G2.out 2; have e3 : _ = some (Value.bool false) := blk_cell G2.out 3; have e4 : _ = some (Value.string ⟨#[]⟩) := blk_cell G2.out 4; have e5 : _ = some (Value.bool false) := blk_cell G2.out 5; have e6 : _ = some (Value.string ⟨#[]⟩) := blk_cell G2.out 6; have e7 : _ = some (Value.bool false) := blk_cell G2.out 7; have e8 : _ = some (Value.string ⟨#[]⟩) := blk_cell G2.out 8; have e9 : _ = some (Value.slice none 0 0) := blk_cell G2.out 9; refine wpAnyH_ready (rs := [11]) (by kernel_rfl) (by simp) (AllReadyH.cons rfl (fun K hK => ?_) AllReadyH.nil); rw [if_pos (by rfl)]; go_simp; refine hK.out _ (set10 (set10 wz g1 (.int .i64 k) (.bool P.f0.f0) (.string P.f0.f1) (.bool P.f1.f0) (.string P.f1.f1) (.bool P.f2.f0) (.string P.f2.f1) (.bool P.f3.f0) (.string P.f3.f1) (.slice B1 pl.length d1)) g2 (.int .i64 k) (.bool P.f1.f0) (.string P.f1.f1) (.bool P.f0.f0) (.string P.f0.f1) (.bool P.f2.f0) (.string P.f2.f1) (.bool P.f3.f0) (.string P.f3.f1) (.slice B2 pl.length d2)) ?_ (fun hHeld2 => ?_); (focus (exact HS5.out _ (below10 HK.out H2.out _ _ _ _ _ _ _ _ _ _))); replace HK := Aside0.mk (below10 HK.out H2.out (.int .i64 k) (.bool P.f1.f0) (.string P.f1.f1) (.bool P.f0.f0) (.string P.f0.f1) (.bool P.f2.f0) (.string P.f2.f1) (.bool P.f3.f0) (.string P.f3.f1) (.slice B2 pl.length d2)); replace G1 := Aside0.mk (far10 G1.out HNE.out (.int .i64 k) (.bool P.f1.f0) (.string P.f1.f1) (.bool P.f0.f0) (.string P.f0.f1) (.bool P.f2.f0) (.string P.f2.f1) (.bool P.f3.f0) (.string P.f3.f1) (.slice B2 pl.length d2)); replace Q1 := Aside0.mk (q10 Q1.out G2.out (.int .i64 k) (.bool P.f1.f0) (.string P.f1.f1) (.bool P.f0.f0) (.string P.f0.f1) (.bool P.f2.f0) (.string P.f2.f1) (.bool P.f3.f0) (.string P.f3.f1) (.slice B2 pl.length d2)); replace Q2 := Aside0.mk (q10 Q2.out G2.out (.int .i64 k) (.bool P.f1.f0) (.string P.f1.f1) (.bool P.f0.f0) (.string P.f0.f1) (.bool P.f2.f0) (.string P.f2.f1) (.bool P.f3.f0) (.string P.f3.f1) (.slice B2 pl.length d2)); replace G2 := Aside0.mk (put10 G2.out (.int .i64 k) (.bool P.f1.f0) (.string P.f1.f1) (.bool P.f0.f0) (.string P.f0.f1) (.bool P.f2.f0) (.string P.f2.f1) (.bool P.f3.f0) (.string P.f3.f1) (.slice B2 pl.length d2)); clear hK K hHeld yf e0 e1 e2 e3 e4 e5 e6 e7 e8 e9; have hHeld := hHeld2; clear hHeld2; (try simp only [Act.put, List.setIfInBounds_toArray, List.set_cons_zero, List.set_cons_succ]); refine wpAnyH_done (by kernel_rfl) ?_ _; go_wp2_with fail; go_meet; exact ⟨g1, g2, B1, B2, d1, d2, rfl, rfl, H1, ⟨HNE.out⟩, G1, G2, Q1, Q2, HK⟩)
                    | (have yf := blk_frozen G2.out; have e0 : _ = some (Value.int .i64 0) := blk_cell G2.out 0; have e1 : _ = some (Value.bool false) := blk_cell G2.out 1; have e2 : _ = some (Value.string ⟨#[]⟩) := blk_cell G2.out 2; have e3 : _ = some (Value.bool false) := blk_cell G2.out 3; have e4 : _ = some (Value.string ⟨#[]⟩) := blk_cell G2.out 4; have e5 : _ = some (Value.bool false) := blk_cell G2.out 5; have e6 : _ = some (Value.string ⟨#[]⟩) := blk_cell G2.out 6; have e7 : _ = some (Value.bool false) := blk_cell G2.out 7; have e8 : _ = some (Value.string ⟨#[]⟩) := blk_cell G2.out 8; have e9 : _ = some (Value.slice none 0 0) := blk_cell G2.out 9; refine wpAnyH_ready (rs := [10]) (by kernel_rfl) (by simp) (AllReadyH.cons rfl (fun K hK => ?_) AllReadyH.nil); rw [if_pos (by rfl)]; go_simp; refine hK.out _ (set10 wz g2 (.int .i64 k) (.bool P.f0.f0) (.string P.f0.f1) (.bool P.f1.f0) (.string P.f1.f1) (.bool P.f2.f0) (.string P.f2.f1) (.bool P.f3.f0) (.string P.f3.f1) (.slice B1 pl.length d1)) ?_ (fun hHeld2 => ?_); (focus (exact HS5.out _ (below10 HK.out H2.out _ _ _ _ _ _ _ _ _ _))); replace HK := Aside0.mk (below10 HK.out H2.out (.int .i64 k) (.bool P.f0.f0) (.string P.f0.f1) (.bool P.f1.f0) (.string P.f1.f1) (.bool P.f2.f0) (.string P.f2.f1) (.bool P.f3.f0) (.string P.f3.f1) (.slice B1 pl.length d1)); replace G1 := Aside0.mk (far10 G1.out HNE.out (.int .i64 k) (.bool P.f0.f0) (.string P.f0.f1) (.bool P.f1.f0) (.string P.f1.f1) (.bool P.f2.f0) (.string P.f2.f1) (.bool P.f3.f0) (.string P.f3.f1) (.slice B1 pl.length d1)); replace Q1 := Aside0.mk (q10 Q1.out G2.out (.int .i64 k) (.bool P.f0.f0) (.string P.f0.f1) (.bool P.f1.f0) (.string P.f1.f1) (.bool P.f2.f0) (.string P.f2.f1) (.bool P.f3.f0) (.string P.f3.f1) (.slice B1 pl.length d1)); replace Q2 := Aside0.mk (q10 Q2.out G2.out (.int .i64 k) (.bool P.f0.f0) (.string P.f0.f1) (.bool P.f1.f0) (.string P.f1.f1) (.bool P.f2.f0) (.string P.f2.f1) (.bool P.f3.f0) (.string P.f3.f1) (.slice B1 pl.length d1)); replace G2 := Aside0.mk (put10 G2.out (.int .i64 k) (.bool P.f0.f0) (.string P.f0.f1) (.bool P.f1.f0) (.string P.f1.f1) (.bool P.f2.f0) (.string P.f2.f1) (.bool P.f3.f0) (.string P.f3.f1) (.slice B1 pl.length d1)); clear hK K hHeld yf e0 e1 e2 e3 e4 e5 e6 e7 e8 e9; have hHeld := hHeld2; clear hHeld2; (try simp only [Act.put, List.setIfInBounds_toArray, List.set_cons_zero, List.set_cons_succ]); have yf := blk_frozen G1.out; have e0 : _ = some (Value.int .i64 0) := blk_cell G1.out 0; have e1 : _ = some (Value.bool false) := blk_cell G1.out 1; have e2 : _ = some (Value.string ⟨#[]⟩) := blk_cell G1.out 2; have e3 : _ = some (Value.bool false) := blk_cell G1.out 3; have e4 : _ = some (Value.string ⟨#[]⟩) := blk_cell G1.out 4; have e5 : _ = some (Value.bool false) := blk_cell G1.out 5; have e6 : _ = some (Value.string ⟨#[]⟩) := blk_cell G1.out 6; have e7 : _ = some (Value.bool false) := blk_cell G1.out 7; have e8 : _ = some (Value.string ⟨#[]⟩) := blk_cell G1.out 8; have e9 : _ = some (Value.slice none 0 0) := blk_cell G1.out 9; refine wpAnyH_ready (rs := [11]) (by kernel_rfl) (by simp) (AllReadyH.cons rfl (fun K hK => ?_) AllReadyH.nil); rw [if_pos (by rfl)]; go_simp; refine hK.out _ (set10 (set10 wz g2 (.int .i64 k) (.bool P.f0.f0) (.string P.f0.f1) (.bool P.f1.f0) (.string P.f1.f1) (.bool P.f2.f0) (.string P.f2.f1) (.bool P.f3.f0) (.string P.f3.f1) (.slice B1 pl.length d1)) g1 (.int .i64 k) (.bool P.f1.f0) (.string P.f1.f1) (.bool P.f0.f0) (.string P.f0.f1) (.bool P.f2.f0) (.string P.f2.f1) (.bool P.f3.f0) (.string P.f3.f1) (.slice B2 pl.length d2)) ?_ (fun hHeld2 => ?_); (focus (exact HS5.out _ (below10 HK.out H1.out _ _ _ _ _ _ _ _ _ _))); replace HK := Aside0.mk (below10 HK.out H1.out (.int .i64 k) (.bool P.f1.f0) (.string P.f1.f1) (.bool P.f0.f0) (.string P.f0.f1) (.bool P.f2.f0) (.string P.f2.f1) (.bool P.f3.f0) (.string P.f3.f1) (.slice B2 pl.length d2)); replace G2 := Aside0.mk (far10 G2.out (Ne.symm HNE.out) (.int .i64 k) (.bool P.f1.f0) (.string P.f1.f1) (.bool P.f0.f0) (.string P.f0.f1) (.bool P.f2.f0) (.string P.f2.f1) (.bool P.f3.f0) (.string P.f3.f1) (.slice B2 pl.length d2)); replace Q1 := Aside0.mk (q10 Q1.out G1.out (.int .i64 k) (.bool P.f1.f0) (.string P.f1.f1) (.bool P.f0.f0) (.string P.f0.f1) (.bool P.f2.f0) (.string P.f2.f1) (.bool P.f3.f0) (.string P.f3.f1) (.slice B2 pl.length d2)); replace Q2 := Aside0.mk (q10 Q2.out G1.out (.int .i64 k) (.bool P.f1.f0) (.string P.f1.f1) (.bool P.f0.f0) (.string P.f0.f1) (.bool P.f2.f0) (.string P.f2.f1) (.bool P.f3.f0) (.string P.f3.f1) (.slice B2 pl.length d2)); replace G1 := Aside0.mk (put10 G1.out (.int .i64 k) (.bool P.f1.f0) (.string P.f1.f1) (.bool P.f0.f0) (.string P.f0.f1) (.bool P.f2.f0) (.string P.f2.f1) (.bool P.f3.f0) (.string P.f3.f1) (.slice B2 pl.length d2)); clear hK K hHeld yf e0 e1 e2 e3 e4 e5 e6 e7 e8 e9; have hHeld := hHeld2; clear hHeld2; (try simp only [Act.put, List.setIfInBounds_toArray, List.set_cons_zero, List.set_cons_succ]); refine wpAnyH_done (by kernel_rfl) ?_ _; go_wp2_with fail; go_meet; exact ⟨g2, g1, B1, B2, d1, d2, rfl, rfl, H2, ⟨(Ne.symm HNE.out)⟩, G2, G1, Q1, Q2, HK⟩)
              case rest =>
                obtain ⟨ga, gb, B1, B2, d1, d2, rfl, rfl, HGA, HNE, GA, GB, Q1, Q2, HK⟩ := hcut
                clear HRS1 HRS2 HS5
                have z1 : _ = some (Value.bool P.f0.f0) := blk_cell GA.out 1
                have z2 : _ = some (Value.string P.f0.f1) := blk_cell GA.out 2
                have z3 : _ = some (Value.bool P.f1.f0) := blk_cell GA.out 3
                have z4 : _ = some (Value.string P.f1.f1) := blk_cell GA.out 4
                have z5 : _ = some (Value.bool P.f2.f0) := blk_cell GA.out 5
                have z6 : _ = some (Value.string P.f2.f1) := blk_cell GA.out 6
                have z7 : _ = some (Value.bool P.f3.f0) := blk_cell GA.out 7
                have z8 : _ = some (Value.string P.f3.f1) := blk_cell GA.out 8
                go_wp2_with fail
                refine (turn_any P _).mono ?_
                rintro e6 w6 ⟨rfl, hb6⟩
                replace HK := Aside0.mk (below_step HK.out hb6)
                replace GA := Aside0.mk (blk_below GA.out hb6)
                replace GB := Aside0.mk (blk_below GB.out hb6)
                replace Q1 := Aside0.mk (Kd.Q_below Q1.out hb6)
                replace Q2 := Aside0.mk (Kd.Q_below Q2.out hb6)
                clear hb6 z1 z2 z3 z4 z5 z6 z7 z8
                have yf := blk_frozen GA.out
                have z1 : _ = some (Value.bool P.f0.f0) := blk_cell GA.out 1
                have z2 : _ = some (Value.string P.f0.f1) := blk_cell GA.out 2
                have z3 : _ = some (Value.bool P.f1.f0) := blk_cell GA.out 3
                have z4 : _ = some (Value.string P.f1.f1) := blk_cell GA.out 4
                have z5 : _ = some (Value.bool P.f2.f0) := blk_cell GA.out 5
                have z6 : _ = some (Value.string P.f2.f1) := blk_cell GA.out 6
                have z7 : _ = some (Value.bool P.f3.f0) := blk_cell GA.out 7
                have z8 : _ = some (Value.string P.f3.f1) := blk_cell GA.out 8
                replace HK := Aside0.mk (below8 HK.out HGA.out (.bool P.f1.f0) (.string P.f1.f1) (.bool P.f0.f0) (.string P.f0.f1) (.bool P.f2.f0) (.string P.f2.f1) (.bool P.f3.f0) (.string P.f3.f1))
                replace GB := Aside0.mk (far8 GB.out (Ne.symm HNE.out) (.bool P.f1.f0) (.string P.f1.f1) (.bool P.f0.f0) (.string P.f0.f1) (.bool P.f2.f0) (.string P.f2.f1) (.bool P.f3.f0) (.string P.f3.f1))
                replace Q1 := Aside0.mk (q_set8 Q1.out GA.out (.bool P.f1.f0) (.string P.f1.f1) (.bool P.f0.f0) (.string P.f0.f1) (.bool P.f2.f0) (.string P.f2.f1) (.bool P.f3.f0) (.string P.f3.f1))
                replace Q2 := Aside0.mk (q_set8 Q2.out GA.out (.bool P.f1.f0) (.string P.f1.f1) (.bool P.f0.f0) (.string P.f0.f1) (.bool P.f2.f0) (.string P.f2.f1) (.bool P.f3.f0) (.string P.f3.f1))
                replace GA := Aside0.mk (put8 GA.out (.bool P.f1.f0) (.string P.f1.f1) (.bool P.f0.f0) (.string P.f0.f1) (.bool P.f2.f0) (.string P.f2.f1) (.bool P.f3.f0) (.string P.f3.f1))
                unfold plCells turn
                go_wp2_with fail
                go_loopw [104] (fun i wr => ∃ n : Nat, i = .int .i64 n ∧ n ≤ L.length ∧ Aside0 (wr.heap[ga]? = some (.cells #[.int .i64 k, .bool P.f1.f0, .string P.f1.f1, .bool P.f0.f0, .string P.f0.f1, .bool P.f2.f0, .string P.f2.f1, .bool P.f3.f0, .string P.f3.f1, .slice B1 pl.length d1] 36 (0, 0))) ∧ Aside0 (wr.heap[gb]? = some (.cells #[.int .i64 k, .bool P.f1.f0, .string P.f1.f1, .bool P.f0.f0, .string P.f0.f1, .bool P.f2.f0, .string P.f2.f1, .bool P.f3.f0, .string P.f3.f1, .slice B2 pl.length d2] 36 (0, 0))) ∧ Aside0 (Kd.Q (Kd.int .i64) 3 wr wu.heap.size (fun _ => True) (.slice B1 pl.length d1) pl) ∧ Aside0 (Kd.Q (Kd.int .i64) 3 wr wu.heap.size (fun _ => True) (.slice B2 pl.length d2) pl) ∧ Aside0 (Below wu.heap.size wu wr)) (fun i _ => L.length - (RowKit.intOf i).toNat)
                case atStart => exact ⟨0, rfl, Nat.zero_le _, GA, GB, Q1, Q2, HK⟩
                case round =>
                  clear GA GB Q1 Q2 HK yf z1 z2 z3 z4 z5 z6 z7 z8
                  obtain ⟨n, rfl, hn, GA, GB, Q1, Q2, HK⟩ := hrel
                  by_cases hlt : n < L.length
                  · have hBw := Aside0.mk (below_step HB.out HK.out)
                    obtain ⟨T1, a1, ok, hR⟩ : ∃ T1 a1 ok, refR L t (n : Int) = (T1, a1, ok) := ⟨_, _, _, rfl⟩
                    have hR2 : refR ms us (n : Int) = (T1, a1, ok) := by rw [HML.out, HUS.out, refR_turn]; exact hR
                    have HR1 := Aside0.mk (Reference_any L A0 c0 t A1 c1 (n : Int) _ (Kd.C_below R0.out hBw.out) (Kd.C_below R1.out hBw.out) (by omega) (fun x hx => Nat.le_trans (LX.out x hx) (by omega)))
                    have HR2 : Aside0 (∀ W, Below wu.heap.size wu W → Calls Tryz.prog 14 #[.slice Am ms.length cm, .slice Au us.length cu, .int .i64 n] W fun e w' => ∃ v : Value, e = .returned (.tuple #[.agg #[.string T1, v], .bool ok]) ∧ Kd.Q Kd.string 9 w' W.heap.size (fun _ => True) v a1 ∧ Below W.heap.size W w') := ⟨fun W hW => by
                      have := Reference_any ms Am cm us Au cu (n : Int) W (Kd.C_below (Kd.R_reads' HR.out).2.2 hW) (Kd.C_below (Kd.R_reads' HU.out).2.2 hW) (by have := HLL.out.2; omega) (fun x hx => by
                        rw [HML.out] at hx
                        obtain ⟨x', hx', rfl⟩ := List.mem_map.1 hx
                        have := LX.out x' hx'
                        show (x'.f2.map turn).length ≤ _
                        rw [List.length_map]
                        omega)
                      rwa [hR2] at this⟩
                    rw [hR] at HR1
                    clear hR hR2 hBw
                    go_wp2_with fail
                    refine HR1.out.mono ?_
                    rintro e7 w7 ⟨v7, rfl, q7, hb7⟩
                    dsimp only at q7 ⊢
                    obtain ⟨D1, f1, rfl, -⟩ := Kd.Q_slice q7
                    have HK7 := Aside0.mk (below_alloc (below_step HK.out hb7) (.cells #[.string T1, .slice D1 a1.length f1] 26))
                    have KT := Aside0.mk (blk_new w7 (.cells #[.string T1, .slice D1 a1.length f1] 26))
                    have CT := Aside0.mk (Kd.C_alloc (Kd.Q_reads' q7).2.2 (.cells #[.string T1, .slice D1 a1.length f1] 26))
                    replace GA := Aside0.mk (blk_alloc (blk_below GA.out hb7) (.cells #[.string T1, .slice D1 a1.length f1] 26))
                    replace GB := Aside0.mk (blk_alloc (blk_below GB.out hb7) (.cells #[.string T1, .slice D1 a1.length f1] 26))
                    replace Q1 := Aside0.mk (Kd.Q_alloc (Kd.Q_below Q1.out hb7) (.cells #[.string T1, .slice D1 a1.length f1] 26))
                    replace Q2 := Aside0.mk (Kd.Q_alloc (Kd.Q_below Q2.out hb7) (.cells #[.string T1, .slice D1 a1.length f1] 26))
                    clear HR1 q7 hb7 HK
                    go_wp2_with fail
                    refine (HR2.out _ HK7.out).mono ?_
                    rintro e8 w8 ⟨v8, rfl, q8, hb8⟩
                    obtain ⟨D2, f2, rfl, -⟩ := Kd.Q_slice q8
                    have HK8 := Aside0.mk (below_alloc (below_step HK7.out hb8) (.cells #[.string T1, .slice D2 a1.length f2] 26))
                    have KU := Aside0.mk (blk_new w8 (.cells #[.string T1, .slice D2 a1.length f2] 26))
                    have CU := Aside0.mk (Kd.C_alloc (Kd.Q_reads' q8).2.2 (.cells #[.string T1, .slice D2 a1.length f2] 26))
                    replace KT := Aside0.mk (blk_alloc (blk_below KT.out hb8) (.cells #[.string T1, .slice D2 a1.length f2] 26))
                    replace CT := Aside0.mk (Kd.C_alloc (Kd.C_below CT.out hb8) (.cells #[.string T1, .slice D2 a1.length f2] 26))
                    replace GA := Aside0.mk (blk_alloc (blk_below GA.out hb8) (.cells #[.string T1, .slice D2 a1.length f2] 26))
                    replace GB := Aside0.mk (blk_alloc (blk_below GB.out hb8) (.cells #[.string T1, .slice D2 a1.length f2] 26))
                    replace Q1 := Aside0.mk (Kd.Q_alloc (Kd.Q_below Q1.out hb8) (.cells #[.string T1, .slice D2 a1.length f2] 26))
                    replace Q2 := Aside0.mk (Kd.Q_alloc (Kd.Q_below Q2.out hb8) (.cells #[.string T1, .slice D2 a1.length f2] 26))
                    clear HR2 q8 hb8 HK7
                    have z0 : _ = some (Value.string T1) := blk_cell KT.out 0
                    have z1 : _ = some (Value.slice D1 a1.length f1) := blk_cell KT.out 1
                    cases ok with
                    | false =>
                      go_wp2_with fail
                      refine (Same_eq T1 a1 D1 D2 f1 f2 _ CT.out CU.out).mono ?_
                      rintro e9 w9 ⟨rfl, hb9⟩
                      go_wp2_with fail
                      go_roundw
                      case rel => exact ⟨n + 1, by go_num, hlt, ⟨blk_below GA.out hb9⟩, ⟨blk_below GB.out hb9⟩, ⟨Kd.Q_below Q1.out hb9⟩, ⟨Kd.Q_below Q2.out hb9⟩, ⟨below_step HK8.out hb9⟩⟩
                      case measure => simp [RowKit.intOf]; omega
                    | true =>
                      go_wp2_with fail
                      refine (Same_eq T1 a1 D1 D2 f1 f2 _ CT.out CU.out).mono ?_
                      rintro e9 w9 ⟨rfl, hb9⟩
                      go_wp2_with fail
                      go_roundw
                      case rel => exact ⟨n + 1, by go_num, hlt, ⟨blk_below GA.out hb9⟩, ⟨blk_below GB.out hb9⟩, ⟨Kd.Q_below Q1.out hb9⟩, ⟨Kd.Q_below Q2.out hb9⟩, ⟨below_step HK8.out hb9⟩⟩
                      case measure => simp [RowKit.intOf]; omega
                  · have hBw := Aside0.mk (below_step HB.out HK.out)
                    go_wp2_with fail
                    refine (fixed_any _ (HG.out.below hBw.out)).mono ?_
                    rintro e9 w9 ⟨rfl, hb9⟩
                    replace GA := Aside0.mk (blk_below GA.out hb9)
                    replace GB := Aside0.mk (blk_below GB.out hb9)
                    replace Q1 := Aside0.mk (Kd.Q_below Q1.out hb9)
                    replace Q2 := Aside0.mk (Kd.Q_below Q2.out hb9)
                    replace hBw := Aside0.mk (below_step hBw.out hb9)
                    clear hb9 HK
                    have z0 : _ = some (Value.int .i64 k) := blk_cell GA.out 0
                    have z1 : _ = some (Value.bool P.f1.f0) := blk_cell GA.out 1
                    have z2 : _ = some (Value.string P.f1.f1) := blk_cell GA.out 2
                    have z3 : _ = some (Value.bool P.f0.f0) := blk_cell GA.out 3
                    have z4 : _ = some (Value.string P.f0.f1) := blk_cell GA.out 4
                    have z5 : _ = some (Value.bool P.f2.f0) := blk_cell GA.out 5
                    have z6 : _ = some (Value.string P.f2.f1) := blk_cell GA.out 6
                    have z7 : _ = some (Value.bool P.f3.f0) := blk_cell GA.out 7
                    have z8 : _ = some (Value.string P.f3.f1) := blk_cell GA.out 8
                    have z9 : _ = some (Value.slice B1 pl.length d1) := blk_cell GA.out 9
                    have y0 : _ = some (Value.int .i64 k) := blk_cell GB.out 0
                    have y1 : _ = some (Value.bool P.f1.f0) := blk_cell GB.out 1
                    have y2 : _ = some (Value.string P.f1.f1) := blk_cell GB.out 2
                    have y3 : _ = some (Value.bool P.f0.f0) := blk_cell GB.out 3
                    have y4 : _ = some (Value.string P.f0.f1) := blk_cell GB.out 4
                    have y5 : _ = some (Value.bool P.f2.f0) := blk_cell GB.out 5
                    have y6 : _ = some (Value.string P.f2.f1) := blk_cell GB.out 6
                    have y7 : _ = some (Value.bool P.f3.f0) := blk_cell GB.out 7
                    have y8 : _ = some (Value.string P.f3.f1) := blk_cell GB.out 8
                    have y9 : _ = some (Value.slice B2 pl.length d2) := blk_cell GB.out 9
                    go_wp2_with fail
                    refine (SameFound_eq k (turn P) pl B1 B2 d1 d2 _ (Kd.Q_reads' Q1.out).2.2 (Kd.Q_reads' Q2.out).2.2).mono ?_
                    rintro e9 w10 ⟨rfl, hb9⟩
                    replace hBw := Aside0.mk (below_step hBw.out hb9)
                    clear hb9
                    go_wp2_with fail
                    go_ret
                    exact ⟨rfl, hBw.out⟩
end Go.Proofs.YtkceipkedmfeiaaGreatDoor.XL
