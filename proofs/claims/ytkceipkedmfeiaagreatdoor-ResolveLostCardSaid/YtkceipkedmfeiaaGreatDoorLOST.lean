/- ResolveLost, walked: it answers true. -/
import Derived.Test.YtkceipkedmfeiaaGreatDoorRV
import Derived.Test.YtkceipkedmfeiaaGreatDoorTOT
namespace Go.Proofs.YtkceipkedmfeiaaGreatDoor.XL
open Go Go.RowKit Go.Shelf Go.Proofs.YtkceipkedmfeiaaGreatDoorW.PrintWords Go.Proofs.YtkceipkedmfeiaaGreatDoorW.PrintLast Go.Proofs.YtkceipkedmfeiaaGreatDoorW.PrintMore Go.Proofs.YtkceipkedmfeiaaGreatDoor.X30 Go.Proofs.YtkceipkedmfeiaaGreatDoor.XU

def onPl (p : PL) (L : List FC) : Bool := L.any fun x => plEq x.f0 p
theorem scan_ne (t : List NP) (adj : List ByteArray) (p : PL) : ∀ (L : List FC) (n best : Nat) (ps : List Int), ps ≠ [] → scanGo t adj p L n best ps ≠ []
  | [], _, _, _, h => h
  | x :: L, n, best, ps, h => by
    rw [scanGo]
    split
    · split
      · exact scan_ne t adj p L _ _ _ (by simp)
      · split
        · exact scan_ne t adj p L _ _ _ (by simp)
        · exact scan_ne t adj p L _ _ _ h
    · exact scan_ne t adj p L _ _ _ h
theorem scan_none (t : List NP) (adj : List ByteArray) (p : PL) : ∀ (L : List FC) (n : Nat), (onPl p L = false → scanGo t adj p L n 0 [] = []) ∧ (onPl p L = true → scanGo t adj p L n 0 [] ≠ [])
  | [], n => ⟨fun _ => rfl, fun h => by simp [onPl] at h⟩
  | x :: L, n => by
    have ih := scan_none t adj p L (n + 1)
    rw [scanGo]
    unfold onPl at ih ⊢
    rw [List.any_cons]
    cases hx : plEq x.f0 p with
    | true =>
      refine ⟨fun h => by simp at h, fun _ => ?_⟩
      rw [if_pos rfl]
      split
      · exact scan_ne t adj p L _ _ _ (by simp)
      · rw [if_pos (by omega)]
        exact scan_ne t adj p L _ _ _ (by simp)
    | false =>
      rw [if_neg Bool.false_ne_true, Bool.false_or]
      exact ih
theorem onPl_snoc (p : PL) (L : List FC) (n : Nat) (h : n < L.length) : onPl p (L.take (n + 1)) = (onPl p (L.take n) || plEq L[n].f0 p) := by
  unfold onPl
  rw [List.take_succ_eq_append_getElem h, List.any_append]
  simp only [List.any_cons, List.any_nil, Bool.or_false]
theorem outOf_some {p : PL} {ps : List Int} (h : ps ≠ []) : ∃ k : Int, (k = 1 ∨ k = 2) ∧ outOf p ps = (k, p, ps) := by
  match ps, h with
  | [i], _ => exact ⟨1, .inl rfl, rfl⟩
  | i :: j :: r, _ => exact ⟨2, .inr rfl, rfl⟩

attribute [local go_sem high] eqA33
set_option maxHeartbeats 12800000 in
set_option maxRecDepth 100000 in
theorem Lost_walk (L : List FC) (A0 : Option Addr) (c0 : Nat) (t : List NP) (A1 : Option Addr) (c1 : Nat) (T : ByteArray) (adj : List ByteArray) (A2 : Option Addr) (c2 : Nat) (w : World) (hG : EnvL w)
    (h0 : Kd.C k43 w A0 L.length L) (l0 : L.length ≤ c0) (h1 : Kd.C k50 w A1 t.length t) (l1 : t.length ≤ c1) (h2 : Kd.C Kd.string w A2 adj.length adj) (l2 : adj.length ≤ c2) (lL : L.length ≤ 17592186044416) (lt : t.length ≤ 9223372036854775807) (la : adj.length ≤ 9223372036854775807) (lx : ∀ x ∈ L, x.f2.length ≤ 9223372036854775807) :
    Calls Tryz.prog 3 #[.slice A0 L.length c0, .slice A1 t.length c1, .agg #[.string T, .slice A2 adj.length c2]] w fun e w' => e = .returned (.bool true) ∧ Below w.heap.size w w' := by
  have HG := Aside0.mk hG
  have R0 := Aside0.mk h0
  have R1 := Aside0.mk h1
  have R2 := Aside0.mk h2
  have LX := Aside0.mk lx
  have HB := Aside0.mk (below_alloc (Below.refl w.heap.size w) (.cells #[.string T, .slice A2 adj.length c2] 26))
  have K5 := Aside0.mk (blk_new w (.cells #[.string T, .slice A2 adj.length c2] 26))
  clear h0 h1 h2 hG lx
  go_enter Tryz.func3, Tryz.ntmps3
  go_wp2_with fail
  obtain ⟨rg, hgr⟩ := Great_any L A0 c0 t A1 c1 T adj A2 c2 _ (Kd.C_below R0.out HB.out) l0 (Kd.C_below R1.out HB.out) l1 (Kd.C_below R2.out HB.out) l2 lL lt la
  refine hgr.mono ?_
  clear hgr
  rintro e1 w1 ⟨rfl, hb1⟩
  replace HB := Aside0.mk (below_step HB.out hb1)
  replace K5 := Aside0.mk (blk_below K5.out hb1)
  clear hb1
  by_cases hg : 0 < rg
  · have g1 : (0 < rg) = True := eq_true hg
    clear hg
    go_wp2_with fail
    refine (fixed_any _ (HG.out.below HB.out)).mono ?_
    rintro e2 w2 ⟨rfl, hb2⟩
    replace HB := Aside0.mk (below_step HB.out hb2)
    clear hb2
    go_wp2_with fail
    go_ret
    exact ⟨rfl, HB.out⟩
  have g1 : (0 < rg) = False := eq_false hg
  clear hg
  go_wp2_with fail
  obtain ⟨rb, hrt⟩ := right_any A1 c1 t _ (Kd.C_below R1.out HB.out) l1 lt
  refine hrt.mono ?_
  clear hrt
  rintro e1 w2 ⟨rfl, hb1⟩
  replace HB := Aside0.mk (below_step HB.out hb1)
  replace K5 := Aside0.mk (blk_below K5.out hb1)
  clear hb1
  cases rb with
  | false =>
    go_wp2_with fail
    refine (fixed_any _ (HG.out.below HB.out)).mono ?_
    rintro e2 w2 ⟨rfl, hb2⟩
    replace HB := Aside0.mk (below_step HB.out hb2)
    clear hb2
    go_wp2_with fail
    go_ret
    exact ⟨rfl, HB.out⟩
  | true =>
    have x0 : _ = some (Value.string T) := blk_cell K5.out 0
    have x1 : _ = some (Value.slice A2 adj.length c2) := blk_cell K5.out 1
    go_wp2_with fail
    refine (Resolve_any L A0 c0 t A1 c1 T adj A2 c2 _ (HG.out.below HB.out) (Kd.C_below R0.out HB.out) (Kd.C_below R1.out HB.out) (Kd.C_below R2.out HB.out) lL lt la LX.out).mono ?_
    rintro e3 w3 ⟨v, rfl, hQ, hb3⟩
    obtain ⟨kf, pf, lf, hR⟩ : ∃ k p l, resolveF L t T adj = (k, p, l) := ⟨_, _, _, rfl⟩
    rw [hR] at hQ ⊢
    obtain ⟨Af, cf, rfl, -⟩ := Kd.Q_slice hQ
    have HR := Aside0.mk hR
    clear x0 x1 hQ hR
    replace HB := Aside0.mk (below_alloc (below_step HB.out hb3) (.cells #[.int .i64 kf, .bool pf.f0.f0, .string pf.f0.f1, .bool pf.f1.f0, .string pf.f1.f1, .bool pf.f2.f0, .string pf.f2.f1, .bool pf.f3.f0, .string pf.f3.f1, .slice Af lf.length cf] 36))
    replace K5 := Aside0.mk (blk_alloc (blk_below K5.out hb3) (.cells #[.int .i64 kf, .bool pf.f0.f0, .string pf.f0.f1, .bool pf.f1.f0, .string pf.f1.f1, .bool pf.f2.f0, .string pf.f2.f1, .bool pf.f3.f0, .string pf.f3.f1, .slice Af lf.length cf] 36))
    have K7 := Aside0.mk (blk_new w3 (.cells #[.int .i64 kf, .bool pf.f0.f0, .string pf.f0.f1, .bool pf.f1.f0, .string pf.f1.f1, .bool pf.f2.f0, .string pf.f2.f1, .bool pf.f3.f0, .string pf.f3.f1, .slice Af lf.length cf] 36))
    clear hb3
    unfold resCells
    cases hT : (T.toList == [103, 114, 111, 117, 110, 100]) with
    | true =>
      have hv := HR.out
      unfold resolveF at hv
      rw [if_pos hT] at hv
      obtain ⟨rfl, rfl, rfl⟩ : kf = 1 ∧ pf = plG ∧ lf = [] := by
        injection hv with e1 e2; injection e2 with e2 e3; exact ⟨e1.symm, e2.symm, e3.symm⟩
      clear hv HR
      simp only [List.length_nil] at K5 K7 HB
      have x0 : _ = some (Value.string T) := blk_cell K5.out 0
      go_wp2_with fail
      refine (fixed_any _ (HG.out.below HB.out)).mono ?_
      rintro e2 w2 ⟨rfl, hb2⟩
      replace HB := Aside0.mk (below_step HB.out hb2)
      replace K7 := Aside0.mk (blk_below K7.out hb2)
      clear hb2 x0
      have z0 : _ = some (Value.int .i64 1) := blk_cell K7.out 0
      have z9 : _ = some (Value.slice Af 0 cf) := blk_cell K7.out 9
      go_wp2_with fail
      go_ret
      exact ⟨rfl, HB.out⟩
    | false =>
      have x0 : _ = some (Value.string T) := blk_cell K5.out 0
      go_wp2_with fail
      refine (Lookup_any T A1 c1 t _ (Kd.C_below R1.out HB.out) (by omega)).mono ?_
      rintro e1 w4 ⟨rfl, hb1⟩
      obtain ⟨p, ok, hq⟩ : ∃ q ok, lookR T t = (q, ok) := ⟨_, _, rfl⟩
      have HQ := Aside0.mk hq
      rw [hq]
      dsimp only
      replace HB := Aside0.mk (below_alloc (below_step HB.out hb1) (.cells #[.bool p.f0.f0, .string p.f0.f1, .bool p.f1.f0, .string p.f1.f1, .bool p.f2.f0, .string p.f2.f1, .bool p.f3.f0, .string p.f3.f1] 33))
      replace K5 := Aside0.mk (blk_alloc (blk_below K5.out hb1) (.cells #[.bool p.f0.f0, .string p.f0.f1, .bool p.f1.f0, .string p.f1.f1, .bool p.f2.f0, .string p.f2.f1, .bool p.f3.f0, .string p.f3.f1] 33))
      replace K7 := Aside0.mk (blk_alloc (blk_below K7.out hb1) (.cells #[.bool p.f0.f0, .string p.f0.f1, .bool p.f1.f0, .string p.f1.f1, .bool p.f2.f0, .string p.f2.f1, .bool p.f3.f0, .string p.f3.f1] 33))
      have K8 := Aside0.mk (blk_new w4 (.cells #[.bool p.f0.f0, .string p.f0.f1, .bool p.f1.f0, .string p.f1.f1, .bool p.f2.f0, .string p.f2.f1, .bool p.f3.f0, .string p.f3.f1] 33))
      have HT := Aside0.mk hT
      clear hb1 hq x0 hT
      unfold plCells
      go_wp2_with fail
      go_loopw [10, 53] (fun v i wr => ∃ n : Nat, i = .int .i64 n ∧ n ≤ L.length ∧ v = .bool (onPl p (L.take n)) ∧ Aside0 (wr.heap[w.heap.size]? = some (.cells #[.string T, .slice A2 adj.length c2] 26 (0, 0))) ∧ Aside0 (wr.heap[w3.heap.size]? = some (.cells #[.int .i64 kf, .bool pf.f0.f0, .string pf.f0.f1, .bool pf.f1.f0, .string pf.f1.f1, .bool pf.f2.f0, .string pf.f2.f1, .bool pf.f3.f0, .string pf.f3.f1, .slice Af lf.length cf] 36 (0, 0))) ∧ Aside0 (wr.heap[w4.heap.size]? = some (.cells #[.bool p.f0.f0, .string p.f0.f1, .bool p.f1.f0, .string p.f1.f1, .bool p.f2.f0, .string p.f2.f1, .bool p.f3.f0, .string p.f3.f1] 33 (0, 0))) ∧ Aside0 (Below w.heap.size w wr)) (fun _ i _ => L.length - (RowKit.intOf i).toNat)
      case atStart => exact ⟨0, rfl, Nat.zero_le _, rfl, K5, K7, K8, HB⟩
      case round =>
        clear K5 K7 K8 HB
        obtain ⟨n, rfl, hn, rfl, K5, K7, K8, HB⟩ := hrel
        by_cases hlt : n < L.length
        · have p1 : (0 : Int) ≤ (n : Int) := by omega
          have q1 : (n : Int) < (L.length : Int) := by omega
          obtain ⟨ad, A8, c8, A9, c9, e9, x0, x1, x2, x3, x4, x5, x6, x7, x8, x9, -, -, -, -⟩ := at_T43 (Kd.C_below R0.out HB.out) (n : Int) p1 q1
          subst e9
          rw [rd43 L n hlt] at x0 x1 x2 x3 x4 x5 x6 x7 x8 x9
          have HSN := Aside0.mk (onPl_snoc p L n hlt)
          obtain ⟨x, hx⟩ : ∃ x, x = L[n] := ⟨_, rfl⟩
          rw [← hx] at x0 x1 x2 x3 x4 x5 x6 x7 x8 x9 HSN
          clear hx
          simp only [Int.toNat_natCast] at x0 x1 x2 x3 x4 x5 x6 x7 x8 x9
          replace p1 := eq_true p1
          replace q1 := eq_true q1
          have y0 : ∀ o, (wr.alloc o).cell? ⟨w4.heap.size, 0, none⟩ = some (Value.bool p.f0.f0) := fun o => blk_cell (blk_alloc K8.out o) 0
          have y1 : ∀ o, (wr.alloc o).cell? ⟨w4.heap.size, 1, none⟩ = some (Value.string p.f0.f1) := fun o => blk_cell (blk_alloc K8.out o) 1
          have y2 : ∀ o, (wr.alloc o).cell? ⟨w4.heap.size, 2, none⟩ = some (Value.bool p.f1.f0) := fun o => blk_cell (blk_alloc K8.out o) 2
          have y3 : ∀ o, (wr.alloc o).cell? ⟨w4.heap.size, 3, none⟩ = some (Value.string p.f1.f1) := fun o => blk_cell (blk_alloc K8.out o) 3
          have y4 : ∀ o, (wr.alloc o).cell? ⟨w4.heap.size, 4, none⟩ = some (Value.bool p.f2.f0) := fun o => blk_cell (blk_alloc K8.out o) 4
          have y5 : ∀ o, (wr.alloc o).cell? ⟨w4.heap.size, 5, none⟩ = some (Value.string p.f2.f1) := fun o => blk_cell (blk_alloc K8.out o) 5
          have y6 : ∀ o, (wr.alloc o).cell? ⟨w4.heap.size, 6, none⟩ = some (Value.bool p.f3.f0) := fun o => blk_cell (blk_alloc K8.out o) 6
          have y7 : ∀ o, (wr.alloc o).cell? ⟨w4.heap.size, 7, none⟩ = some (Value.string p.f3.f1) := fun o => blk_cell (blk_alloc K8.out o) 7
          have HBn := Aside0.mk (below_alloc HB.out (.cells (fcCells x (.slice A8 x.f1.length c8) (.slice A9 x.f2.length c9)) 43))
          have K5n := Aside0.mk (blk_alloc K5.out (.cells (fcCells x (.slice A8 x.f1.length c8) (.slice A9 x.f2.length c9)) 43))
          have K7n := Aside0.mk (blk_alloc K7.out (.cells (fcCells x (.slice A8 x.f1.length c8) (.slice A9 x.f2.length c9)) 43))
          have K8n := Aside0.mk (blk_alloc K8.out (.cells (fcCells x (.slice A8 x.f1.length c8) (.slice A9 x.f2.length c9)) 43))
          cases hb : onPl p (L.take n) with
          | true =>
            have HV := Aside0.mk (show onPl p (L.take (n + 1)) = true from by rw [HSN.out, hb, Bool.true_or])
            clear HSN
            go_wp2_with fail
            go_roundw
            case rel => exact ⟨n + 1, by go_num, hlt, by rw [HV.out], K5n, K7n, K8n, HBn⟩
            case measure => simp [RowKit.intOf]; omega
          | false =>
            have HV := Aside0.mk (show onPl p (L.take (n + 1)) = plEq x.f0 p from by rw [HSN.out, hb, Bool.false_or])
            clear HSN
            go_wp2_with fail
            go_roundw
            case rel => exact ⟨n + 1, by go_num, hlt, by rw [HV.out]; rfl, K5n, K7n, K8n, HBn⟩
            case measure => simp [RowKit.intOf]; omega
        · obtain rfl : n = L.length := by omega
          rw [List.take_length]
          have y0 : _ = some (Value.string T) := blk_cell K5.out 0
          have y1 : _ = some (Value.slice A2 adj.length c2) := blk_cell K5.out 1
          go_wp2_with fail
          refine (Resolve_any [] none 0 t A1 c1 T adj A2 c2 _ (HG.out.below HB.out) (Kd.C_nil _ _) (Kd.C_below R1.out HB.out) (Kd.C_below R2.out HB.out) (Nat.zero_le _) lt la (fun _ h => by cases h)).mono ?_
          rintro e5 w5 ⟨v, rfl, hQ, hb5⟩
          have hg3 : resolveF [] t T adj = (3, plZ, []) := by
            unfold resolveF
            rw [if_neg (by rw [HT.out]; exact Bool.false_ne_true)]
            split
            · rfl
            · rfl
          rw [hg3] at hQ ⊢
          obtain ⟨Ag, cg, rfl, -⟩ := Kd.Q_slice hQ
          clear hQ hg3 y0 y1
          unfold resCells
          replace HB := Aside0.mk (below_alloc (below_step HB.out hb5) (.cells #[.int .i64 3, .bool false, .string ⟨#[]⟩, .bool false, .string ⟨#[]⟩, .bool false, .string ⟨#[]⟩, .bool false, .string ⟨#[]⟩, .slice Ag 0 cg] 36))
          replace K7 := Aside0.mk (blk_alloc (blk_below K7.out hb5) (.cells #[.int .i64 3, .bool false, .string ⟨#[]⟩, .bool false, .string ⟨#[]⟩, .bool false, .string ⟨#[]⟩, .bool false, .string ⟨#[]⟩, .slice Ag 0 cg] 36))
          have K13 := Aside0.mk (blk_new w5 (.cells #[.int .i64 3, .bool false, .string ⟨#[]⟩, .bool false, .string ⟨#[]⟩, .bool false, .string ⟨#[]⟩, .bool false, .string ⟨#[]⟩, .slice Ag 0 cg] 36))
          clear hb5 K5 K8
          go_wp2_with fail
          refine (fixed_any _ (HG.out.below HB.out)).mono ?_
          rintro e6 w6 ⟨rfl, hb6⟩
          replace HB := Aside0.mk (below_step HB.out hb6)
          replace K7 := Aside0.mk (blk_below K7.out hb6)
          replace K13 := Aside0.mk (blk_below K13.out hb6)
          clear hb6
          have m0 : _ = some (Value.int .i64 3) := blk_cell K13.out 0
          have hv := HR.out
          unfold resolveF at hv
          rw [if_neg (by rw [HT.out]; exact Bool.false_ne_true), HQ.out] at hv
          dsimp only at hv
          have hsc := scan_none t adj p L 0
          cases ok with
          | false =>
            obtain ⟨rfl, rfl, rfl⟩ : kf = 3 ∧ pf = plZ ∧ lf = [] := by
              injection hv with e1 e2; injection e2 with e2 e3; exact ⟨e1.symm, e2.symm, e3.symm⟩
            clear hv HR hsc
            simp only [List.length_nil] at K7
            have z0 : _ = some (Value.int .i64 3) := blk_cell K7.out 0
            have z1 : _ = some (Value.bool false) := blk_cell K7.out 1
            have z2 : _ = some (Value.string ⟨#[]⟩) := blk_cell K7.out 2
            have z3 : _ = some (Value.bool false) := blk_cell K7.out 3
            have z4 : _ = some (Value.string ⟨#[]⟩) := blk_cell K7.out 4
            have z5 : _ = some (Value.bool false) := blk_cell K7.out 5
            have z6 : _ = some (Value.string ⟨#[]⟩) := blk_cell K7.out 6
            have z7 : _ = some (Value.bool false) := blk_cell K7.out 7
            have z8 : _ = some (Value.string ⟨#[]⟩) := blk_cell K7.out 8
            have z9 : _ = some (Value.slice Af 0 cf) := blk_cell K7.out 9
            go_wp2_with fail
            go_ret
            exact ⟨rfl, HB.out⟩
          | true =>
            rw [if_pos rfl] at hv
            cases hth : onPl p L with
            | false =>
              rw [hsc.1 hth] at hv
              obtain ⟨rfl, rfl, rfl⟩ : kf = 3 ∧ pf = plZ ∧ lf = [] := by
                injection hv with e1 e2; injection e2 with e2 e3; exact ⟨e1.symm, e2.symm, e3.symm⟩
              clear hv HR hsc
              simp only [List.length_nil] at K7
              have z0 : _ = some (Value.int .i64 3) := blk_cell K7.out 0
              have z1 : _ = some (Value.bool false) := blk_cell K7.out 1
              have z2 : _ = some (Value.string ⟨#[]⟩) := blk_cell K7.out 2
              have z3 : _ = some (Value.bool false) := blk_cell K7.out 3
              have z4 : _ = some (Value.string ⟨#[]⟩) := blk_cell K7.out 4
              have z5 : _ = some (Value.bool false) := blk_cell K7.out 5
              have z6 : _ = some (Value.string ⟨#[]⟩) := blk_cell K7.out 6
              have z7 : _ = some (Value.bool false) := blk_cell K7.out 7
              have z8 : _ = some (Value.string ⟨#[]⟩) := blk_cell K7.out 8
              have z9 : _ = some (Value.slice Af 0 cf) := blk_cell K7.out 9
              go_wp2_with fail
              go_ret
              exact ⟨rfl, HB.out⟩
            | true =>
              obtain ⟨k, hk, ho⟩ := outOf_some (p := p) (hsc.2 hth)
              rw [ho] at hv
              obtain ⟨rfl, rfl, rfl⟩ : kf = k ∧ pf = p ∧ lf = scanGo t adj p L 0 0 [] := by
                injection hv with e1 e2; injection e2 with e2 e3; exact ⟨e1.symm, e2.symm, e3.symm⟩
              clear hv HR hsc ho
              rcases hk with rfl | rfl
              · have z0 : _ = some (Value.int .i64 1) := blk_cell K7.out 0
                go_wp2_with fail
                go_ret
                exact ⟨rfl, HB.out⟩
              · have z0 : _ = some (Value.int .i64 2) := blk_cell K7.out 0
                go_wp2_with fail
                go_ret
                exact ⟨rfl, HB.out⟩
end Go.Proofs.YtkceipkedmfeiaaGreatDoor.XL
