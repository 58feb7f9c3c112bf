/- resolve.Resolve: what it answers for every reference. -/
import Derived.Test.YtkceipkedmfeiaaGreatDoorUpA
import Derived.Test.YtkceipkedmfeiaaGreatDoorRS
namespace Go.Proofs.YtkceipkedmfeiaaGreatDoor.XL
open Go Go.RowKit Go.Shelf Go.Proofs.YtkceipkedmfeiaaGreatDoorW.PrintWords Go.Proofs.YtkceipkedmfeiaaGreatDoorW.PrintLast Go.Proofs.YtkceipkedmfeiaaGreatDoorW.PrintMore Go.Proofs.YtkceipkedmfeiaaGreatDoor.X30 Go.Proofs.YtkceipkedmfeiaaGreatDoor.XU

def scanGo (t : List NP) (adj : List ByteArray) (p : PL) : List FC → Nat → Nat → List Int → List Int
  | [], _, _, ps => ps
  | x :: l, n, best, ps =>
    if plEq x.f0 p = true then
      if best < score t adj x then scanGo t adj p l (n + 1) (score t adj x) [(n : Int)]
      else if best = score t adj x then scanGo t adj p l (n + 1) best (ps ++ [(n : Int)])
      else scanGo t adj p l (n + 1) best ps
    else scanGo t adj p l (n + 1) best ps
def plG : PL := ⟨⟨false, ⟨#[]⟩⟩, ⟨false, ⟨#[]⟩⟩, ⟨false, ⟨#[1]⟩⟩, ⟨false, ⟨#[]⟩⟩⟩
def groundS : ByteArray := ⟨#[103, 114, 111, 117, 110, 100]⟩
def outOf (p : PL) : List Int → Int × PL × List Int
  | [] => (3, plZ, [])
  | [i] => (1, p, [i])
  | ps => (2, p, ps)
def resolveF (L : List FC) (t : List NP) (T : ByteArray) (adj : List ByteArray) : Int × PL × List Int :=
  if (T.toList == [103, 114, 111, 117, 110, 100]) = true then (1, plG, [])
  else if (lookR T t).2 = true then outOf (lookR T t).1 (scanGo t adj (lookR T t).1 L 0 0 []) else (3, plZ, [])
def resCells (k : Int) (p : PL) (v : Value) : Array Value := #[.int .i64 k, .bool p.f0.f0, .string p.f0.f1, .bool p.f1.f0, .string p.f1.f1, .bool p.f2.f0, .string p.f2.f1, .bool p.f3.f0, .string p.f3.f1, v]
theorem ba_inj {a b : ByteArray} (h : a.toList = b.toList) : a = b := by
  rw [ByteArray.toList_eq, ByteArray.toList_eq] at h
  exact ByteArray.ext (Array.toList_inj.1 h)
theorem rd43 (L : List FC) (n : Nat) (h : n < L.length) : rd_T43 L (n : Int) = L[n] := by
  unfold rd_T43
  rw [Int.toNat_natCast, List.getD_eq_getElem?_getD, List.getElem?_eq_getElem h]
  rfl
theorem info3i : (Tryz.prog.info? 3).map (fun i => (i.zero, i.size, i.bytes)) = some (some (.int .i64 0), 1, 8) := by kernel_rfl
theorem blk_new3' (w : World) (o1 o2 o3 : Obj) : (((w.alloc o1).alloc o2).alloc o3).heap[w.heap.size]? = some o1 := blk_alloc (blk_alloc (blk_new w o1) o2) o3
theorem blk_new3'' (w : World) (o1 o2 o3 : Obj) : (((w.alloc o1).alloc o2).alloc o3).heap[w.heap.size + 1]? = some o2 := blk_alloc (blk_new2 w o1 o2) o3

theorem q_set10 {W : World} {g base : Nat} {cs : Array Value} {v : Value} {xs : List Int} (h : Kd.Q (Kd.int .i64) 3 W base (fun _ => True) v xs) (hg : W.heap[g]? = some (.cells cs 36 (0, 0))) (u0 u1 u2 u3 u4 u5 u6 u7 u8 u9 : Value) :
    Kd.Q (Kd.int .i64) 3 ((((((((((W.setCell ⟨g, 0, none⟩ u0).setCell ⟨g, 1, none⟩ u1).setCell ⟨g, 2, none⟩ u2).setCell ⟨g, 3, none⟩ u3).setCell ⟨g, 4, none⟩ u4).setCell ⟨g, 5, none⟩ u5).setCell ⟨g, 6, none⟩ u6).setCell ⟨g, 7, none⟩ u7).setCell ⟨g, 8, none⟩ u8).setCell ⟨g, 9, none⟩ u9) base (fun _ => True) v xs := Kd.Q_mono (Kd.Q_far (p := ⟨g, 9, none⟩) (Kd.Q_far (p := ⟨g, 8, none⟩) (Kd.Q_far (p := ⟨g, 7, none⟩) (Kd.Q_far (p := ⟨g, 6, none⟩) (Kd.Q_far (p := ⟨g, 5, none⟩) (Kd.Q_far (p := ⟨g, 4, none⟩) (Kd.Q_far (p := ⟨g, 3, none⟩) (Kd.Q_far (p := ⟨g, 2, none⟩) (Kd.Q_far (p := ⟨g, 1, none⟩) (Kd.Q_far (p := ⟨g, 0, none⟩) (Kd.Q_types h hg (by decide)) (fun k hk => hk.2) _) (fun k hk => hk.2) _) (fun k hk => hk.2) _) (fun k hk => hk.2) _) (fun k hk => hk.2) _) (fun k hk => hk.2) _) (fun k hk => hk.2) _) (fun k hk => hk.2) _) (fun k hk => hk.2) _) (fun k hk => hk.2) _) (fun _ _ => trivial)
attribute [local go_sem high] eqA33
set_option maxHeartbeats 12800000 in
set_option maxRecDepth 100000 in
theorem Resolve_any (L : List FC) (A0 : Option Addr) (c0 : Nat) (t : List NP) (A1 : Option Addr) (c1 : Nat) (T : ByteArray) (adj : List ByteArray) (A2 : Option Addr) (c2 : Nat) (w : World) (hG : EnvL w)
    (h0 : Kd.C k43 w A0 L.length L) (h1 : Kd.C k50 w A1 t.length t) (h2 : Kd.C Kd.string w A2 adj.length adj) (lL : L.length ≤ 17592186044416) (lt : t.length ≤ 9223372036854775807) (la : adj.length ≤ 9223372036854775807) (lx : ∀ x ∈ L, x.f2.length ≤ 9223372036854775807) :
    Calls Tryz.prog 12 #[.slice A0 L.length c0, .slice A1 t.length c1, .agg #[.string T, .slice A2 adj.length c2]] w fun e w' => ∃ v : Value, e = .returned (.agg (resCells (resolveF L t T adj).1 (resolveF L t T adj).2.1 v)) ∧ Kd.Q (Kd.int .i64) 3 w' w.heap.size (fun _ => True) v (resolveF L t T adj).2.2 ∧ Below w.heap.size w w' := by
  cases hT : (T.toList == [103, 114, 111, 117, 110, 100]) with
  | true =>
    have hv : resolveF L t T adj = (1, plG, []) := by unfold resolveF; rw [if_pos hT]
    obtain rfl : T = groundS := ba_inj ((eq_of_beq hT).trans (ByteArray.toList_eq groundS).symm)
    rw [hv]
    refine (Resolve_ground A0 L.length c0 A1 t.length c1 A2 adj.length c2 w hG).mono ?_
    rintro e w' ⟨rfl, hb⟩
    exact ⟨_, rfl, Kd.Q_nil _ _ _ _ _, hb⟩
  | false =>
    have HF := Aside0.mk (show resolveF L t T adj = (if (lookR T t).2 = true then outOf (lookR T t).1 (scanGo t adj (lookR T t).1 L 0 0 []) else (3, plZ, [])) from by unfold resolveF; rw [if_neg (by rw [hT]; exact Bool.false_ne_true)])
    obtain ⟨RF, hRF⟩ : ∃ RF, RF = resolveF L t T adj := ⟨_, rfl⟩
    rw [← hRF] at HF ⊢
    clear hRF
    have R0 := Aside0.mk h0
    have R1 := Aside0.mk h1
    have R2 := Aside0.mk h2
    have LX := Aside0.mk lx
    clear h0 h1 h2 hG lx
    have hmf : ∀ (fn : Fn) (first cap : Array Value) (w : World), (Instr.makeFunc fn first cap).run Tryz.prog w = .ok (.func fn first cap) w := fun _ _ _ _ => rfl
    have HB0 := Aside0.mk (below_alloc (below_alloc (below_alloc (Below.refl w.heap.size w) (.cells #[.slice A1 t.length c1] 23)) (.cells #[.string T, .slice A2 adj.length c2] 26)) (.cells #[.int .i64 0, .bool false, .string ⟨#[]⟩, .bool false, .string ⟨#[]⟩, .bool false, .string ⟨#[]⟩, .bool false, .string ⟨#[]⟩, .slice none 0 0] 36))
    have K4 := Aside0.mk (blk_new3' w (.cells #[.slice A1 t.length c1] 23) (.cells #[.string T, .slice A2 adj.length c2] 26) (.cells #[.int .i64 0, .bool false, .string ⟨#[]⟩, .bool false, .string ⟨#[]⟩, .bool false, .string ⟨#[]⟩, .bool false, .string ⟨#[]⟩, .slice none 0 0] 36))
    have K5 := Aside0.mk (blk_new3'' w (.cells #[.slice A1 t.length c1] 23) (.cells #[.string T, .slice A2 adj.length c2] 26) (.cells #[.int .i64 0, .bool false, .string ⟨#[]⟩, .bool false, .string ⟨#[]⟩, .bool false, .string ⟨#[]⟩, .bool false, .string ⟨#[]⟩, .slice none 0 0] 36))
    have K6 := Aside0.mk (blk_new3 w (.cells #[.slice A1 t.length c1] 23) (.cells #[.string T, .slice A2 adj.length c2] 26) (.cells #[.int .i64 0, .bool false, .string ⟨#[]⟩, .bool false, .string ⟨#[]⟩, .bool false, .string ⟨#[]⟩, .bool false, .string ⟨#[]⟩, .slice none 0 0] 36))
    go_enter Tryz.func12, Tryz.ntmps12
    go_wp2_with fail
    refine (Lookup_any T A1 c1 t _ (Kd.C_below R1.out HB0.out) (by omega)).mono ?_
    rintro e1 w1 ⟨rfl, hb1⟩
    obtain ⟨p, ok, hq⟩ : ∃ q ok, lookR T t = (q, ok) := ⟨_, _, rfl⟩
    rw [hq] at HF ⊢
    dsimp only at HF ⊢
    clear hq
    replace HB := Aside0.mk (below_alloc (below_step HB0.out hb1) (.cells (plCells p) 33))
    replace K4 := Aside0.mk (blk_alloc (blk_below K4.out hb1) (.cells (plCells p) 33))
    replace K5 := Aside0.mk (blk_alloc (blk_below K5.out hb1) (.cells (plCells p) 33))
    replace K6 := Aside0.mk (blk_alloc (blk_below K6.out hb1) (.cells (plCells p) 33))
    have K7 := Aside0.mk (blk_new w1 (.cells (plCells p) 33))
    clear hb1 HB0
    unfold plCells at HB K4 K5 K6 K7 ⊢
    cases ok with
    | false =>
      have HV := Aside0.mk (show RF = (3, plZ, []) from HF.out)
      clear HF
      have r0 := blk_frozen K6.out 0
      have s0 := blk_cell K6.out 0
      have r1 := blk_frozen K6.out 1
      have s1 := blk_cell K6.out 1
      have r2 := blk_frozen K6.out 2
      have s2 := blk_cell K6.out 2
      have r3 := blk_frozen K6.out 3
      have s3 := blk_cell K6.out 3
      have r4 := blk_frozen K6.out 4
      have s4 := blk_cell K6.out 4
      have r5 := blk_frozen K6.out 5
      have s5 := blk_cell K6.out 5
      have r6 := blk_frozen K6.out 6
      have s6 := blk_cell K6.out 6
      have r7 := blk_frozen K6.out 7
      have s7 := blk_cell K6.out 7
      have r8 := blk_frozen K6.out 8
      have s8 := blk_cell K6.out 8
      have r9 := blk_frozen K6.out 9
      have s9 := blk_cell K6.out 9
      go_wp2_with fail
      refine bodyPost_ret (results_cell_row rfl _ _ (w.heap.size + 2) 36 #[.int .i64 3, .bool false, .string ⟨#[]⟩, .bool false, .string ⟨#[]⟩, .bool false, .string ⟨#[]⟩, .bool false, .string ⟨#[]⟩, .slice none 0 0] (0, 0) _ rfl (blk_put (blk_put (blk_put (blk_put (blk_put (blk_put (blk_put (blk_put (blk_put (blk_put K6.out 0 _ rfl) 1 _ rfl) 2 _ rfl) 3 _ rfl) 4 _ rfl) 5 _ rfl) 6 _ rfl) 7 _ rfl) 8 _ rfl) 9 _ rfl) Tryz.underlying36 rfl (by kernel_rfl)) rfl ?_
      exact ⟨_, by rw [HV.out]; rfl, by rw [HV.out]; exact Kd.Q_nil _ _ _ _ _, (below_set (below_set (below_set (below_set (below_set (below_set (below_set (below_set (below_set (below_set HB.out (Nat.le_add_right _ 2)) (Nat.le_add_right _ 2)) (Nat.le_add_right _ 2)) (Nat.le_add_right _ 2)) (Nat.le_add_right _ 2)) (Nat.le_add_right _ 2)) (Nat.le_add_right _ 2)) (Nat.le_add_right _ 2)) (Nat.le_add_right _ 2)) (Nat.le_add_right _ 2))⟩
    | true =>
      have HS := Aside0.mk (show RF = outOf p (scanGo t adj p L 0 0 []) from HF.out)
      clear HF
      go_wp2_with fail
      go_loopw [10, 11, 33] (fun b v i wr => ∃ (n best : Nat) (ps : List Int), b = .int .i64 best ∧ i = .int .i64 n ∧ n ≤ L.length ∧ ps.length ≤ n ∧ Aside0 (scanGo t adj p (L.drop n) n best ps = scanGo t adj p L 0 0 []) ∧ Aside0 (Kd.R (Kd.int .i64) 3 wr w.heap.size (fun _ => True) v ps) ∧ Aside0 (wr.heap[w.heap.size]? = some (.cells #[.slice A1 t.length c1] 23 (0, 0))) ∧ Aside0 (wr.heap[w.heap.size + 1]? = some (.cells #[.string T, .slice A2 adj.length c2] 26 (0, 0))) ∧ Aside0 (wr.heap[w.heap.size + 2]? = some (.cells #[.int .i64 0, .bool false, .string ⟨#[]⟩, .bool false, .string ⟨#[]⟩, .bool false, .string ⟨#[]⟩, .bool false, .string ⟨#[]⟩, .slice none 0 0] 36 (0, 0))) ∧ Aside0 (wr.heap[w1.heap.size]? = some (.cells #[.bool p.f0.f0, .string p.f0.f1, .bool p.f1.f0, .string p.f1.f1, .bool p.f2.f0, .string p.f2.f1, .bool p.f3.f0, .string p.f3.f1] 33 (0, 0))) ∧ Aside0 (Below w.heap.size w wr)) (fun _ _ i _ => L.length - (RowKit.intOf i).toNat)
      case atStart => exact ⟨0, 0, [], rfl, rfl, Nat.zero_le _, Nat.le_refl _, ⟨rfl⟩, ⟨Kd.R_nil _ _ _ _ _⟩, K4, K5, K6, K7, HB⟩
      case round =>
        clear K4 K5 K6 K7 HB
        obtain ⟨n, best, ps, rfl, rfl, hn, hps, HSC, HR, K4, K5, K6, K7, HB⟩ := hrel
        by_cases hlt : n < L.length
        · have p1 : (0 : Int) ≤ (n : Int) := by omega
          have q1 : (n : Int) < (L.length : Int) := by omega
          obtain ⟨ad, A8, c8, A9, c9, e9, x0, x1, x2, x3, x4, x5, x6, x7, x8, x9, l8, g8, l9, g9⟩ := at_T43 (Kd.C_below R0.out HB.out) (n : Int) p1 q1
          subst e9
          have hlx := LX.out L[n] (List.getElem_mem hlt)
          rw [rd43 L n hlt] at x0 x1 x2 x3 x4 x5 x6 x7 x8 x9 l8 g8 l9 g9
          have HSC2 := HSC.out
          rw [List.drop_eq_getElem_cons hlt, scanGo] at HSC2
          obtain ⟨x, hx⟩ : ∃ x, x = L[n] := ⟨_, rfl⟩
          rw [← hx] at x0 x1 x2 x3 x4 x5 x6 x7 x8 x9 l8 g8 l9 g9 HSC2 hlx
          clear hx HSC
          have G9 := Aside0.mk g9
          have HSC := Aside0.mk HSC2
          simp only [Int.toNat_natCast] at x0 x1 x2 x3 x4 x5 x6 x7 x8 x9
          replace p1 := eq_true p1
          replace q1 := eq_true q1
          have y0 : ∀ o, (wr.alloc o).cell? ⟨w1.heap.size, 0, none⟩ = some (.bool p.f0.f0) := fun o => blk_cell (blk_alloc K7.out o) 0
          have y1 : ∀ o, (wr.alloc o).cell? ⟨w1.heap.size, 1, none⟩ = some (.string p.f0.f1) := fun o => blk_cell (blk_alloc K7.out o) 1
          have y2 : ∀ o, (wr.alloc o).cell? ⟨w1.heap.size, 2, none⟩ = some (.bool p.f1.f0) := fun o => blk_cell (blk_alloc K7.out o) 2
          have y3 : ∀ o, (wr.alloc o).cell? ⟨w1.heap.size, 3, none⟩ = some (.string p.f1.f1) := fun o => blk_cell (blk_alloc K7.out o) 3
          have y4 : ∀ o, (wr.alloc o).cell? ⟨w1.heap.size, 4, none⟩ = some (.bool p.f2.f0) := fun o => blk_cell (blk_alloc K7.out o) 4
          have y5 : ∀ o, (wr.alloc o).cell? ⟨w1.heap.size, 5, none⟩ = some (.string p.f2.f1) := fun o => blk_cell (blk_alloc K7.out o) 5
          have y6 : ∀ o, (wr.alloc o).cell? ⟨w1.heap.size, 6, none⟩ = some (.bool p.f3.f0) := fun o => blk_cell (blk_alloc K7.out o) 6
          have y7 : ∀ o, (wr.alloc o).cell? ⟨w1.heap.size, 7, none⟩ = some (.string p.f3.f1) := fun o => blk_cell (blk_alloc K7.out o) 7
          clear g8 g9 HSC2 l8
          cases hpe : plEq x.f0 p with
          | false =>
            have HSN := Aside0.mk (show scanGo t adj p (L.drop (n + 1)) (n + 1) best ps = scanGo t adj p L 0 0 [] from by have := HSC.out; rwa [if_neg (by rw [hpe]; exact Bool.false_ne_true)] at this)
            have HBn := Aside0.mk (below_alloc HB.out (.cells (fcCells x (.slice A8 x.f1.length c8) (.slice A9 x.f2.length c9)) 43))
            unfold plEq at hpe
            clear HSC
            go_wp2_with fail
            go_roundw
            case rel => exact ⟨n + 1, best, ps, rfl, by go_num, hlt, by omega, HSN, ⟨Kd.R_alloc HR.out _⟩, ⟨blk_alloc K4.out _⟩, ⟨blk_alloc K5.out _⟩, ⟨blk_alloc K6.out _⟩, ⟨blk_alloc K7.out _⟩, HBn⟩
            case measure => simp [RowKit.intOf]; omega
          | true =>
            have HBn := Aside0.mk (below_alloc HB.out (.cells (fcCells x (.slice A8 x.f1.length c8) (.slice A9 x.f2.length c9)) 43))
            have K4n := Aside0.mk (blk_alloc K4.out (.cells (fcCells x (.slice A8 x.f1.length c8) (.slice A9 x.f2.length c9)) 43))
            have K5n := Aside0.mk (blk_alloc K5.out (.cells (fcCells x (.slice A8 x.f1.length c8) (.slice A9 x.f2.length c9)) 43))
            have K6n := Aside0.mk (blk_alloc K6.out (.cells (fcCells x (.slice A8 x.f1.length c8) (.slice A9 x.f2.length c9)) 43))
            have K7n := Aside0.mk (blk_alloc K7.out (.cells (fcCells x (.slice A8 x.f1.length c8) (.slice A9 x.f2.length c9)) 43))
            have HRn := Aside0.mk (Kd.R_alloc HR.out (.cells (fcCells x (.slice A8 x.f1.length c8) (.slice A9 x.f2.length c9)) 43))
            have HSN := Aside0.mk (show (if best < score t adj x then scanGo t adj p (L.drop (n + 1)) (n + 1) (score t adj x) [(n : Int)] else if best = score t adj x then scanGo t adj p (L.drop (n + 1)) (n + 1) best (ps ++ [(n : Int)]) else scanGo t adj p (L.drop (n + 1)) (n + 1) best ps) = scanGo t adj p L 0 0 [] from by have := HSC.out; rwa [if_pos hpe] at this)
            have HCM := Aside0.mk (Common_any x (.slice A8 x.f1.length c8) A9 c9 adj A2 c2 t A1 c1 (w.heap.size + 1) w.heap.size _ (blk_cell K5n.out 1) (blk_cell K4n.out 0) (Kd.C_below R2.out HBn.out) (Kd.C_below R1.out HBn.out) (Kd.C_alloc G9.out _) l9 (by omega) (by omega) (by omega))
            unfold plEq at hpe
            clear HSC
            clear hlx
            go_wp2_with fail
            refine HCM.out.mono ?_
            rintro e2 w2 ⟨rfl, hb2⟩
            have HB2 := Aside0.mk (below_step HBn.out hb2)
            replace K4n := Aside0.mk (blk_below K4n.out hb2)
            replace K5n := Aside0.mk (blk_below K5n.out hb2)
            replace K6n := Aside0.mk (blk_below K6n.out hb2)
            replace K7n := Aside0.mk (blk_below K7n.out hb2)
            replace HRn := Aside0.mk (Kd.R_below HRn.out hb2)
            clear HCM hb2 HBn K4 K5 K6 K7 HB HR x0 x1 x2 x3 x4 x5 x6 x7 x8 x9 y0 y1 y2 y3 y4 y5 y6 y7 G9 hpe l9
            obtain ⟨s, hs⟩ : ∃ s, s = score t adj x := ⟨_, rfl⟩
            rw [← hs] at HSN ⊢
            clear hs
            by_cases hgt : best < s
            · have HV := Aside0.mk (show scanGo t adj p (L.drop (n + 1)) (n + 1) s ([] ++ [(n : Int)]) = scanGo t adj p L 0 0 [] from by have := HSN.out; rwa [if_pos hgt] at this)
              have d1 : (best < s) = True := eq_true hgt
              have d2 : (best ≤ s) = True := eq_true (by omega)
              have HRz := Aside0.mk (Kd.R_nil (Kd.int .i64) 3 w2 w.heap.size (fun _ => True))
              clear HSN hgt
              go_wp2_with (first | ((with_reducible refine gate_dst (N := 54) rfl ?_); refine Kd.R_append (Kd.int .i64) (w0 := w) (W := w2) w.heap.size rfl (.tmp 51) (.tmp 53) 34 3 (.int .i64 0) 8 rfl Tryz.underlying34 info3i rfl (by decide) (by decide) _ [] (n : Int) [.int .i64 (n : Int)] (fun _ => True) (fun _ => False) rfl rfl rfl (fun _ h_ => h_.elim) (fun _ _ => trivial) HRz.out HB2.out (below_size HB2.out) (by simp) ?_; intro v1 w3 hR1 hb1 hg1 hat1; replace K4 := Aside0.mk (blk_grown K4n.out hg1 (Kd.R_ne HRz.out K4n.out (by decide))); replace K5 := Aside0.mk (blk_grown K5n.out hg1 (Kd.R_ne HRz.out K5n.out (by decide))); replace K6 := Aside0.mk (blk_grown K6n.out hg1 (Kd.R_ne HRz.out K6n.out (by decide))); replace K7 := Aside0.mk (blk_grown K7n.out hg1 (Kd.R_ne HRz.out K7n.out (by decide))); replace HBn := Aside0.mk hb1; have HRm := Aside0.mk hR1; clear hR1 hb1 hg1 hat1))
              go_roundw
              case rel => exact ⟨n + 1, s, [] ++ [(n : Int)], rfl, by go_num, hlt, by simp, HV, HRm, K4, K5, K6, K7, HBn⟩
              case measure => simp [RowKit.intOf]; omega
            · have d1 : (best < s) = False := eq_false hgt
              by_cases heq : best = s
              · have HV := Aside0.mk (show scanGo t adj p (L.drop (n + 1)) (n + 1) s (ps ++ [(n : Int)]) = scanGo t adj p L 0 0 [] from by have := HSN.out; rwa [if_neg hgt, if_pos heq, heq] at this)
                have d2 : (best ≤ s) = True := eq_true (by omega)
                clear HSN hgt heq
                go_wp2_with (first | ((with_reducible refine gate_dst (N := 54) rfl ?_); refine Kd.R_append (Kd.int .i64) (w0 := w) (W := w2) w.heap.size rfl (.tmp 51) (.tmp 53) 34 3 (.int .i64 0) 8 rfl Tryz.underlying34 info3i rfl (by decide) (by decide) _ ps (n : Int) [.int .i64 (n : Int)] (fun _ => True) (fun _ => False) rfl rfl rfl (fun _ h_ => h_.elim) (fun _ _ => trivial) HRn.out HB2.out (below_size HB2.out) (by omega) ?_; intro v1 w3 hR1 hb1 hg1 hat1; replace K4 := Aside0.mk (blk_grown K4n.out hg1 (Kd.R_ne HRn.out K4n.out (by decide))); replace K5 := Aside0.mk (blk_grown K5n.out hg1 (Kd.R_ne HRn.out K5n.out (by decide))); replace K6 := Aside0.mk (blk_grown K6n.out hg1 (Kd.R_ne HRn.out K6n.out (by decide))); replace K7 := Aside0.mk (blk_grown K7n.out hg1 (Kd.R_ne HRn.out K7n.out (by decide))); replace HBn := Aside0.mk hb1; have HRm := Aside0.mk hR1; clear hR1 hb1 hg1 hat1))
                go_roundw
                case rel => exact ⟨n + 1, s, ps ++ [(n : Int)], rfl, by go_num, hlt, by simp; omega, HV, HRm, K4, K5, K6, K7, HBn⟩
                case measure => simp [RowKit.intOf]; omega
              · have HV := Aside0.mk (show scanGo t adj p (L.drop (n + 1)) (n + 1) best ps = scanGo t adj p L 0 0 [] from by have := HSN.out; rwa [if_neg hgt, if_neg heq] at this)
                have d2 : (best ≤ s) = False := eq_false (by omega)
                clear HSN hgt heq
                go_wp2_with fail
                go_roundw
                case rel => exact ⟨n + 1, best, ps, rfl, by go_num, hlt, by omega, HV, HRn, K4n, K5n, K6n, K7n, HB2⟩
                case measure => simp [RowKit.intOf]; omega
        · have hsc := HSC.out
          rw [List.drop_eq_nil_of_le (by omega), scanGo] at hsc
          have HZ := Aside0.mk (show RF = outOf p ps from by rw [HS.out, ← hsc])
          clear hsc HSC HS
          have r0 := blk_frozen K6.out 0
          have s0 := blk_cell K6.out 0
          have r1 := blk_frozen K6.out 1
          have s1 := blk_cell K6.out 1
          have r2 := blk_frozen K6.out 2
          have s2 := blk_cell K6.out 2
          have r3 := blk_frozen K6.out 3
          have s3 := blk_cell K6.out 3
          have r4 := blk_frozen K6.out 4
          have s4 := blk_cell K6.out 4
          have r5 := blk_frozen K6.out 5
          have s5 := blk_cell K6.out 5
          have r6 := blk_frozen K6.out 6
          have s6 := blk_cell K6.out 6
          have r7 := blk_frozen K6.out 7
          have s7 := blk_cell K6.out 7
          have r8 := blk_frozen K6.out 8
          have s8 := blk_cell K6.out 8
          have r9 := blk_frozen K6.out 9
          have s9 := blk_cell K6.out 9
          have y0 : _ = some (Value.bool p.f0.f0) := blk_cell K7.out 0
          have y1 : _ = some (Value.string p.f0.f1) := blk_cell K7.out 1
          have y2 : _ = some (Value.bool p.f1.f0) := blk_cell K7.out 2
          have y3 : _ = some (Value.string p.f1.f1) := blk_cell K7.out 3
          have y4 : _ = some (Value.bool p.f2.f0) := blk_cell K7.out 4
          have y5 : _ = some (Value.string p.f2.f1) := blk_cell K7.out 5
          have y6 : _ = some (Value.bool p.f3.f0) := blk_cell K7.out 6
          have y7 : _ = some (Value.string p.f3.f1) := blk_cell K7.out 7
          obtain ⟨A11, c11, rfl⟩ := Kd.R_slice HR.out
          rcases ps with _ | ⟨i, _ | ⟨j, r⟩⟩
          · clear HR hps
            have HV := Aside0.mk (show RF = (3, plZ, []) from HZ.out)
            clear HZ
            go_wp2_with fail
            refine bodyPost_ret (results_cell_row rfl _ _ (w.heap.size + 2) 36 #[.int .i64 3, .bool false, .string ⟨#[]⟩, .bool false, .string ⟨#[]⟩, .bool false, .string ⟨#[]⟩, .bool false, .string ⟨#[]⟩, .slice none 0 0] (0, 0) _ rfl (blk_put (blk_put (blk_put (blk_put (blk_put (blk_put (blk_put (blk_put (blk_put (blk_put K6.out 0 _ rfl) 1 _ rfl) 2 _ rfl) 3 _ rfl) 4 _ rfl) 5 _ rfl) 6 _ rfl) 7 _ rfl) 8 _ rfl) 9 _ rfl) Tryz.underlying36 rfl (by kernel_rfl)) rfl ?_
            exact ⟨_, by rw [HV.out]; rfl, by rw [HV.out]; exact Kd.Q_nil _ _ _ _ _, (below_set (below_set (below_set (below_set (below_set (below_set (below_set (below_set (below_set (below_set HB.out (Nat.le_add_right _ 2)) (Nat.le_add_right _ 2)) (Nat.le_add_right _ 2)) (Nat.le_add_right _ 2)) (Nat.le_add_right _ 2)) (Nat.le_add_right _ 2)) (Nat.le_add_right _ 2)) (Nat.le_add_right _ 2)) (Nat.le_add_right _ 2)) (Nat.le_add_right _ 2))⟩
          · clear hps
            have HV := Aside0.mk (show RF = (1, p, [i]) from HZ.out)
            clear HZ
            go_wp2_with fail
            refine bodyPost_ret (results_cell_row rfl _ _ (w.heap.size + 2) 36 #[.int .i64 1, .bool p.f0.f0, .string p.f0.f1, .bool p.f1.f0, .string p.f1.f1, .bool p.f2.f0, .string p.f2.f1, .bool p.f3.f0, .string p.f3.f1, .slice A11 1 c11] (0, 0) _ rfl (blk_put (blk_put (blk_put (blk_put (blk_put (blk_put (blk_put (blk_put (blk_put (blk_put K6.out 0 _ rfl) 1 _ rfl) 2 _ rfl) 3 _ rfl) 4 _ rfl) 5 _ rfl) 6 _ rfl) 7 _ rfl) 8 _ rfl) 9 _ rfl) Tryz.underlying36 rfl (by kernel_rfl)) rfl ?_
            exact ⟨_, by rw [HV.out]; rfl, by rw [HV.out]; exact q_set10 (Kd.Q_of_R HR.out) K6.out _ _ _ _ _ _ _ _ _ _, (below_set (below_set (below_set (below_set (below_set (below_set (below_set (below_set (below_set (below_set HB.out (Nat.le_add_right _ 2)) (Nat.le_add_right _ 2)) (Nat.le_add_right _ 2)) (Nat.le_add_right _ 2)) (Nat.le_add_right _ 2)) (Nat.le_add_right _ 2)) (Nat.le_add_right _ 2)) (Nat.le_add_right _ 2)) (Nat.le_add_right _ 2)) (Nat.le_add_right _ 2))⟩
          · clear hps
            have HV := Aside0.mk (show RF = (2, p, i :: j :: r) from HZ.out)
            clear HZ
            obtain ⟨m, hm⟩ : ∃ m, m = (i :: j :: r).length := ⟨_, rfl⟩
            have hm2 : 2 ≤ m := by rw [hm]; simp
            rw [← hm] at HR
            obtain ⟨z, hz⟩ : ∃ z : Int, z = m := ⟨_, rfl⟩
            have z0 : ((m : Int) == 0) = false := beq_eq_false_iff_ne.2 (by omega)
            have z1 : ((m : Int) == 1) = false := beq_eq_false_iff_ne.2 (by omega)
            have z2 : (m = 0) = False := eq_false (by omega)
            have z3 : (m = 1) = False := eq_false (by omega)
            rw [← hm]
            clear hm
            go_wp2_with fail
            refine bodyPost_ret (results_cell_row rfl _ _ (w.heap.size + 2) 36 #[.int .i64 2, .bool p.f0.f0, .string p.f0.f1, .bool p.f1.f0, .string p.f1.f1, .bool p.f2.f0, .string p.f2.f1, .bool p.f3.f0, .string p.f3.f1, .slice A11 m c11] (0, 0) _ rfl (blk_put (blk_put (blk_put (blk_put (blk_put (blk_put (blk_put (blk_put (blk_put (blk_put K6.out 0 _ rfl) 1 _ rfl) 2 _ rfl) 3 _ rfl) 4 _ rfl) 5 _ rfl) 6 _ rfl) 7 _ rfl) 8 _ rfl) 9 _ rfl) Tryz.underlying36 rfl (by kernel_rfl)) rfl ?_
            exact ⟨_, by rw [HV.out]; rfl, by rw [HV.out]; exact q_set10 (Kd.Q_of_R HR.out) K6.out _ _ _ _ _ _ _ _ _ _, (below_set (below_set (below_set (below_set (below_set (below_set (below_set (below_set (below_set (below_set HB.out (Nat.le_add_right _ 2)) (Nat.le_add_right _ 2)) (Nat.le_add_right _ 2)) (Nat.le_add_right _ 2)) (Nat.le_add_right _ 2)) (Nat.le_add_right _ 2)) (Nat.le_add_right _ 2)) (Nat.le_add_right _ 2)) (Nat.le_add_right _ 2)) (Nat.le_add_right _ 2))⟩
end Go.Proofs.YtkceipkedmfeiaaGreatDoor.XL
