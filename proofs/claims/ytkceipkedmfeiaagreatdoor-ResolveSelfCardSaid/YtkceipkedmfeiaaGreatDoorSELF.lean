/- ResolveSelf, walked: it answers true. -/
import Derived.Test.YtkceipkedmfeiaaGreatDoorSELF0
import Derived.Deep.QuietTactic
import Derived.BigQuiet
namespace Go.Proofs.YtkceipkedmfeiaaGreatDoor.XL
open Go Go.RowKit Go.Shelf Go.Proofs.YtkceipkedmfeiaaGreatDoorW.PrintWords Go.Proofs.YtkceipkedmfeiaaGreatDoorW.PrintLast Go.Proofs.YtkceipkedmfeiaaGreatDoorW.PrintMore Go.Proofs.YtkceipkedmfeiaaGreatDoor.X30 Go.Proofs.YtkceipkedmfeiaaGreatDoor.XU

theorem plEq_comm (p q : PL) : plEq p q = plEq q p := by
  rw [Bool.eq_iff_iff, plEq_iff, plEq_iff]
  exact eq_comm
theorem hasPl_snoc (l : List PL) (p : PL) (n : Nat) (h : n < l.length) : hasPl (l.take (n + 1)) p = (hasPl (l.take n) p || plEq l[n] p) := by
  unfold hasPl
  rw [List.take_succ_eq_append_getElem h, List.any_append]
  simp only [List.any_cons, List.any_nil, Bool.or_false]
  rw [plEq_comm]
theorem all_snoc {α : Type} (f : α → Bool) (l : List α) (n : Nat) (h : n < l.length) : (l.take (n + 1)).all f = ((l.take n).all f && f l[n]) := by
  rw [List.take_succ_eq_append_getElem h, List.all_append]
  simp only [List.all_cons, List.all_nil, Bool.and_true]
theorem memI_snoc (k : Int) (l : List Int) (n : Nat) (h : n < l.length) : decide (k ∈ l.take (n + 1)) = (decide (k ∈ l.take n) || l[n] == k) := by
  rw [List.take_succ_eq_append_getElem h, Bool.eq_iff_iff]
  simp only [decide_eq_true_eq, List.mem_append, List.mem_singleton, Bool.or_eq_true, beq_iff_eq]
  exact or_congr Iff.rfl eq_comm
/-- The cells of two planes. -/
def twoPl (P : PL) (a b : Addr) (w : World) : Prop :=
  (w.cell? a = some (.bool P.f0.f0) ∧ w.cell? ⟨a.block, a.off + 1, none⟩ = some (.string P.f0.f1) ∧ w.cell? ⟨a.block, a.off + 2, none⟩ = some (.bool P.f1.f0) ∧ w.cell? ⟨a.block, a.off + 3, none⟩ = some (.string P.f1.f1) ∧ w.cell? ⟨a.block, a.off + 4, none⟩ = some (.bool P.f2.f0) ∧ w.cell? ⟨a.block, a.off + 5, none⟩ = some (.string P.f2.f1) ∧ w.cell? ⟨a.block, a.off + 6, none⟩ = some (.bool P.f3.f0) ∧ w.cell? ⟨a.block, a.off + 7, none⟩ = some (.string P.f3.f1)) ∧
  (w.cell? b = some (.bool P.f0.f0) ∧ w.cell? ⟨b.block, b.off + 1, none⟩ = some (.string P.f0.f1) ∧ w.cell? ⟨b.block, b.off + 2, none⟩ = some (.bool P.f1.f0) ∧ w.cell? ⟨b.block, b.off + 3, none⟩ = some (.string P.f1.f1) ∧ w.cell? ⟨b.block, b.off + 4, none⟩ = some (.bool P.f2.f0) ∧ w.cell? ⟨b.block, b.off + 5, none⟩ = some (.string P.f2.f1) ∧ w.cell? ⟨b.block, b.off + 6, none⟩ = some (.bool P.f3.f0) ∧ w.cell? ⟨b.block, b.off + 7, none⟩ = some (.string P.f3.f1))
/-- The cells of a plane in a block of its own, and of another. -/
def boxPl (Q P : PL) (g : Nat) (b : Addr) (w : World) : Prop :=
  (w.cell? ⟨g, 0, none⟩ = some (.bool Q.f0.f0) ∧ w.cell? ⟨g, 1, none⟩ = some (.string Q.f0.f1) ∧ w.cell? ⟨g, 2, none⟩ = some (.bool Q.f1.f0) ∧ w.cell? ⟨g, 3, none⟩ = some (.string Q.f1.f1) ∧ w.cell? ⟨g, 4, none⟩ = some (.bool Q.f2.f0) ∧ w.cell? ⟨g, 5, none⟩ = some (.string Q.f2.f1) ∧ w.cell? ⟨g, 6, none⟩ = some (.bool Q.f3.f0) ∧ w.cell? ⟨g, 7, none⟩ = some (.string Q.f3.f1)) ∧
  (w.cell? b = some (.bool P.f0.f0) ∧ w.cell? ⟨b.block, b.off + 1, none⟩ = some (.string P.f0.f1) ∧ w.cell? ⟨b.block, b.off + 2, none⟩ = some (.bool P.f1.f0) ∧ w.cell? ⟨b.block, b.off + 3, none⟩ = some (.string P.f1.f1) ∧ w.cell? ⟨b.block, b.off + 4, none⟩ = some (.bool P.f2.f0) ∧ w.cell? ⟨b.block, b.off + 5, none⟩ = some (.string P.f2.f1) ∧ w.cell? ⟨b.block, b.off + 6, none⟩ = some (.bool P.f3.f0) ∧ w.cell? ⟨b.block, b.off + 7, none⟩ = some (.string P.f3.f1))
theorem face_plane {w : World} {ad : Addr} {L : List FC} (h : Kd.C k43 w (some ad) L.length L) (j : Nat) (hj : j < L.length) :
    w.cell? (ad.add (j * 10)) = some (.bool L[j].f0.f0.f0) ∧ w.cell? ⟨(ad.add (j * 10)).block, (ad.add (j * 10)).off + 1, none⟩ = some (.string L[j].f0.f0.f1) ∧ w.cell? ⟨(ad.add (j * 10)).block, (ad.add (j * 10)).off + 2, none⟩ = some (.bool L[j].f0.f1.f0) ∧ w.cell? ⟨(ad.add (j * 10)).block, (ad.add (j * 10)).off + 3, none⟩ = some (.string L[j].f0.f1.f1) ∧ w.cell? ⟨(ad.add (j * 10)).block, (ad.add (j * 10)).off + 4, none⟩ = some (.bool L[j].f0.f2.f0) ∧ w.cell? ⟨(ad.add (j * 10)).block, (ad.add (j * 10)).off + 5, none⟩ = some (.string L[j].f0.f2.f1) ∧ w.cell? ⟨(ad.add (j * 10)).block, (ad.add (j * 10)).off + 6, none⟩ = some (.bool L[j].f0.f3.f0) ∧ w.cell? ⟨(ad.add (j * 10)).block, (ad.add (j * 10)).off + 7, none⟩ = some (.string L[j].f0.f3.f1) := by
  obtain ⟨ad2, A8, c8, A9, c9, e9, x0, x1, x2, x3, x4, x5, x6, x7, -, -, -, -, -, -⟩ := at_T43 h (j : Int) (by omega) (by omega)
  obtain rfl := Option.some.inj e9
  rw [rd43 L j hj] at x0 x1 x2 x3 x4 x5 x6 x7
  simp only [Int.toNat_natCast] at x0 x1 x2 x3 x4 x5 x6 x7
  exact ⟨x0, x1, x2, x3, x4, x5, x6, x7⟩
/-- What the law's last region reads. -/
def lastS (k : Int) (P : PL) (v : Value) (g : Nat) (b : Addr) (w : World) : Prop :=
  (w.cell? ⟨g, 0, none⟩ = some (.int .i64 k) ∧ w.cell? ⟨g, 1, none⟩ = some (.bool P.f0.f0) ∧ w.cell? ⟨g, 2, none⟩ = some (.string P.f0.f1) ∧ w.cell? ⟨g, 3, none⟩ = some (.bool P.f1.f0) ∧ w.cell? ⟨g, 4, none⟩ = some (.string P.f1.f1) ∧ w.cell? ⟨g, 5, none⟩ = some (.bool P.f2.f0) ∧ w.cell? ⟨g, 6, none⟩ = some (.string P.f2.f1) ∧ w.cell? ⟨g, 7, none⟩ = some (.bool P.f3.f0) ∧ w.cell? ⟨g, 8, none⟩ = some (.string P.f3.f1) ∧ w.cell? ⟨g, 9, none⟩ = some v) ∧
  (w.cell? b = some (.bool P.f0.f0) ∧ w.cell? ⟨b.block, b.off + 1, none⟩ = some (.string P.f0.f1) ∧ w.cell? ⟨b.block, b.off + 2, none⟩ = some (.bool P.f1.f0) ∧ w.cell? ⟨b.block, b.off + 3, none⟩ = some (.string P.f1.f1) ∧ w.cell? ⟨b.block, b.off + 4, none⟩ = some (.bool P.f2.f0) ∧ w.cell? ⟨b.block, b.off + 5, none⟩ = some (.string P.f2.f1) ∧ w.cell? ⟨b.block, b.off + 6, none⟩ = some (.bool P.f3.f0) ∧ w.cell? ⟨b.block, b.off + 7, none⟩ = some (.string P.f3.f1))
theorem last_held {w W : World} {g : Nat} {ad : Addr} {L : List FC} {k : Int} {P : PL} {v : Value} {n : Nat} (hn : n < L.length) (hP : P = L[n].f0) (h : Kd.C k43 w (some ad) L.length L) (hb : Below w.heap.size w W)
    (hK : W.heap[g]? = some (.cells #[.int .i64 k, .bool P.f0.f0, .string P.f0.f1, .bool P.f1.f0, .string P.f1.f1, .bool P.f2.f0, .string P.f2.f1, .bool P.f3.f0, .string P.f3.f1, v] 36 (0, 0))) : lastS k P v g (ad.add (n * 10)) W := by
  have f := face_plane (Kd.C_below h hb) n hn
  rw [← hP] at f
  exact ⟨⟨blk_cell hK 0, blk_cell hK 1, blk_cell hK 2, blk_cell hK 3, blk_cell hK 4, blk_cell hK 5, blk_cell hK 6, blk_cell hK 7, blk_cell hK 8, blk_cell hK 9⟩, f⟩
/-- The next operation of a region that yields its value in every world that meets S (the first that is not listed yet). -/
theorem tkW {P : Program} {md : Region.Mode} {ops : Array Oper} {Q : Exit → Act → World → Prop} {S : World → Prop} {i : Nat} {oi : Oper} {v : Value} {fuel : Nat} {listed : Array Bool} {a : Act} {w : World}
    (hv : ∀ w, S w → (execOp a.eval oi).run P w = .ok (.value v) w) (h : wpAnyH P md ops Q S fuel (listed.setIfInBounds i true) (a.put oi.dst v) w)
    (_hx : (listed.toList.takeWhile id).length = i := by rfl) (hi : ops[i]? = some oi := by simp only [List.getElem?_toArray, List.getElem?_cons_succ, List.getElem?_cons_zero]; rfl) (hs : Region.noSelect ops = true := by kernel_rfl) (hf : Region.free md ops listed i = true := by kernel_rfl) (hr : (Region.ready md ops listed).contains i = true := by kernel_rfl)
    (hQ : ∀ c a w, Q (.panic c) (a.put oi.dst v) w → Q (.panic c) a w := by exact fun _ _ _ h => h) (hw : Region.wanted oi (yielded ops a.tmps) = true := by rfl) (hS : S w := by assumption) : wpAnyH P md ops Q S (fuel + 1) listed a w :=
  wpAnyH_take hi hs hf hr hQ (.inl ⟨hw, hv⟩) hS h
/-- .. that is not wanted. -/
theorem tkN {P : Program} {md : Region.Mode} {ops : Array Oper} {Q : Exit → Act → World → Prop} {S : World → Prop} {i : Nat} {oi : Oper} {fuel : Nat} {listed : Array Bool} {a : Act} {w : World}
    (h : wpAnyH P md ops Q S fuel (listed.setIfInBounds i true) (a.put oi.dst undef) w)
    (_hx : (listed.toList.takeWhile id).length = i := by rfl) (hi : ops[i]? = some oi := by simp only [List.getElem?_toArray, List.getElem?_cons_succ, List.getElem?_cons_zero]; rfl) (hs : Region.noSelect ops = true := by kernel_rfl) (hf : Region.free md ops listed i = true := by kernel_rfl) (hr : (Region.ready md ops listed).contains i = true := by kernel_rfl)
    (hQ : ∀ c a w, Q (.panic c) (a.put oi.dst undef) w → Q (.panic c) a w := by exact fun _ _ _ h => h) (hw : Region.wanted oi (yielded ops a.tmps) = false := by rfl) (hS : S w := by assumption) : wpAnyH P md ops Q S (fuel + 1) listed a w :=
  wpAnyH_take hi hs hf hr hQ (.inr ⟨hw, rfl⟩) hS h
attribute [local go_sem high] eqA33
set_option maxHeartbeats 12800000 in
set_option maxRecDepth 100000 in
theorem Self_walk (L : List FC) (A0 : Option Addr) (c0 : Nat) (t : List NP) (A1 : Option Addr) (c1 : Nat) (i : Int) (w : World) (hG : EnvL w)
    (h0 : Kd.C k43 w A0 L.length L) (l0 : L.length ≤ c0) (h1 : Kd.C k50 w A1 t.length t) (l1 : t.length ≤ c1) (lL : L.length ≤ 4398046511104) (lt : t.length ≤ 4398046511104) (lx : ∀ x ∈ L, x.f2.length ≤ 4398046511104) :
    Calls Tryz.prog 4 #[.slice A0 L.length c0, .slice A1 t.length c1, .int .i64 i] w fun e w' => e = .returned (.bool true) ∧ Below w.heap.size w w' := by
  have HG := Aside0.mk hG
  have R0 := Aside0.mk h0
  have R1 := Aside0.mk h1
  have LX := Aside0.mk lx
  clear h0 h1 hG lx
  go_enter Tryz.func4, Tryz.ntmps4
  go_wp2_with fail
  obtain ⟨rg, hgr⟩ := Great_any L A0 c0 t A1 c1 ⟨#[]⟩ [] none 0 w R0.out l0 R1.out l1 (Kd.C_nil _ _) (Nat.le_refl _) (by omega) (by omega) (by simp)
  refine hgr.mono ?_
  clear hgr
  rintro e1 w1 ⟨rfl, hb1⟩
  have HB := Aside0.mk hb1
  clear hb1
  by_cases hg : 0 < rg
  · have g1 : (0 < rg) = True := eq_true hg
    clear hg
    go_wp2_with fail
    refine (fixed_any _ (HG.out.below HB.out)).mono ?_
    rintro e2 w2 ⟨rfl, hb2⟩
    replace HB := Aside0.mk (below_step HB.out hb2)
    clear hb2
    go_wp2_with fail
    go_ret
    exact ⟨rfl, HB.out⟩
  have g1 : (0 < rg) = False := eq_false hg
  clear hg
  go_wp2_with fail
  obtain ⟨rb, hok, hrt⟩ := right_any2 A1 c1 t _ (Kd.C_below R1.out HB.out) l1 (by omega)
  refine hrt.mono ?_
  clear hrt
  rintro e1 w2 ⟨rfl, hb1⟩
  replace HB := Aside0.mk (below_step HB.out hb1)
  clear hb1
  cases rb with
  | false =>
    clear hok
    go_wp2_with fail
    refine (fixed_any _ (HG.out.below HB.out)).mono ?_
    rintro e2 w2 ⟨rfl, hb2⟩
    replace HB := Aside0.mk (below_step HB.out hb2)
    clear hb2
    go_wp2_with fail
    go_ret
    exact ⟨rfl, HB.out⟩
  | true =>
    have HA := Aside0.mk (hok rfl)
    clear hok
    go_wp2_with fail
    refine (Reference_any L A0 c0 t A1 c1 i _ (Kd.C_below R0.out HB.out) (Kd.C_below R1.out HB.out) lt LX.out).mono ?_
    rintro e3 w3 ⟨v, rfl, hQ, hb3⟩
    obtain ⟨T, adj, ok, hR⟩ : ∃ T adj ok, refR L t i = (T, adj, ok) := ⟨_, _, _, rfl⟩
    rw [hR] at hQ ⊢
    dsimp only at hQ ⊢
    obtain ⟨Av, cv, rfl, -⟩ := Kd.Q_slice hQ
    have HR := Aside0.mk hR
    clear hR
    replace HB := Aside0.mk (below_alloc (below_step HB.out hb3) (.cells #[.string T, .slice Av adj.length cv] 26))
    have K7 := Aside0.mk (blk_new w3 (.cells #[.string T, .slice Av adj.length cv] 26))
    have CA := Aside0.mk (Kd.C_alloc (Kd.Q_reads' hQ).2.2 (.cells #[.string T, .slice Av adj.length cv] 26))
    have LA := Aside0.mk (Kd.Q_reads' hQ).2.1
    clear hb3 hQ
    cases ok with
    | false =>
      have hf := refR_false (by rw [HR.out] : (refR L t i).2.2 = false)
      rw [HR.out] at hf
      obtain ⟨rfl, rfl⟩ : T = ⟨#[]⟩ ∧ adj = [] := by
        injection hf with e1 e2; injection e2 with e2 e3; exact ⟨e1, e2⟩
      clear hf HR CA LA
      simp only [List.length_nil] at K7 HB
      go_wp2_with fail
      refine (fixed_any _ (HG.out.below HB.out)).mono ?_
      rintro e2 w2 ⟨rfl, hb2⟩
      replace HB := Aside0.mk (below_step HB.out hb2)
      replace K7 := Aside0.mk (blk_below K7.out hb2)
      clear hb2
      have z0 : _ = some (Value.string ⟨#[]⟩) := blk_cell K7.out 0
      have z1 : _ = some (Value.slice Av 0 cv) := blk_cell K7.out 1
      go_wp2_with fail
      go_ret
      exact ⟨rfl, HB.out⟩
    | true =>
      obtain ⟨n, hn, rfl, hT, hadj⟩ := refR_law HA.out.1 HR.out
      obtain ⟨k, pl, hres, hmem, hpos, hkind⟩ := self_law HA.out.1 HA.out.2 hn hT hadj
      have HOK := Aside0.mk (fun (s : ByteArray) (hs : s ∈ adj) => ok_of_adj HA.out.1 hadj hs)
      clear hT hadj HR HA
      have x0 : _ = some (Value.string T) := blk_cell K7.out 0
      have x1 : _ = some (Value.slice Av adj.length cv) := blk_cell K7.out 1
      have HRS := Aside0.mk (Resolve_any L A0 c0 t A1 c1 T adj Av cv _ (HG.out.below HB.out) (Kd.C_below R0.out HB.out) (Kd.C_below R1.out HB.out) CA.out (by omega) (by omega) (Kd.C_max CA.out) (fun x hx => Nat.le_trans (LX.out x hx) (by omega)))
      obtain ⟨P, hP⟩ : ∃ P, P = L[n].f0 := ⟨_, rfl⟩
      rw [← hP] at hkind hres
      have HPOS := Aside0.mk (fun (m : Nat) (h : m < pl.length) => (show ∃ (j : Nat) (hj : j < L.length), pl[m] = (j : Int) ∧ L[j].f0 = P from by rw [hP]; exact hpos m h))
      have HP := Aside0.mk hP
      rw [hres] at HRS
      have hne0 : L ≠ [] := fun e => by subst e; exact absurd hn (by simp)
      obtain ⟨ad, rfl⟩ : ∃ ad, A0 = some ad := by
        obtain ⟨ad, e, -⟩ := R0.out.2.2 (by omega)
        exact ⟨ad, e⟩
      clear hpos hP hres hne0
      go_wp2_with fail
      refine HRS.out.mono ?_
      rintro e4 w4 ⟨v4, rfl, hQ4, hb4⟩
      dsimp only at hQ4 ⊢
      obtain ⟨Af, cf, rfl, -⟩ := Kd.Q_slice hQ4
      obtain ⟨o9, ho9⟩ : ∃ o, o = Obj.cells #[.int .i64 k, .bool P.f0.f0, .string P.f0.f1, .bool P.f1.f0, .string P.f1.f1, .bool P.f2.f0, .string P.f2.f1, .bool P.f3.f0, .string P.f3.f1, .slice Af pl.length cf] 36 := ⟨_, rfl⟩
      obtain ⟨wb, hwb⟩ : ∃ x, x = w4.alloc o9 := ⟨_, rfl⟩
      have HW := Aside0.mk (below_step HB.out hb4)
      have K9 := Aside0.mk (show wb.heap[w4.heap.size]? = some (.cells #[.int .i64 k, .bool P.f0.f0, .string P.f0.f1, .bool P.f1.f0, .string P.f1.f1, .bool P.f2.f0, .string P.f2.f1, .bool P.f3.f0, .string P.f3.f1, .slice Af pl.length cf] 36 (0, 0)) from by rw [hwb, ho9]; exact blk_new w4 _)
      replace HB := Aside0.mk (show Below w.heap.size w wb from by rw [hwb]; exact below_alloc HW.out _)
      replace K7 := Aside0.mk (show wb.heap[w3.heap.size]? = some (.cells #[.string T, .slice Av adj.length cv] 26 (0, 0)) from by rw [hwb]; exact blk_alloc (blk_below K7.out hb4) _)
      replace CA := Aside0.mk (show Kd.C Kd.string wb Av adj.length adj from by rw [hwb]; exact Kd.C_alloc (Kd.C_below CA.out hb4) _)
      have CP := Aside0.mk (show Kd.C (Kd.int .i64) wb Af pl.length pl from by rw [hwb]; exact Kd.C_alloc (Kd.Q_reads' hQ4).2.2 _)
      have HWB := Aside0.mk (show w4.alloc (Obj.cells #[.int .i64 k, .bool P.f0.f0, .string P.f0.f1, .bool P.f1.f0, .string P.f1.f1, .bool P.f2.f0, .string P.f2.f1, .bool P.f3.f0, .string P.f3.f1, .slice Af pl.length cf] 36) = wb from by rw [hwb, ho9])
      clear hb4 hQ4 hwb ho9 HRS HW x0 x1 LA
      have hplm := Kd.C_max CP.out
      have hadm := Kd.C_max CA.out
      unfold resCells
      go_wp2_with fail
      go_loopw [10, 63] (fun f i wr => ∃ m : Nat, i = .int .i64 m ∧ m ≤ pl.length ∧ f = .bool (decide ((n : Int) ∈ pl.take m)) ∧ Aside0 (Below wb.heap.size wb wr)) (fun _ i _ => pl.length - (RowKit.intOf i).toNat)
      case atStart => exact ⟨0, rfl, Nat.zero_le _, by simp, ⟨by rw [HWB.out]; exact Below.refl _ _⟩⟩
      case round =>
        obtain ⟨m, rfl, hm, rfl, HBr⟩ := hrel
        by_cases hlt : m < pl.length
        · have p1 : (0 : Int) ≤ (m : Int) := by omega
          have q1 : (m : Int) < (pl.length : Int) := by omega
          obtain ⟨ap, ep, y0⟩ := Kd.at_int (Kd.C_below CP.out HBr.out) (m : Int) p1 q1
          subst ep
          obtain ⟨j, hj, hjv, hjP⟩ := HPOS.out m hlt
          have hrd : rd pl (m : Int) = (j : Int) := by
            unfold rd
            rw [Int.toNat_natCast, List.getD_eq_getElem?_getD, List.getElem?_eq_getElem hlt]
            exact hjv
          rw [hrd] at y0
          simp only [Int.toNat_natCast] at y0
          replace p1 := eq_true p1
          replace q1 := eq_true q1
          have HM := Aside0.mk (memI_snoc (n : Int) pl m hlt)
          rw [hjv] at HM
          clear hrd hjv
          have hBw := Aside0.mk (below_step HB.out HBr.out)
          have fj := face_plane (Kd.C_below R0.out hBw.out) j hj
          have fn := face_plane (Kd.C_below R0.out hBw.out) n hn
          rw [hjP] at fj
          rw [← HP.out] at fn
          have HFJ := Aside0.mk (show twoPl P (ad.add (j * 10)) (ad.add (n * 10)) wr from ⟨fj, fn⟩)
          have j1 : ((j : Int) < 0) = False := eq_false (by omega)
          have j2 : (L.length ≤ j) = False := eq_false (by omega)
          have j3 : (j < L.length) = True := eq_true hj
          have j4 : (n < L.length) = True := eq_true hn
          clear fj fn hjP
          cases hd : decide ((n : Int) ∈ pl.take m) with
          | true =>
            have HV := Aside0.mk (show decide ((n : Int) ∈ pl.take (m + 1)) = true from by rw [HM.out, hd, Bool.true_or])
            clear HM hd
            go_wp2_with fail
            refine wp_region_held_drew (S := twoPl P (ad.add (j * 10)) (ad.add (n * 10))) (by kernel_rfl) ?_ (fun hHeld => ?_)
            · exact HFJ.out
            iterate 21 (refine tkW (v := ?_) ?_ ?_; rotate_left; (intro w hSw; (try dsimp only at hSw); unfold twoPl at hSw; go_simp; try with_reducible rfl); try simp only [Act.put, List.setIfInBounds_toArray, List.set_cons_zero, List.set_cons_succ])
            refine wpAnyH_done (by kernel_rfl) ?_ _
            all_goals
              go_wp2_with fail
              go_roundw
              case rel => exact ⟨m + 1, by go_num, hlt, by rw [HV.out], ⟨below_drew HBr.out⟩⟩
              case measure => simp [RowKit.intOf]; omega
          | false =>
            have HV := Aside0.mk (show decide ((n : Int) ∈ pl.take (m + 1)) = ((j : Int) == (n : Int)) from by rw [HM.out, hd, Bool.false_or])
            clear HM hd
            go_wp2_with fail
            refine wp_region_held_drew (S := twoPl P (ad.add (j * 10)) (ad.add (n * 10))) (by kernel_rfl) ?_ (fun hHeld => ?_)
            · exact HFJ.out
            iterate 21 (refine tkW (v := ?_) ?_ ?_; rotate_left; (intro w hSw; (try dsimp only at hSw); unfold twoPl at hSw; go_simp; try with_reducible rfl); try simp only [Act.put, List.setIfInBounds_toArray, List.set_cons_zero, List.set_cons_succ])
            refine wpAnyH_done (by kernel_rfl) ?_ _
            all_goals
              go_wp2_with fail
              go_roundw
              case rel => exact ⟨m + 1, by go_num, hlt, by rw [HV.out], ⟨below_drew HBr.out⟩⟩
              case measure => simp [RowKit.intOf]; omega
        · rw [List.take_of_length_le (by omega), decide_eq_true hmem]
          clear HPOS CP hmem hplm
          go_wp2_with fail
          go_loopw [11, 97] (fun f i wr => ∃ m : Nat, i = .int .i64 m ∧ m ≤ L.length ∧ f = .bool (alone t adj P n L m) ∧ Aside0 (Below wb.heap.size wb wr)) (fun _ i _ => L.length - (RowKit.intOf i).toNat)
          case atStart => exact ⟨0, rfl, Nat.zero_le _, rfl, HBr⟩
          case round =>
            clear HBr
            obtain ⟨m, rfl, hm, rfl, HBr⟩ := hrel
            obtain ⟨wo, rfl⟩ : ∃ x : World, x = wr := ⟨_, rfl⟩
            by_cases hlt : m < L.length
            · have p1 : (0 : Int) ≤ (m : Int) := by omega
              have q1 : (m : Int) < (L.length : Int) := by omega
              have hBw := Aside0.mk (below_step HB.out HBr.out)
              obtain ⟨ad2, A8, c8, A9, c9, e9, x0, x1, x2, x3, x4, x5, x6, x7, x8, x9, l8, g8, l9, g9⟩ := at_T43 R0.out (m : Int) p1 q1
              obtain rfl := Option.some.inj e9
              have hlx := LX.out L[m] (List.getElem_mem hlt)
              rw [rd43 L m hlt] at x0 x1 x2 x3 x4 x5 x6 x7 x8 x9 l8 g8 l9 g9
              replace x0 := (hBw.out.cell (World.block_lt_of_cell? _ _ x0)).trans x0
              replace x1 := (hBw.out.cell (World.block_lt_of_cell? _ _ x1)).trans x1
              replace x2 := (hBw.out.cell (World.block_lt_of_cell? _ _ x2)).trans x2
              replace x3 := (hBw.out.cell (World.block_lt_of_cell? _ _ x3)).trans x3
              replace x4 := (hBw.out.cell (World.block_lt_of_cell? _ _ x4)).trans x4
              replace x5 := (hBw.out.cell (World.block_lt_of_cell? _ _ x5)).trans x5
              replace x6 := (hBw.out.cell (World.block_lt_of_cell? _ _ x6)).trans x6
              replace x7 := (hBw.out.cell (World.block_lt_of_cell? _ _ x7)).trans x7
              replace x8 := (hBw.out.cell (World.block_lt_of_cell? _ _ x8)).trans x8
              replace x9 := (hBw.out.cell (World.block_lt_of_cell? _ _ x9)).trans x9
              have HAS := Aside0.mk (alone_succ t adj P n L m hlt)
              obtain ⟨x, hx⟩ : ∃ x, x = L[m] := ⟨_, rfl⟩
              rw [← hx] at x0 x1 x2 x3 x4 x5 x6 x7 x8 x9 l8 g8 l9 g9 hlx HAS
              simp only [Int.toNat_natCast] at x0 x1 x2 x3 x4 x5 x6 x7 x8 x9
              have G9 := Aside0.mk g9
              replace p1 := eq_true p1
              replace q1 := eq_true q1
              clear g8 g9 l8 e9 hx
              have fn := face_plane (Kd.C_below R0.out (below_alloc hBw.out (.cells (fcCells x (.slice A8 x.f1.length c8) (.slice A9 x.f2.length c9)) 43))) n hn
              rw [← HP.out] at fn
              have KX := Aside0.mk (blk_new wo (.cells (fcCells x (.slice A8 x.f1.length c8) (.slice A9 x.f2.length c9)) 43))
              have HBx := Aside0.mk (below_alloc HBr.out (.cells (fcCells x (.slice A8 x.f1.length c8) (.slice A9 x.f2.length c9)) 43))
              have FN := Aside0.mk fn
              have j4 : (n < L.length) = True := eq_true hn
              clear fn HBr hBw
              unfold fcCells at FN KX HBx
              by_cases hmn : m = n
              · subst hmn
                have HV := Aside0.mk (show alone t adj P m L (m + 1) = alone t adj P m L m from by rw [HAS.out]; simp)
                clear HAS
                go_wp2_with fail
                refine wp_region_held_drew (S := fun _ => True) (by kernel_rfl) ?_ (fun hHeld => ?_)
                · trivial
                iterate 4 (refine tkW (v := ?_) ?_ ?_; rotate_left; (intro w hSw; (try dsimp only at hSw); go_simp; try with_reducible rfl); try simp only [Act.put, List.setIfInBounds_toArray, List.set_cons_zero, List.set_cons_succ])
                iterate 8 (refine tkN ?_; try simp only [Act.put, List.setIfInBounds_toArray, List.set_cons_zero, List.set_cons_succ])
                iterate 1 (refine tkW (v := ?_) ?_ ?_; rotate_left; (intro w hSw; (try dsimp only at hSw); go_simp; try with_reducible rfl); try simp only [Act.put, List.setIfInBounds_toArray, List.set_cons_zero, List.set_cons_succ])
                refine wpAnyH_done (by kernel_rfl) ?_ _
                all_goals
                  go_wp2_with fail
                  go_roundw
                  case rel => exact ⟨m + 1, by go_num, hlt, by rw [HV.out], ⟨below_drew HBx.out⟩⟩
                  case measure => simp [RowKit.intOf]; omega
              · have z1 : ((m : Int) == (n : Int)) = false := beq_eq_false_iff_ne.2 (by omega)
                have z2 : (m = n) = False := eq_false hmn
                have HAS2 := Aside0.mk (show alone t adj P n L (m + 1) = (alone t adj P n L m && !(plEq x.f0 P && adj.all (near t x))) from by rw [HAS.out, beq_eq_false_iff_ne.2 hmn, Bool.false_or])
                have HS := Aside0.mk (show boxPl x.f0 P wo.heap.size (ad.add (n * 10)) _ from ⟨⟨blk_cell KX.out 0, blk_cell KX.out 1, blk_cell KX.out 2, blk_cell KX.out 3, blk_cell KX.out 4, blk_cell KX.out 5, blk_cell KX.out 6, blk_cell KX.out 7⟩, FN.out⟩)
                clear HAS hmn FN
                cases hpe : plEq x.f0 P with
                | false =>
                  have HV := Aside0.mk (show alone t adj P n L (m + 1) = alone t adj P n L m from by rw [HAS2.out, hpe]; simp)
                  unfold plEq at hpe
                  clear HAS2
                  go_wp2_with fail
                  refine wp_region_held_drew (S := boxPl x.f0 P wo.heap.size (ad.add (n * 10))) (by kernel_rfl) ?_ (fun hHeld => ?_)
                  · exact HS.out
                  iterate 13 (refine tkW (v := ?_) ?_ ?_; rotate_left; (intro w hSw; (try dsimp only at hSw); unfold boxPl at hSw; go_simp; try with_reducible rfl); try simp only [Act.put, List.setIfInBounds_toArray, List.set_cons_zero, List.set_cons_succ])
                  refine wpAnyH_done (by kernel_rfl) ?_ _
                  all_goals
                    go_wp2_with fail
                    go_roundw
                    case rel => exact ⟨m + 1, by go_num, hlt, by rw [HV.out], ⟨below_drew HBx.out⟩⟩
                    case measure => simp [RowKit.intOf]; omega
                | true =>
                  have HV := Aside0.mk (show alone t adj P n L (m + 1) = (alone t adj P n L m && !adj.all (near t x)) from by rw [HAS2.out, hpe, Bool.true_and])
                  unfold plEq at hpe
                  clear HAS2
                  have hk7 := blk_cell (blk_below K7.out HBx.out) 1
                  have x1' : _ = some (Value.slice Av adj.length cv) := hk7
                  go_wp2_with fail
                  refine wp_region_held_drew (S := boxPl x.f0 P wo.heap.size (ad.add (n * 10))) (by kernel_rfl) ?_ (fun hHeld => ?_)
                  · exact HS.out
                  iterate 13 (refine tkW (v := ?_) ?_ ?_; rotate_left; (intro w hSw; (try dsimp only at hSw); unfold boxPl at hSw; go_simp; try with_reducible rfl); try simp only [Act.put, List.setIfInBounds_toArray, List.set_cons_zero, List.set_cons_succ])
                  refine wpAnyH_done (by kernel_rfl) ?_ _
                  replace HBx := Aside0.mk (below_drew HBx.out)
                  replace KX := Aside0.mk (blk_below KX.out (below_drew (Below.refl _ _)))
                  clear hHeld HS hpe hk7 x0 x1 x2 x3 x4 x5 x6 x7 x8 x9
                  have x1 : _ = some (Value.slice Av adj.length cv) := blk_cell (blk_below K7.out HBx.out) 1
                  go_wp2_with fail
                  go_loopw [16, 118] (fun f i wr3 => ∃ q : Nat, i = .int .i64 q ∧ q ≤ adj.length ∧ f = .bool ((adj.take q).all (near t x)) ∧ Aside0 (wr3.heap[wo.heap.size]? = some (.cells #[.bool x.f0.f0.f0, .string x.f0.f0.f1, .bool x.f0.f1.f0, .string x.f0.f1.f1, .bool x.f0.f2.f0, .string x.f0.f2.f1, .bool x.f0.f3.f0, .string x.f0.f3.f1, .slice A8 x.f1.length c8, .slice A9 x.f2.length c9] 43 (0, 0))) ∧ Aside0 (Below wb.heap.size wb wr3)) (fun _ i _ => adj.length - (RowKit.intOf i).toNat)
                  case atStart => exact ⟨0, rfl, Nat.zero_le _, rfl, KX, HBx⟩
                  case round =>
                    clear KX HBx x1
                    obtain ⟨q, rfl, hq, rfl, KX, HBx⟩ := hrel
                    by_cases hlq : q < adj.length
                    · obtain ⟨bs, os, rfl, -, hcell⟩ := C_string_cells (Kd.C_below CA.out HBx.out) (by omega)
                      have y0 := hcell q adj[q] (List.getElem?_eq_getElem hlq)
                      obtain ⟨p, hlk⟩ := HOK.out adj[q] (List.getElem_mem hlq)
                      have hBw := Aside0.mk (below_step HB.out HBx.out)
                      have HSN := Aside0.mk (show (adj.take (q + 1)).all (near t x) = ((adj.take q).all (near t x) && hasPl x.f2 p) from by rw [all_snoc _ _ _ hlq]; unfold near; rw [hlk, Bool.true_and])
                      have HLK := Aside0.mk (Lookup_any adj[q] A1 c1 t _ (Kd.C_below R1.out hBw.out) (by omega))
                      rw [hlk] at HLK
                      dsimp only at HLK
                      clear hlk hcell
                      go_wp2_with fail
                      refine HLK.out.mono ?_
                      rintro e5 w5 ⟨rfl, hb5⟩
                      replace HBx := Aside0.mk (below_alloc (below_step HBx.out hb5) (.cells (plCells p) 33))
                      replace KX := Aside0.mk (blk_alloc (blk_below KX.out hb5) (.cells (plCells p) 33))
                      have KP := Aside0.mk (blk_new w5 (.cells (plCells p) 33))
                      clear hb5 HLK y0 hBw
                      unfold plCells at HBx KX KP ⊢
                      have y9 : _ = some (Value.slice A9 x.f2.length c9) := blk_cell KX.out 9
                      go_wp2_with fail
                      go_loopw [21, 131] (fun f i wr4 => ∃ r : Nat, i = .int .i64 r ∧ r ≤ x.f2.length ∧ f = .bool (hasPl (x.f2.take r) p) ∧ Aside0 (wr4.heap[wo.heap.size]? = some (.cells #[.bool x.f0.f0.f0, .string x.f0.f0.f1, .bool x.f0.f1.f0, .string x.f0.f1.f1, .bool x.f0.f2.f0, .string x.f0.f2.f1, .bool x.f0.f3.f0, .string x.f0.f3.f1, .slice A8 x.f1.length c8, .slice A9 x.f2.length c9] 43 (0, 0))) ∧ Aside0 (wr4.heap[w5.heap.size]? = some (.cells #[.bool p.f0.f0, .string p.f0.f1, .bool p.f1.f0, .string p.f1.f1, .bool p.f2.f0, .string p.f2.f1, .bool p.f3.f0, .string p.f3.f1] 33 (0, 0))) ∧ Aside0 (Below wb.heap.size wb wr4)) (fun _ i _ => x.f2.length - (RowKit.intOf i).toNat)
                      case atStart => exact ⟨0, rfl, Nat.zero_le _, rfl, KX, KP, HBx⟩
                      case round =>
                        clear KX KP HBx y9
                        obtain ⟨r, rfl, hr, rfl, KX, KP, HBx⟩ := hrel
                        by_cases hlr : r < x.f2.length
                        · have p3 : (0 : Int) ≤ (r : Int) := by omega
                          have q3 : (r : Int) < (x.f2.length : Int) := by omega
                          have hBw := Aside0.mk (below_step HB.out HBx.out)
                          obtain ⟨ad4, e4, u0, u1, u2, u3, u4, u5, u6, u7⟩ := at_T33 (Kd.C_below G9.out hBw.out) (r : Int) p3 q3
                          subst e4
                          have HPS := Aside0.mk (hasPl_snoc x.f2 p r hlr)
                          rw [rd33 x.f2 r hlr] at u0 u1 u2 u3 u4 u5 u6 u7
                          obtain ⟨y, hy⟩ : ∃ y, y = x.f2[r] := ⟨_, rfl⟩
                          rw [← hy] at u0 u1 u2 u3 u4 u5 u6 u7 HPS
                          clear hy hBw
                          simp only [Int.toNat_natCast] at u0 u1 u2 u3 u4 u5 u6 u7
                          replace p3 := eq_true p3
                          replace q3 := eq_true q3
                          have y0 : ∀ o, (wr.alloc o).cell? ⟨w5.heap.size, 0, none⟩ = some (Value.bool p.f0.f0) := fun o => blk_cell (blk_alloc KP.out o) 0
                          have y1 : ∀ o, (wr.alloc o).cell? ⟨w5.heap.size, 1, none⟩ = some (Value.string p.f0.f1) := fun o => blk_cell (blk_alloc KP.out o) 1
                          have y2 : ∀ o, (wr.alloc o).cell? ⟨w5.heap.size, 2, none⟩ = some (Value.bool p.f1.f0) := fun o => blk_cell (blk_alloc KP.out o) 2
                          have y3 : ∀ o, (wr.alloc o).cell? ⟨w5.heap.size, 3, none⟩ = some (Value.string p.f1.f1) := fun o => blk_cell (blk_alloc KP.out o) 3
                          have y4 : ∀ o, (wr.alloc o).cell? ⟨w5.heap.size, 4, none⟩ = some (Value.bool p.f2.f0) := fun o => blk_cell (blk_alloc KP.out o) 4
                          have y5 : ∀ o, (wr.alloc o).cell? ⟨w5.heap.size, 5, none⟩ = some (Value.string p.f2.f1) := fun o => blk_cell (blk_alloc KP.out o) 5
                          have y6 : ∀ o, (wr.alloc o).cell? ⟨w5.heap.size, 6, none⟩ = some (Value.bool p.f3.f0) := fun o => blk_cell (blk_alloc KP.out o) 6
                          have y7 : ∀ o, (wr.alloc o).cell? ⟨w5.heap.size, 7, none⟩ = some (Value.string p.f3.f1) := fun o => blk_cell (blk_alloc KP.out o) 7
                          have HBn := Aside0.mk (below_alloc HBx.out (.cells (plCells y) 33))
                          have KXn := Aside0.mk (blk_alloc KX.out (.cells (plCells y) 33))
                          have KPn := Aside0.mk (blk_alloc KP.out (.cells (plCells y) 33))
                          clear HBx KX KP
                          cases hb : hasPl (x.f2.take r) p with
                          | true =>
                            have HV := Aside0.mk (show hasPl (x.f2.take (r + 1)) p = true from by rw [HPS.out, hb, Bool.true_or])
                            clear HPS
                            go_wp2_with fail
                            go_roundw
                            case rel => exact ⟨r + 1, by go_num, hlr, by rw [HV.out], KXn, KPn, HBn⟩
                            case measure => simp [RowKit.intOf]; omega
                          | false =>
                            have HV := Aside0.mk (show hasPl (x.f2.take (r + 1)) p = plEq y p from by rw [HPS.out, hb, Bool.false_or])
                            clear HPS
                            go_wp2_with fail
                            go_roundw
                            case rel => exact ⟨r + 1, by go_num, hlr, by rw [HV.out]; rfl, KXn, KPn, HBn⟩
                            case measure => simp [RowKit.intOf]; omega
                        · obtain rfl : r = x.f2.length := by omega
                          rw [List.take_length]
                          cases hal : (adj.take q).all (near t x) with
                          | true =>
                            have HV := Aside0.mk (show (adj.take (q + 1)).all (near t x) = hasPl x.f2 p from by rw [HSN.out, hal, Bool.true_and])
                            clear HSN
                            go_wp2_with fail
                            go_roundw
                            case rel => exact ⟨q + 1, by go_num, hlq, by rw [HV.out], KX, HBx⟩
                            case measure => simp [RowKit.intOf]; omega
                          | false =>
                            have HV := Aside0.mk (show (adj.take (q + 1)).all (near t x) = false from by rw [HSN.out, hal, Bool.false_and])
                            clear HSN
                            go_wp2_with fail
                            go_roundw
                            case rel => exact ⟨q + 1, by go_num, hlq, by rw [HV.out], KX, HBx⟩
                            case measure => simp [RowKit.intOf]; omega
                    · rw [List.take_of_length_le (by omega)]
                      cases hal : alone t adj P n L m with
                      | true =>
                        have HV2 := Aside0.mk (show alone t adj P n L (m + 1) = !adj.all (near t x) from by rw [HV.out, hal, Bool.true_and])
                        clear HV
                        go_wp2_with fail
                        go_roundw
                        case rel => exact ⟨m + 1, by go_num, hlt, by rw [HV2.out], HBx⟩
                        case measure => simp [RowKit.intOf]; omega
                      | false =>
                        have HV2 := Aside0.mk (show alone t adj P n L (m + 1) = false from by rw [HV.out, hal, Bool.false_and])
                        clear HV
                        go_wp2_with fail
                        go_roundw
                        case rel => exact ⟨m + 1, by go_num, hlt, by rw [HV2.out], HBx⟩
                        case measure => simp [RowKit.intOf]; omega
            · obtain rfl : m = L.length := by omega
              have hBw := Aside0.mk (below_step HB.out HBr.out)
              have HLS := Aside0.mk (last_held hn HP.out R0.out hBw.out (blk_below K9.out HBr.out))
              have j4 : (n < L.length) = True := eq_true hn
              rcases hkind with ⟨rfl, hl1, hal⟩ | ⟨rfl, hl1, hal⟩
              · rw [hal]
                clear hal
                go_wp2_with fail
                refine wp_region_held_drew (S := lastS 1 P (.slice Af pl.length cf) w4.heap.size (ad.add (n * 10))) (by kernel_rfl) ?_ (fun hHeld => ?_)
                · exact HLS.out
                refine wpAnyH_ready (rs := [0]) (by kernel_rfl) (by simp) (AllReadyH.cons rfl (fun K hK => ?_) AllReadyH.nil)
                rw [if_pos (by rfl)]
                go_simp
                go_at_call 11; refine (fixed_any _ (HG.out.below (below_drew hBw.out))).mono ?_; rintro e6 w6 ⟨rfl, hb6⟩; have HB6 := Aside0.mk (below_step (below_drew hBw.out) hb6); have K96 := Aside0.mk (blk_below (blk_below K9.out (below_drew HBr.out)) hb6); clear hb6
                refine hK.out _ _ ?_ (fun hHeld2 => ?_)
                · exact last_held hn HP.out R0.out HB6.out K96.out
                clear hK K hHeld; have hHeld := hHeld2; clear hHeld2
                try simp only [Act.put, List.setIfInBounds_toArray, List.set_cons_zero, List.set_cons_succ]
                iterate 31 (refine tkW (v := ?_) ?_ ?_; rotate_left; (intro w hSw; (try dsimp only at hSw); unfold lastS at hSw; go_simp; try with_reducible rfl); try simp only [Act.put, List.setIfInBounds_toArray, List.set_cons_zero, List.set_cons_succ])
                refine wpAnyH_done (by kernel_rfl) ?_ _
                all_goals
                  go_wp2_with fail
                  go_ret
                  exact ⟨rfl, HB6.out⟩
              · rw [hal]
                have y1 : ((pl.length : Int) == 1) = false := beq_eq_false_iff_ne.2 (by omega)
                have y2 : (pl.length = 1) = False := eq_false hl1
                clear hal hl1
                go_wp2_with fail
                refine wp_region_held_drew (S := lastS 2 P (.slice Af pl.length cf) w4.heap.size (ad.add (n * 10))) (by kernel_rfl) ?_ (fun hHeld => ?_)
                · exact HLS.out
                refine wpAnyH_ready (rs := [0]) (by kernel_rfl) (by simp) (AllReadyH.cons rfl (fun K hK => ?_) AllReadyH.nil)
                rw [if_pos (by rfl)]
                go_simp
                go_at_call 11; refine (fixed_any _ (HG.out.below (below_drew hBw.out))).mono ?_; rintro e6 w6 ⟨rfl, hb6⟩; have HB6 := Aside0.mk (below_step (below_drew hBw.out) hb6); have K96 := Aside0.mk (blk_below (blk_below K9.out (below_drew HBr.out)) hb6); clear hb6
                refine hK.out _ _ ?_ (fun hHeld2 => ?_)
                · exact last_held hn HP.out R0.out HB6.out K96.out
                clear hK K hHeld; have hHeld := hHeld2; clear hHeld2
                try simp only [Act.put, List.setIfInBounds_toArray, List.set_cons_zero, List.set_cons_succ]
                iterate 31 (refine tkW (v := ?_) ?_ ?_; rotate_left; (intro w hSw; (try dsimp only at hSw); unfold lastS at hSw; go_simp; try with_reducible rfl); try simp only [Act.put, List.setIfInBounds_toArray, List.set_cons_zero, List.set_cons_succ])
                refine wpAnyH_done (by kernel_rfl) ?_ _
                all_goals
                  go_wp2_with fail
                  go_ret
                  exact ⟨rfl, HB6.out⟩
end Go.Proofs.YtkceipkedmfeiaaGreatDoor.XL
