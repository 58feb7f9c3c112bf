/- voussoirref30.Same at two features that are equal, walked: it answers true. FeatureRoundTrip, walked: it answers true at every feature that is not too large. FeatureRoundTrip at an argument that reads as data. -/
import Derived.Test.YtoccbcfjbingbaaGreatDoorFeatF
import Derived.Test.YtoccbcfjbingbaaGreatDoorX30x11
import Derived.Test.YtoccbcfjbingbaaGreatDoorX30x1
import Derived.Test.YtoccbcfjbingbaaGreatDoorP30b
import Derived.Test.YtoccbcfjbingbaaGreatDoorX30x19
import Derived.Test.YtoccbcfjbingbaaGreatDoorFeatW
namespace Go.Proofs.YtoccbcfjbingbaaGreatDoor.X30
open Go Go.RowKit Go.Shelf Go.Proofs.YtoccbcfjbingbaaGreatDoorW.PrintWords Go.Proofs.YtoccbcfjbingbaaGreatDoorW.PrintLast Go.Proofs.YtoccbcfjbingbaaGreatDoorW.PrintMore
set_option linter.unusedVariables false
attribute [local go_sem high] eqA28

theorem sameRef_l0 (t : ByteArray) (l : List ByteArray) (hl : l.length < 4611686018427387904) : ∀ (m i : Nat), i + m = l.length → ∀ k, m < k → voussoirref30_SameRef.l0 k (i : Int) t l t l = some true := by
  intro m
  induction m with
  | zero =>
    intro i hi k hk
    obtain ⟨k, rfl⟩ : ∃ n, k = n + 1 := ⟨k - 1, by omega⟩
    simp only [voussoirref30_SameRef.l0]
    rw [if_neg (by omega)]
  | succ m ih =>
    intro i hi k hk
    obtain ⟨k, rfl⟩ : ∃ n, k = n + 1 := ⟨k - 1, by omega⟩
    simp only [voussoirref30_SameRef.l0]
    rw [if_pos (by omega), if_pos (by omega), if_pos (by omega), if_pos trivial, show wrap64 ((i : Int) + 1) = ((i + 1 : Nat) : Int) by unfold wrap64; omega]
    exact ih (i + 1) (by omega) k (by omega)
theorem sameRef_f (t : ByteArray) (l : List ByteArray) (hl : l.length < 4611686018427387904) : voussoirref30_SameRef.f (l.length + 2) t l t l = some true := by
  unfold voussoirref30_SameRef.f
  rw [if_pos rfl]
  simp only [voussoirref30_SameRef.j0, bne_self_eq_false, Bool.false_eq_true, if_false]
  exact sameRef_l0 t l hl l.length 0 (by omega) _ (by omega)

set_option maxHeartbeats 1600000 in
set_option maxRecDepth 100000 in
theorem same_walk (F : FT) (A3 : Option Addr) (c3 : Nat) (A5 : Option Addr) (c5 : Nat) (B3 : Option Addr) (d3 : Nat) (B5 : Option Addr) (d5 : Nat) (w : World)
    (hr3 : Kd.C Kd.string w A3 F.onA.length F.onA) (hc3 : F.onA.length ≤ c3) (hr5 : Kd.C Kd.string w A5 F.andA.length F.andA) (hc5 : F.andA.length ≤ c5)
    (gr3 : Kd.C Kd.string w B3 F.onA.length F.onA) (gc3 : F.onA.length ≤ d3) (gr5 : Kd.C Kd.string w B5 F.andA.length F.andA) (gc5 : F.andA.length ≤ d5) (h3 : F.onA.length < 4611686018427387904) (h5 : F.andA.length < 4611686018427387904) :
    Calls Tryz.prog 15 #[.agg (featCells F (.slice A3 F.onA.length c3) (.slice A5 F.andA.length c5)), .agg (featCells F (.slice B3 F.onA.length d3) (.slice B5 F.andA.length d5))] w fun e w' => e = .returned (.bool true) ∧ Below w.heap.size w w' := by
  have R3 := Aside0.mk hr3
  have R5 := Aside0.mk hr5
  have G3 := Aside0.mk gr3
  have G5 := Aside0.mk gr5
  have S3 := Aside0.mk (sameRef_f F.onT F.onA h3)
  have S5 := Aside0.mk (sameRef_f F.andT F.andA h5)
  have L3 := Aside0.mk hc3
  have L5 := Aside0.mk hc5
  have M3 := Aside0.mk gc3
  have M5 := Aside0.mk gc5
  clear hr3 hr5 gr3 gr5 h3 h5 hc3 hc5 gc3 gc5
  unfold featCells
  go_enter Tryz.func15, Tryz.ntmps15
  go_wp2_with fail
  refine (voussoirref30_SameRef.calls _ F.onT A3 c3 F.onA F.onT B3 d3 F.onA true _ (Kd.C_alloc (Kd.C_alloc R3.out _) _) L3.out (Kd.C_alloc (Kd.C_alloc G3.out _) _) M3.out S3.out).mono ?_
  rintro e1 w1 ⟨rfl, hb1⟩
  have HA := below_alloc (below_alloc (Below.refl w.heap.size w) (.cells (featCells F (.slice A3 F.onA.length c3) (.slice A5 F.andA.length c5)) 30)) (.cells (featCells F (.slice B3 F.onA.length d3) (.slice B5 F.andA.length d5)) 30)
  have HB1 := Aside0.mk (below_step HA hb1)
  have k1 := blk_below (blk_alloc (blk_new w (.cells (featCells F (.slice A3 F.onA.length c3) (.slice A5 F.andA.length c5)) 30)) (.cells (featCells F (.slice B3 F.onA.length d3) (.slice B5 F.andA.length d5)) 30)) hb1
  have k2 := blk_below (blk_new (w.alloc (.cells (featCells F (.slice A3 F.onA.length c3) (.slice A5 F.andA.length c5)) 30)) (.cells (featCells F (.slice B3 F.onA.length d3) (.slice B5 F.andA.length d5)) 30)) hb1
  rw [show (w.alloc (.cells (featCells F (.slice A3 F.onA.length c3) (.slice A5 F.andA.length c5)) 30)).heap.size = w.heap.size + 1 from Array.size_push _] at k2
  have K1 := Aside0.mk k1
  have K2 := Aside0.mk k2
  obtain ⟨p0, p1, p2, p3, p4, p5, p6, p7, p8, p9, p10, p11⟩ := feat_cells k1
  obtain ⟨q0, q1, q2, q3, q4, q5, q6, q7, q8, q9, q10, q11⟩ := feat_cells k2
  clear hb1 HA k1 k2
  go_wp2_with fail
  refine (voussoirref30_SameRef.calls _ F.andT A5 c5 F.andA F.andT B5 d5 F.andA true _ (Kd.C_below R5.out HB1.out) L5.out (Kd.C_below G5.out HB1.out) M5.out S5.out).mono ?_
  rintro e2 w2 ⟨rfl, hb2⟩
  have HB2 := Aside0.mk (below_step HB1.out hb2)
  have k1 := blk_below K1.out hb2
  have k2 := blk_below K2.out hb2
  clear p0 p1 p2 p3 p4 p5 p6 p7 p8 p9 p10 p11 q0 q1 q2 q3 q4 q5 q6 q7 q8 q9 q10 q11
  obtain ⟨p0, p1, p2, p3, p4, p5, p6, p7, p8, p9, p10, p11⟩ := feat_cells k1
  obtain ⟨q0, q1, q2, q3, q4, q5, q6, q7, q8, q9, q10, q11⟩ := feat_cells k2
  clear hb2 k1 k2 K1 K2
  go_wp2_with fail

  go_ret
  exact ⟨by simp, HB2.out⟩

end Go.Proofs.YtoccbcfjbingbaaGreatDoor.X30

namespace Go.Proofs.YtoccbcfjbingbaaGreatDoor.X30
open Go hiding Fd
open Go.RowKit Go.Shelf Go.Proofs.YtoccbcfjbingbaaGreatDoorW.PrintWords Go.Proofs.YtoccbcfjbingbaaGreatDoorW.PrintLast Go.Proofs.YtoccbcfjbingbaaGreatDoorW.PrintMore Go.Proofs.YtoccbcfjbingbaaGreatDoor.P30
set_option linter.unusedVariables false

/-- A feature's cells, behind one block more. -/
theorem feat_cells' {w : World} {g : Nat} {F : FT} {v3 v5 : Value} (h : w.heap[g]? = some (.cells (featCells F v3 v5) 30 (0, 0))) : (∀ o, (w.alloc o).cell? ⟨g, 0, none⟩ = some (.string F.id)) ∧ (∀ o, (w.alloc o).cell? ⟨g, 1, none⟩ = some (.int .i64 F.kind)) ∧ (∀ o, (w.alloc o).cell? ⟨g, 2, none⟩ = some (.string F.onT)) ∧ (∀ o, (w.alloc o).cell? ⟨g, 3, none⟩ = some (v3)) ∧ (∀ o, (w.alloc o).cell? ⟨g, 4, none⟩ = some (.string F.andT)) ∧ (∀ o, (w.alloc o).cell? ⟨g, 5, none⟩ = some (v5)) ∧ (∀ o, (w.alloc o).cell? ⟨g, 6, none⟩ = some (.string F.sketch)) ∧ (∀ o, (w.alloc o).cell? ⟨g, 7, none⟩ = some (.string F.amount)) ∧ (∀ o, (w.alloc o).cell? ⟨g, 8, none⟩ = some (.string F.count)) ∧ (∀ o, (w.alloc o).cell? ⟨g, 9, none⟩ = some (.string F.x)) ∧ (∀ o, (w.alloc o).cell? ⟨g, 10, none⟩ = some (.string F.y)) ∧ (∀ o, (w.alloc o).cell? ⟨g, 11, none⟩ = some (.string F.z)) :=
  ⟨fun o => (blk_cell (blk_alloc h o) 0).trans rfl, fun o => (blk_cell (blk_alloc h o) 1).trans rfl, fun o => (blk_cell (blk_alloc h o) 2).trans rfl, fun o => (blk_cell (blk_alloc h o) 3).trans rfl, fun o => (blk_cell (blk_alloc h o) 4).trans rfl, fun o => (blk_cell (blk_alloc h o) 5).trans rfl, fun o => (blk_cell (blk_alloc h o) 6).trans rfl, fun o => (blk_cell (blk_alloc h o) 7).trans rfl, fun o => (blk_cell (blk_alloc h o) 8).trans rfl, fun o => (blk_cell (blk_alloc h o) 9).trans rfl, fun o => (blk_cell (blk_alloc h o) 10).trans rfl, fun o => (blk_cell (blk_alloc h o) 11).trans rfl⟩

/-- What lies beside a row that grows: another row, and a feature. -/
theorem push_keep {wr w5 : World} {base : Nat} {u5 v1 vl : Value} {l : List S45} (hR : Kd.R k45 45 wr base (fun k_ => some k_ ≠ u5.ownBlock) vl l) (hg : wr.grownBy w5 u5.ownBlock)
    (hat : v1.ownBlock = u5.ownBlock ∨ ∃ b, v1.ownBlock = some b ∧ wr.heap.size ≤ b) : Kd.R k45 45 w5 base (fun k_ => some k_ ≠ v1.ownBlock) vl l :=
  Kd.R_mono (Kd.R_after (v := u5) (ok := fun _ => True) (Kd.R_mono hR (fun _ hk => ⟨trivial, hk⟩)) hg hat) (fun _ hk => hk.2)
theorem push_blk {wr w5 : World} {base g : Nat} {ok : Nat → Prop} {u5 : Value} {xs : List S45} {cs : Array Value} (hT : Kd.R k45 45 wr base ok u5 xs) (hK : wr.heap[g]? = some (.cells cs 30 (0, 0))) (hg : wr.grownBy w5 u5.ownBlock) :
    w5.heap[g]? = some (.cells cs 30 (0, 0)) := blk_grown hK hg (Kd.R_ne hT hK (by decide))

set_option maxHeartbeats 3200000 in
set_option maxRecDepth 100000 in
theorem RoundTrip_walk (F : FT) (A3 : Option Addr) (c3 : Nat) (A5 : Option Addr) (c5 : Nat) (w : World) (hr3 : Kd.C Kd.string w A3 F.onA.length F.onA) (hc3 : F.onA.length ≤ c3) (hr5 : Kd.C Kd.string w A5 F.andA.length F.andA) (hc5 : F.andA.length ≤ c5)
    (hbig : FT.wt F ≤ 1000000000) (hG : Env w) :
    Calls Tryz.prog 5 #[.agg (featCells F (.slice A3 F.onA.length c3) (.slice A5 F.andA.length c5))] w fun e w' => e = .returned (.bool true) ∧ Below w.heap.size w w' := by
  obtain ⟨kg, hgr⟩ := great_ev F hbig
  have HGR := Aside0.mk hgr
  have HG := Aside0.mk hG
  have R3 := Aside0.mk hr3
  have R5 := Aside0.mk hr5
  have L3 := Aside0.mk hc3
  have L5 := Aside0.mk hc5
  have HBIG := Aside0.mk hbig
  have HB0 := Aside0.mk (below_alloc (Below.refl w.heap.size w) (.cells (featCells F (.slice A3 F.onA.length c3) (.slice A5 F.andA.length c5)) 30))
  have K0 := Aside0.mk (blk_new w (.cells (featCells F (.slice A3 F.onA.length c3) (.slice A5 F.andA.length c5)) 30))
  clear hgr hG hr3 hr5 hc3 hc5 hbig
  go_enter Tryz.func5, Tryz.ntmps5
  go_wp2_with fail
  refine (alive_any _ (HG.out.below HB0.out)).mono ?_
  rintro e1 w1 ⟨rfl, hb1⟩
  have HB1 := Aside0.mk (below_step HB0.out hb1)
  have K1 := Aside0.mk (blk_below K0.out hb1)
  clear hb1 HB0 K0
  obtain ⟨p0, p1, p2, p3, p4, p5, p6, p7, p8, p9, p10, p11⟩ := feat_cells K1.out
  go_wp2_with fail
  refine (voussoirref30_Great.calls kg F.id F.kind F.onT A3 c3 F.onA F.andT A5 c5 F.andA F.sketch F.amount F.count F.x F.y F.z (greatOf F) _ (Kd.C_below R3.out HB1.out) L3.out (Kd.C_below R5.out HB1.out) L5.out HGR.out).mono ?_
  rintro e2 w2 ⟨rfl, hb2⟩
  have HB2 := Aside0.mk (below_step HB1.out hb2)
  have K2 := Aside0.mk (blk_below K1.out hb2)
  clear hb2 HB1 K1 p0 p1 p2 p3 p4 p5 p6 p7 p8 p9 p10 p11 HGR
  by_cases hgt : FT.wt F > 5000
  · have hg1 : greatOf F = 1 := if_pos hgt
    rw [hg1]
    go_wp2_with fail
    go_ret
    exact ⟨rfl, HB2.out⟩
  have hg0 : greatOf F = 0 := if_neg hgt
  rw [hg0]
  obtain ⟨r, kc, hc⟩ : ∃ r k, checkOf k F = some r := by
    obtain ⟨r, hr⟩ := checkOf_ev F (by omega)
    obtain ⟨k, hk⟩ := hr.rounds
    exact ⟨r, k, hk⟩
  have HCK := Aside0.mk hc
  clear hc hg0 hgt
  obtain ⟨p0, p1, p2, p3, p4, p5, p6, p7, p8, p9, p10, p11⟩ := feat_cells K2.out
  go_wp2_with fail
  refine (Check_walk kc F A3 c3 A5 c5 r _ (Kd.C_below R3.out HB2.out) L3.out (Kd.C_below R5.out HB2.out) L5.out HCK.out (HG.out.below HB2.out)).mono ?_
  rintro e3 w3 ⟨rfl, hb3⟩
  have HB3 := Aside0.mk (below_step HB2.out hb3)
  have K3 := Aside0.mk (blk_below K2.out hb3)
  clear hb3 HB2 K2 p0 p1 p2 p3 p4 p5 p6 p7 p8 p9 p10 p11
  by_cases hz : r = 0
  case neg =>
    have hz2 : (r != 0) = true := bne_iff_ne.2 hz
    clear hz
    go_wp2_with fail
    go_ret
    exact ⟨rfl, HB3.out⟩
  subst hz
  obtain ⟨n, hS⟩ := sound_of HCK.out
  obtain ⟨tx, htx, hfl⟩ := fields_own hS
  have HF1 := Aside0.mk (from_own hS HCK.out tx htx (kindFd n) (.inl rfl))
  have HF2 := Aside0.mk (from_own hS HCK.out tx htx (kindFd n).reverse (.inr rfl))
  rw [List.map_reverse] at HF2
  obtain ⟨l, hl⟩ : ∃ l, l = (kindFd n).map (rowOf tx) := ⟨_, rfl⟩
  rw [← hl] at HF1 HF2 hfl
  have hlen : l.length ≤ 4 := by rw [hl, List.length_map]; exact (kindFd_pos n hS.lt).2
  have HLEN := Aside0.mk hlen
  have HFL := Aside0.mk hfl
  clear hl hlen hfl htx hS HCK
  obtain ⟨nm, hnm⟩ : ∃ nm, nm = (kAt n).1 := ⟨_, rfl⟩
  rw [← hnm] at HF1 HF2 HFL
  clear hnm
  obtain ⟨p0, p1, p2, p3, p4, p5, p6, p7, p8, p9, p10, p11⟩ := feat_cells K3.out
  go_wp2_with fail
  refine (Fields_any F.id F.kind F.onT A3 c3 F.onA F.andT A5 c5 F.andA F.sketch F.amount F.count F.x F.y F.z nm l _ (Kd.C_below R3.out HB3.out) L3.out (Kd.C_below R5.out HB3.out) L5.out HFL.out (HG.out.below HB3.out)).mono ?_
  rintro e4 w4 ⟨v4, rfl, hr4, hb4⟩
  have HR4 := Aside0.mk (Kd.R_lower hr4 (below_size HB3.out))
  have HB4 := Aside0.mk (below_step HB3.out hb4)
  have K4 := Aside0.mk (blk_below K3.out hb4)
  clear hb4 hr4 HB3 K3 HFL p0 p1 p2 p3 p4 p5 p6 p7 p8 p9 p10 p11
  obtain ⟨A4, c4, e4⟩ := Kd.R_slice HR4.out
  subst e4
  go_wp2_with fail
  rw [show wrap64 ((l.length : Int) - 1) = (l.length : Int) - 1 by have := HLEN.out; unfold wrap64; omega]
  go_loopw [5, 6] (fun v i wr => ∃ m : Nat, i = .int .i64 ((m : Int) - 1) ∧ m ≤ l.length ∧ Aside0 (Kd.R k45 45 wr w.heap.size (fun k_ => some k_ ≠ (.slice A4 l.length c4 : Value).ownBlock) v (l.drop m).reverse) ∧ Aside0 (Kd.R k45 45 wr w.heap.size (fun k_ => some k_ ≠ (v : Value).ownBlock) (.slice A4 l.length c4) l) ∧ Aside0 (wr.heap[w.heap.size]? = some (.cells (featCells F (.slice A3 F.onA.length c3) (.slice A5 F.andA.length c5)) 30 (0, 0))) ∧ Aside0 (Below w.heap.size w wr))
    (fun _ i _ => (intOf i + 1).toNat)
  case atStart => exact ⟨l.length, rfl, Nat.le_refl _, ⟨by rw [List.drop_length]; exact Kd.R_nil _ _ _ _ _⟩, ⟨Kd.R_mono HR4.out (fun k_ _ => by simp [Value.ownBlock])⟩, K4, HB4⟩
  case round =>
    obtain ⟨m, rfl, hm, HT, HR, HK, HB⟩ := hrel
    clear HR4 K4 HB4
    by_cases hlt : 1 ≤ m
    · have p189 : 0 ≤ (m : Int) - 1 := by omega
      have q189 : (m : Int) - 1 < (l.length : Int) := by omega
      obtain ⟨ad, e9, x0, x1⟩ := at_T45 (Kd.R_reads' HR.out).2.2 ((m : Int) - 1) p189 q189
      subst e9
      rw [show ((m : Int) - 1).toNat = m - 1 by omega] at x0 x1
      have hdrop : (l.drop (m - 1)).reverse = (l.drop m).reverse ++ [(⟨(rd_T45 l ((m : Int) - 1)).f0, (rd_T45 l ((m : Int) - 1)).f1⟩ : S45)] := by
        have e : rd_T45 l ((m : Int) - 1) = l[m - 1] := by
          unfold rd_T45
          rw [show ((m : Int) - 1).toNat = m - 1 by omega, List.getD_eq_getElem?_getD, List.getElem?_eq_getElem (by omega)]
          rfl
        rw [List.drop_eq_getElem_cons (i := m - 1) (by omega), List.reverse_cons, show m - 1 + 1 = m by omega, e]
      have HD := Aside0.mk hdrop
      have hge : decide (0 ≤ (m : Int) - 1) = true := decide_eq_true p189
      have w1_ : wrap64 ((m : Int) - 1 - 1) = ((m - 1 : Nat) : Int) - 1 := by have := HLEN.out; unfold wrap64; omega
      have W1 := Aside0.mk w1_
      clear hdrop w1_
      replace p189 := eq_true p189
      replace q189 := eq_true q189
      go_wp2_with (first | ((with_reducible refine gate_builtin (b := .append) (xs := #[.tmp 33, .tmp 38]) rfl ?_); at_builtin; refine Kd.R_append k45 (w0 := w) w.heap.size rfl (.tmp 33) (.tmp 38) 22 45 (.agg #[(.string ⟨#[]⟩), (.string ⟨#[]⟩)]) 32 rfl Tryz.underlying22 info45 rfl (by decide) (by decide) u5 (l.drop m).reverse (⟨(rd_T45 l ((m : Int) - 1)).f0, (rd_T45 l ((m : Int) - 1)).f1⟩ : S45) [.string ((rd_T45 l ((m : Int) - 1)).f0), .string ((rd_T45 l ((m : Int) - 1)).f1)] (fun k_ => some k_ ≠ (.slice (some ad) l.length c4 : Value).ownBlock) (fun _ => False) rfl rfl (k45_mkM _ _ _ _) (fun _ hk => hk.elim) (fun k_ hk => Kd.fresh' (Kd.R_lt (by (with_reducible repeat apply Kd.R_alloc); exact HR.out)) k_ hk) (by (with_reducible repeat apply Kd.R_alloc); exact HT.out) (by (with_reducible repeat apply below_alloc); exact HB.out) (below_size (by (with_reducible repeat apply below_alloc); exact HB.out)) (by have := HLEN.out; rw [List.length_reverse, List.length_drop]; omega) ?_; intro v1 w5 ho hb hg hat; have HO := Aside0.mk ho; have HBb := Aside0.mk hb; have HGg := Aside0.mk hg; have HAt := Aside0.mk hat; clear ho hb hg hat))
      have ho := HO.out
      have hb := HBb.out
      have hg := HGg.out
      have hat := HAt.out
      rw [← HD.out] at ho
      have hg' : wr.grownBy w5 (u5 : Value).ownBlock := hg
      have hat' : v1.ownBlock = (u5 : Value).ownBlock ∨ ∃ b, v1.ownBlock = some b ∧ wr.heap.size ≤ b := hat
      clear hg hat
      have n0_ := Aside0.mk (push_keep HR.out hg' hat')
      have n1_ := Aside0.mk (push_blk HT.out HK.out hg')
      have n2_ := Aside0.mk hb
      have n3_ := Aside0.mk ho
      go_roundw
      case rel => exact ⟨m - 1, by rw [W1.out], Nat.le_trans (Nat.sub_le _ _) hm, n3_, n0_, n1_, n2_⟩
      case measure => rw [W1.out]; simp only [intOf]; omega
    · obtain rfl : m = 0 := by omega
      have HT2 : Aside0 (Kd.R k45 45 wr w.heap.size (fun k_ => some k_ ≠ (.slice A4 l.length c4 : Value).ownBlock) u5 l.reverse) := HT
      obtain ⟨lr, hlr⟩ : ∃ lr, lr = l.reverse := ⟨_, rfl⟩
      rw [← hlr] at HT2 HF2
      clear hlr
      obtain ⟨A6, c6, e6⟩ := Kd.R_slice HT2.out
      subst e6
      clear HT
      have h3 : F.onA.length < 4611686018427387904 := by have := wt_length F.onA; have := HBIG.out; unfold FT.wt at this; omega
      have h5 : F.andA.length < 4611686018427387904 := by have := wt_length F.andA; have := HBIG.out; unfold FT.wt at this; omega
      have H3 := Aside0.mk h3
      have H5 := Aside0.mk h5
      clear h3 h5
      obtain ⟨p0, p1, p2, p3, p4, p5, p6, p7, p8, p9, p10, p11⟩ := feat_cells HK.out
      go_wp2_with fail
      obtain ⟨-, hc4, hC4⟩ := Kd.R_reads' HR.out
      refine (FromFields_any kc F.id nm A4 c4 l (F, 0) _ hC4 hc4 HF1.out (HG.out.below HB.out)).mono ?_
      rintro e8 w8 ⟨v3, v5, rfl, y3, y5, hb8⟩
      obtain ⟨-, hc6, hC6⟩ := Kd.R_reads' HT2.out
      have HB8 := Aside0.mk (below_step HB.out hb8)
      have K8 := Aside0.mk (blk_below HK.out hb8)
      have HC6 := Aside0.mk (Kd.C_below hC6 hb8)
      have L6 := Aside0.mk hc6
      obtain ⟨B3, d3, rfl, -⟩ := Kd.Q_slice y3
      obtain ⟨B5, d5, rfl, -⟩ := Kd.Q_slice y5
      have Q3 := Aside0.mk y3
      have Q5 := Aside0.mk y5
      clear hb8 hC4 hc4 hC6 hc6 HB HK HR HT2 p0 p1 p2 p3 p4 p5 p6 p7 p8 p9 p10 p11 y3 y5 HF1
      obtain ⟨p0, p1, p2, p3, p4, p5, p6, p7, p8, p9, p10, p11⟩ := feat_cells' K8.out
      go_wp2_with fail
      have HBA := Aside0.mk (below_step HB8.out (below_alloc (Below.refl w8.heap.size w8) (.cells (featCells F (.slice B3 F.onA.length d3) (.slice B5 F.andA.length d5)) 30)))
      have KF := Aside0.mk (blk_new w8 (.cells (featCells F (.slice B3 F.onA.length d3) (.slice B5 F.andA.length d5)) 30))
      have KA := Aside0.mk (blk_alloc K8.out (.cells (featCells F (.slice B3 F.onA.length d3) (.slice B5 F.andA.length d5)) 30))
      refine (FromFields_any kc F.id nm A6 c6 lr (F, 0) _ (Kd.C_alloc HC6.out _) L6.out HF2.out (HG.out.below HBA.out)).mono ?_
      rintro e9 w9 ⟨z3, z5, rfl, y3, y5, hb9⟩
      have HB9 := Aside0.mk (below_step HBA.out hb9)
      have K9 := Aside0.mk (blk_below KA.out hb9)
      have KF9 := Aside0.mk (blk_below KF.out hb9)
      have Q39 := Aside0.mk (Kd.Q_below (Kd.Q_alloc Q3.out (.cells (featCells F (.slice B3 F.onA.length d3) (.slice B5 F.andA.length d5)) 30)) hb9)
      have Q59 := Aside0.mk (Kd.Q_below (Kd.Q_alloc Q5.out (.cells (featCells F (.slice B3 F.onA.length d3) (.slice B5 F.andA.length d5)) 30)) hb9)
      obtain ⟨D3, g3, rfl, -⟩ := Kd.Q_slice y3
      obtain ⟨D5, g5, rfl, -⟩ := Kd.Q_slice y5
      have Y3 := Aside0.mk y3
      have Y5 := Aside0.mk y5
      clear hb9 y3 y5 p0 p1 p2 p3 p4 p5 p6 p7 p8 p9 p10 p11 HBA KF KA HC6 L6 HF2 Q3 Q5 K8 HB8
      obtain ⟨p0, p1, p2, p3, p4, p5, p6, p7, p8, p9, p10, p11⟩ := feat_cells' K9.out
      obtain ⟨q0, q1, q2, q3, q4, q5, q6, q7, q8, q9, q10, q11⟩ := feat_cells' KF9.out
      go_wp2_with fail
      have HBZ := Aside0.mk (below_step HB9.out (below_alloc (Below.refl w9.heap.size w9) (.cells (featCells F (.slice D3 F.onA.length g3) (.slice D5 F.andA.length g5)) 30)))
      have KZ := Aside0.mk (blk_alloc K9.out (.cells (featCells F (.slice D3 F.onA.length g3) (.slice D5 F.andA.length g5)) 30))
      have KD := Aside0.mk (blk_new w9 (.cells (featCells F (.slice D3 F.onA.length g3) (.slice D5 F.andA.length g5)) 30))
      have QZ3 := Aside0.mk (Kd.Q_alloc Y3.out (.cells (featCells F (.slice D3 F.onA.length g3) (.slice D5 F.andA.length g5)) 30))
      have QZ5 := Aside0.mk (Kd.Q_alloc Y5.out (.cells (featCells F (.slice D3 F.onA.length g3) (.slice D5 F.andA.length g5)) 30))
      refine (same_walk F A3 c3 A5 c5 B3 d3 B5 d5 _ (Kd.C_below R3.out HBZ.out) L3.out (Kd.C_below R5.out HBZ.out) L5.out (Kd.C_alloc (Kd.Q_reads' Q39.out).2.2 _) (Kd.Q_reads' Q39.out).2.1 (Kd.C_alloc (Kd.Q_reads' Q59.out).2.2 _) (Kd.Q_reads' Q59.out).2.1 H3.out H5.out).mono ?_
      rintro e10 w10 ⟨rfl, hb10⟩
      have HBX := Aside0.mk (below_step HBZ.out hb10)
      have KX := Aside0.mk (blk_below KZ.out hb10)
      have KY := Aside0.mk (blk_below KD.out hb10)
      have QX3 := Aside0.mk (Kd.Q_below QZ3.out hb10)
      have QX5 := Aside0.mk (Kd.Q_below QZ5.out hb10)
      clear hb10 p0 p1 p2 p3 p4 p5 p6 p7 p8 p9 p10 p11 q0 q1 q2 q3 q4 q5 q6 q7 q8 q9 q10 q11 HBZ KZ KD QZ3 QZ5 K9 KF9 HB9 Q39 Q59 Y3 Y5
      obtain ⟨p0, p1, p2, p3, p4, p5, p6, p7, p8, p9, p10, p11⟩ := feat_cells KX.out
      obtain ⟨q0, q1, q2, q3, q4, q5, q6, q7, q8, q9, q10, q11⟩ := feat_cells KY.out
      go_wp2_with fail
      refine (same_walk F A3 c3 A5 c5 D3 g3 D5 g5 _ (Kd.C_below R3.out HBX.out) L3.out (Kd.C_below R5.out HBX.out) L5.out (Kd.Q_reads' QX3.out).2.2 (Kd.Q_reads' QX3.out).2.1 (Kd.Q_reads' QX5.out).2.2 (Kd.Q_reads' QX5.out).2.1 H3.out H5.out).mono ?_
      rintro e11 w11 ⟨rfl, hb11⟩
      have HBW := Aside0.mk (below_step HBX.out hb11)
      clear hb11
      go_wp2_with fail
      go_ret
      exact ⟨rfl, HBW.out⟩

end Go.Proofs.YtoccbcfjbingbaaGreatDoor.X30

namespace Go.Proofs.YtoccbcfjbingbaaGreatDoor.X30
open Go hiding Fd
open Go.RowKit Go.Shelf Go.Proofs.YtoccbcfjbingbaaGreatDoorW.PrintWords Go.Proofs.YtoccbcfjbingbaaGreatDoorW.PrintLast Go.Proofs.YtoccbcfjbingbaaGreatDoorW.PrintMore Go.Proofs.YtoccbcfjbingbaaGreatDoor.P30

theorem RoundTrip_all (y0 : S30) (cs0 : Array Value) (W : World) (k0 : k30.K W y0 cs0.toList) (b0 : wt30 y0 ≤ 1048576) (hG : Env W) :
    Calls Tryz.prog 5 #[.agg cs0] W fun e w' => e = .returned (.bool true) ∧ Below W.heap.size W w' := by
  obtain ⟨A3, c3, A5, c5, rfl, h3, l3, h5, l5⟩ := feat_arg k0
  exact RoundTrip_walk (ftOf y0) A3 c3 A5 c5 W h3 l3 h5 l5 (Nat.le_trans (ftOf_wt y0) (by omega)) hG

end Go.Proofs.YtoccbcfjbingbaaGreatDoor.X30
