/- The example of the chapter on features: what FromFields and Check come to there. -/
import Derived.Test.YtoccbcfjbingbaaGreatDoorP27all
import Derived.Test.YtoccbcfjbingbaaGreatDoorFeatF
namespace Go.Proofs.YtoccbcfjbingbaaGreatDoor.P30
open Go Go.RowKit Go.Lib Go.Proofs.YtoccbcfjbingbaaGreatDoorW.PrintWords Go.Proofs.YtoccbcfjbingbaaGreatDoorW.PrintLast Go.Proofs.YtoccbcfjbingbaaGreatDoor.X30 Go.Proofs.Facename Go.Proofs.YtoccbcfjbingbaaGreatDoor.P27
def sGround : ByteArray := ⟨#[103, 114, 111, 117, 110, 100]⟩
def sAnn : ByteArray := ⟨#[97, 110, 110, 46, 51]⟩
def sMirror : ByteArray := ⟨#[109, 105, 114, 114, 111, 114]⟩
theorem split_ground : strings_Split.f sGround ⟨#[124]⟩ = some [sGround] := by decide +kernel
theorem check_ground (k : Nat) : resolve_Check.f (k + 2) sGround [] = some 0 := by
 have h : sGround.toList = [103, 114, 111, 117, 110, 100] := by decide +kernel
 unfold resolve_Check.f
 rw [if_pos h]
 simp only [resolve_Check.j0]
 rw [if_neg Bool.false_ne_true]
 simp only [resolve_Check.l0]
 rw [if_neg (by decide)]
theorem parse_ground (k : Nat) : resolve_Parse.f (k + 2) sGround = some (sGround, [], true) := by
 unfold resolve_Parse.f
 rw [split_ground, Option.bind_some]
 simp only
 rw [check_ground, Option.bind_some, if_pos rfl]
theorem format_ground : resolve_Format.f sGround [] = some sGround := by decide +kernel
def fMirror : FT := { FT.zero with id := sAnn, kind := 4, onT := sGround }
theorem side_ev (a0 : ByteArray) (h0 : a0.size ≤ 100000) : ∃ r : ByteArray × Int, Ev (fun k => facename_New.f k a0 sSide 0) r ∧ ((r.2 = 0 ∧ IdP a0.data.toList) ∨ (r.2 = 7 ∧ ¬ IdP a0.data.toList)) := by
 refine ⟨_, new_ev a0 sSide 0 h0 (by decide), ?_⟩
 unfold newR
 by_cases hI : IdP a0.data.toList
 · rw [if_pos ⟨hI, roleSide⟩, if_pos (by decide)]; exact .inl ⟨rfl, hI⟩
 · rw [if_neg (fun h => hI h.1)]; exact .inr ⟨rfl, hI⟩
theorem check_mirror : Ev (fun k => checkOf k fMirror) 0 := by
 obtain ⟨r, ⟨K, e⟩, h⟩ := side_ev sAnn (by decide)
 have hr : r.2 = 0 := by
  rcases h with h | h
  · exact h.1
  · exact absurd idAnn h.2
 refine ⟨K + 2, fun k hk => ?_⟩
 obtain ⟨k, rfl⟩ : ∃ m, k = m + 2 := ⟨k - 2, by omega⟩
 have hp := parse_ground k
 have hn : facename_New.f (k + 2) fMirror.id sSide 0 = some r := e (k + 2) (by omega)
 show checkOf (k + 2) fMirror = some 0
 unfold checkOf
 rw [hn, Option.bind_some, if_pos hr, if_pos (by decide), show (fMirror.kind - 1).toNat = 3 from rfl, if_neg (by decide +kernel)]
 show soundAll (k + 2) fMirror [.on] = some 0
 unfold soundAll soundOf
 rw [show textOf fMirror .on = some sGround from format_ground, Option.bind_some]
 unfold badOf
 rw [if_pos (show Fd.isRef .on = true from rfl), hp, Option.map_some, Option.bind_some]
 simp only [show fMirror.refT .on = sGround from rfl, show fMirror.refA .on = [] from rfl, decide_true, Bool.and_self, Bool.not_true, Bool.false_eq_true, if_false]
 rw [show lastOf (k + 2) fMirror .on sGround = some 0 by unfold lastOf; rw [if_neg (by decide +kernel), if_neg (by decide +kernel)]; rfl]
 rfl
theorem from_mirror : Ev (fun k => fromFields k sAnn sMirror [⟨sOn, sGround⟩]) (fMirror, 0) := by
 obtain ⟨K, e⟩ := check_mirror
 refine ⟨K + 2, fun k hk => ?_⟩
 obtain ⟨k, rfl⟩ : ∃ m, k = m + 2 := ⟨k - 2, by omega⟩
 have hp := parse_ground k
 have hc : checkOf (k + 2) fMirror = some 0 := e (k + 2) (by omega)
 have hk : kindNo sMirror = (4, true) := by decide +kernel
 show fromFields (k + 2) sAnn sMirror [⟨sOn, sGround⟩] = _
 unfold fromFields
 rw [hk]
 simp only [if_true]
 have hm : memS (kAt 3).2 sOn = true := by decide +kernel
 have hf : fill (k + 2) 3 (FT.start sAnn 4) [] [⟨sOn, sGround⟩] = some (.inl (fMirror, [sOn])) := by
  unfold fill
  simp only
  rw [if_pos hm, if_neg (show ¬ (memS [] sOn = true) by decide), show fdOf sOn = some .on by kernel_rfl, Option.bind_some]
  unfold setOf
  rw [if_pos (show Fd.isRef .on = true from rfl), hp]
  rfl
 rw [show ((4 : Int) - 1).toNat = 3 from rfl, hf, Option.bind_some]
 simp only
 rw [if_neg (by decide), hc, Option.bind_some, if_pos rfl]
theorem from_none (k : Nat) : fromFields k sAnn sMirror [] = some (FT.zero, 9) := by
 have hk : kindNo sMirror = (4, true) := by decide +kernel
 unfold fromFields
 rw [hk]
 rfl
end Go.Proofs.YtoccbcfjbingbaaGreatDoor.P30
namespace Go.Proofs.YtoccbcfjbingbaaGreatDoor.X30
open Go Go.RowKit Go.Shelf Go.Proofs.YtoccbcfjbingbaaGreatDoorW.PrintWords Go.Proofs.YtoccbcfjbingbaaGreatDoorW.PrintLast Go.Proofs.YtoccbcfjbingbaaGreatDoorW.PrintMore
set_option linter.unusedVariables false
set_option maxHeartbeats 1600000 in
set_option maxRecDepth 100000 in
theorem alive_walk (k : Nat) (F : FT) (w : World) (hf : fromFields k (⟨#[97, 110, 110, 46, 51]⟩ : ByteArray) (⟨#[109, 105, 114, 114, 111, 114]⟩ : ByteArray) [⟨(⟨#[111, 110]⟩ : ByteArray), (⟨#[103, 114, 111, 117, 110, 100]⟩ : ByteArray)⟩] = some (F, 0))
 (hz : fromFields k (⟨#[97, 110, 110, 46, 51]⟩ : ByteArray) (⟨#[109, 105, 114, 114, 111, 114]⟩ : ByteArray) [] = some (FT.zero, 9)) (hc : checkOf k F = some 0)
 (c1 : (F.kind == 4) = true) (c2 : (F.onT.toList == ([103, 114, 111, 117, 110, 100] : List UInt8)) = true) (c3 : (F.id.toList == ([97, 110, 110, 46, 51] : List UInt8)) = true) (hG : Env w) :
 Calls Tryz.prog 9 #[] w fun e w' => e = .returned (.bool true) ∧ Below w.heap.size w w' := by
 have HF := Aside0.mk hf
 have HZ := Aside0.mk hz
 have HCK := Aside0.mk hc
 have HG := Aside0.mk hG
 clear hf hz hc hG
 go_enter Tryz.func9, Tryz.ntmps9
 go_wp2_with (first | ((with_reducible refine gate_dst (N := 7) rfl ?_); refine Kd.R_lit k45 _ 45 ?hg (N := 7) ?hd (xs := ([(⟨(⟨#[111, 110]⟩ : ByteArray), (⟨#[103, 114, 111, 117, 110, 100]⟩ : ByteArray)⟩ : S45)] : List (S45))) (inner := [.string (⟨#[111, 110]⟩ : ByteArray), .string (⟨#[103, 114, 111, 117, 110, 100]⟩ : ByteArray)]) (ok := fun _ => True) (okp := fun _ => True) ?hr ?hp (fun _ hk => hk) trivial (Below.refl _ _) (Nat.le_refl _) (by simp) ?_; (case hd => rfl); (case hg => rfl); (case hr => first | (go_simp; done) | (go_simp; rfl)); (case hp => exact (Reps.c2 (show Kd.M k45 _ _ _ (⟨(⟨#[111, 110]⟩ : ByteArray), (⟨#[103, 114, 111, 117, 110, 100]⟩ : ByteArray)⟩ : S45) [.string (⟨#[111, 110]⟩ : ByteArray), .string (⟨#[103, 114, 111, 117, 110, 100]⟩ : ByteArray)] from (k45_mkM _ _ _ (⟨(⟨#[111, 110]⟩ : ByteArray), (⟨#[103, 114, 111, 117, 110, 100]⟩ : ByteArray)⟩ : S45) )) (Reps.none _ _))); intro v1 w1 ho1 hb1 hg1 hnew1; have HR1 := Aside0.mk ho1; have HB1 := Aside0.mk hb1; clear hg1 hnew1 ho1 hb1; obtain ⟨A1, co1, eo1⟩ := Kd.R_slice HR1.out; subst eo1))
 obtain ⟨-, hcap, hC⟩ := Kd.R_reads' HR1.out
 refine (FromFields_any k _ _ A1 co1 [⟨(⟨#[111, 110]⟩ : ByteArray), (⟨#[103, 114, 111, 117, 110, 100]⟩ : ByteArray)⟩] (F, 0) w1 hC hcap HF.out (HG.out.below HB1.out)).mono ?_
 rintro e2 w2 ⟨v3, v5, rfl, q3, q5, hb2⟩
 have HB2 := Aside0.mk (below_step HB1.out hb2)
 have hz2 : w.heap.size ≤ w1.heap.size := below_size HB1.out
 clear hC hcap hb2 HR1
 obtain ⟨A3, c3_, rfl, -⟩ := Kd.Q_slice q3
 obtain ⟨A5, c5_, rfl, -⟩ := Kd.Q_slice q5
 have Q3 := Aside0.mk q3
 have Q5 := Aside0.mk q5
 clear q3 q5
 go_wp2_with fail
 have HBA := Aside0.mk (below_step HB2.out (below_alloc (Below.refl w2.heap.size w2) (.cells (featCells F (.slice A3 F.onA.length c3_) (.slice A5 F.andA.length c5_)) 30)))
 have HFB := Aside0.mk (blk_new w2 (.cells (featCells F (.slice A3 F.onA.length c3_) (.slice A5 F.andA.length c5_)) 30))
 refine (FromFields_any k _ _ none 0 [] (FT.zero, 9) _ (Kd.C_nil _ _) (Nat.le_refl _) HZ.out (HG.out.below HBA.out)).mono ?_
 rintro e3 w3 ⟨z3, z5, rfl, y3, y5, hb3⟩
 have HB3 := Aside0.mk (below_step HBA.out hb3)
 have HFB3 := Aside0.mk (blk_below HFB.out hb3)
 have HQ3 := Aside0.mk (Kd.Q_below (Kd.Q_alloc Q3.out _) hb3)
 have HQ5 := Aside0.mk (Kd.Q_below (Kd.Q_alloc Q5.out _) hb3)
 obtain ⟨Z3, d3_, rfl, -⟩ := Kd.Q_slice y3
 obtain ⟨Z5, d5_, rfl, -⟩ := Kd.Q_slice y5
 clear hb3 y3 y5 HFB HBA Q3 Q5
 obtain ⟨q0, q1, q2, q3, q4, q5, q6, q7, q8, q9, q10, q11⟩ := feat_cells HFB3.out
 have qf := blk_frozen HFB3.out
 have qa0 : ∀ o, (w3.alloc o).cell? ⟨w2.heap.size, 0, none⟩ = some (.string F.id) := fun o => (blk_cell (blk_alloc HFB3.out o) 0).trans rfl
 have qa1 : ∀ o, (w3.alloc o).cell? ⟨w2.heap.size, 1, none⟩ = some (.int .i64 F.kind) := fun o => (blk_cell (blk_alloc HFB3.out o) 1).trans rfl
 have qa2 : ∀ o, (w3.alloc o).cell? ⟨w2.heap.size, 2, none⟩ = some (.string F.onT) := fun o => (blk_cell (blk_alloc HFB3.out o) 2).trans rfl
 have qa3 : ∀ o, (w3.alloc o).cell? ⟨w2.heap.size, 3, none⟩ = some (.slice A3 F.onA.length c3_) := fun o => (blk_cell (blk_alloc HFB3.out o) 3).trans rfl
 have qa4 : ∀ o, (w3.alloc o).cell? ⟨w2.heap.size, 4, none⟩ = some (.string F.andT) := fun o => (blk_cell (blk_alloc HFB3.out o) 4).trans rfl
 have qa5 : ∀ o, (w3.alloc o).cell? ⟨w2.heap.size, 5, none⟩ = some (.slice A5 F.andA.length c5_) := fun o => (blk_cell (blk_alloc HFB3.out o) 5).trans rfl
 have qa6 : ∀ o, (w3.alloc o).cell? ⟨w2.heap.size, 6, none⟩ = some (.string F.sketch) := fun o => (blk_cell (blk_alloc HFB3.out o) 6).trans rfl
 have qa7 : ∀ o, (w3.alloc o).cell? ⟨w2.heap.size, 7, none⟩ = some (.string F.amount) := fun o => (blk_cell (blk_alloc HFB3.out o) 7).trans rfl
 have qa8 : ∀ o, (w3.alloc o).cell? ⟨w2.heap.size, 8, none⟩ = some (.string F.count) := fun o => (blk_cell (blk_alloc HFB3.out o) 8).trans rfl
 have qa9 : ∀ o, (w3.alloc o).cell? ⟨w2.heap.size, 9, none⟩ = some (.string F.x) := fun o => (blk_cell (blk_alloc HFB3.out o) 9).trans rfl
 have qa10 : ∀ o, (w3.alloc o).cell? ⟨w2.heap.size, 10, none⟩ = some (.string F.y) := fun o => (blk_cell (blk_alloc HFB3.out o) 10).trans rfl
 have qa11 : ∀ o, (w3.alloc o).cell? ⟨w2.heap.size, 11, none⟩ = some (.string F.z) := fun o => (blk_cell (blk_alloc HFB3.out o) 11).trans rfl
 go_wp2_with fail
 have HBZ := Aside0.mk (below_step HB3.out (below_alloc (Below.refl w3.heap.size w3) (.cells (featCells FT.zero (.slice Z3 0 d3_) (.slice Z5 0 d5_)) 30)))
 obtain ⟨A3', c3', e3', l3', r3'⟩ := Kd.Q_reads HQ3.out
 obtain ⟨A5', c5', e5', l5', r5'⟩ := Kd.Q_reads HQ5.out
 simp only [Value.slice.injEq] at e3' e5'
 obtain ⟨rfl, -, rfl⟩ := e3'
 obtain ⟨rfl, -, rfl⟩ := e5'
 refine (Check_walk k F A3 c3_ A5 c5_ 0 _ (Kd.C_alloc r3' _) l3' (Kd.C_alloc r5' _) l5' HCK.out (HG.out.below HBZ.out)).mono ?_
 rintro e4 w4 ⟨rfl, hb4⟩
 have HB4 := Aside0.mk (below_step HBZ.out hb4)
 clear hb4
 go_wp2_with fail
 go_ret
 exact ⟨rfl, HB4.out⟩
theorem alive_any (w : World) (hG : Env w) : Calls Tryz.prog 9 #[] w fun e w' => e = .returned (.bool true) ∧ Below w.heap.size w w' := by
 obtain ⟨K1, e1⟩ := P30.from_mirror
 obtain ⟨K2, e2⟩ := P30.check_mirror
 exact alive_walk (K1 + K2) P30.fMirror w (e1 (K1 + K2) (by omega)) (P30.from_none _) (e2 (K1 + K2) (by omega)) (by decide) (by decide +kernel) (by decide +kernel) hG
end Go.Proofs.YtoccbcfjbingbaaGreatDoor.X30
