/- FeatureFields, walked. -/
import Derived.Test.YtoccbcfjbingbaaGreatDoorP30f
import Derived.Test.YtoccbcfjbingbaaGreatDoorFeatW
import Derived.Test.YtoccbcfjbingbaaGreatDoorX30x20
import Derived.Test.YtoccbcfjbingbaaGreatDoorX30x19
namespace Go.Proofs.YtoccbcfjbingbaaGreatDoor.X30
open Go hiding Fd
open Go.RowKit Go.Shelf Go.Proofs.YtoccbcfjbingbaaGreatDoorW.PrintWords Go.Proofs.YtoccbcfjbingbaaGreatDoorW.PrintLast Go.Proofs.YtoccbcfjbingbaaGreatDoorW.PrintMore Go.Proofs.YtoccbcfjbingbaaGreatDoor.P30
set_option linter.unusedVariables false
set_option linter.unusedSimpArgs false

/-- A feature's cells, behind one block more. -/
theorem feat_cellsA {w : World} {g : Nat} {F : FT} {v3 v5 : Value} (h : w.heap[g]? = some (.cells (featCells F v3 v5) 30 (0, 0))) : (∀ o, (w.alloc o).cell? ⟨g, 0, none⟩ = some (.string F.id)) ∧ (∀ o, (w.alloc o).cell? ⟨g, 1, none⟩ = some (.int .i64 F.kind)) ∧ (∀ o, (w.alloc o).cell? ⟨g, 2, none⟩ = some (.string F.onT)) ∧ (∀ o, (w.alloc o).cell? ⟨g, 3, none⟩ = some (v3)) ∧ (∀ o, (w.alloc o).cell? ⟨g, 4, none⟩ = some (.string F.andT)) ∧ (∀ o, (w.alloc o).cell? ⟨g, 5, none⟩ = some (v5)) ∧ (∀ o, (w.alloc o).cell? ⟨g, 6, none⟩ = some (.string F.sketch)) ∧ (∀ o, (w.alloc o).cell? ⟨g, 7, none⟩ = some (.string F.amount)) ∧ (∀ o, (w.alloc o).cell? ⟨g, 8, none⟩ = some (.string F.count)) ∧ (∀ o, (w.alloc o).cell? ⟨g, 9, none⟩ = some (.string F.x)) ∧ (∀ o, (w.alloc o).cell? ⟨g, 10, none⟩ = some (.string F.y)) ∧ (∀ o, (w.alloc o).cell? ⟨g, 11, none⟩ = some (.string F.z)) :=
  ⟨fun o => (blk_cell (blk_alloc h o) 0).trans rfl, fun o => (blk_cell (blk_alloc h o) 1).trans rfl, fun o => (blk_cell (blk_alloc h o) 2).trans rfl, fun o => (blk_cell (blk_alloc h o) 3).trans rfl, fun o => (blk_cell (blk_alloc h o) 4).trans rfl, fun o => (blk_cell (blk_alloc h o) 5).trans rfl, fun o => (blk_cell (blk_alloc h o) 6).trans rfl, fun o => (blk_cell (blk_alloc h o) 7).trans rfl, fun o => (blk_cell (blk_alloc h o) 8).trans rfl, fun o => (blk_cell (blk_alloc h o) 9).trans rfl, fun o => (blk_cell (blk_alloc h o) 10).trans rfl, fun o => (blk_cell (blk_alloc h o) 11).trans rfl⟩


theorem empty_row {w : World} {base : Nat} (hb : base ≤ w.heap.size) {ok : Nat → Prop} (hok : ∀ k, w.heap.size ≤ k → ok k) : Kd.R k45 45 (w.alloc (.cells #[] 45)) base ok (.slice (some ⟨w.heap.size, 0, none⟩) 0 0) [] := by
  refine ⟨fun k hk => ?_, [], ⟨rfl, .inr ⟨w.heap.size, 0, #[], rfl, hb, heap_alloc_new _ _, Nat.le_refl _, by decide, by simp, by simp⟩⟩, Reps.none _ _⟩
  have : w.heap.size = k := by simpa [Value.ownBlock] using hk
  exact hok k (by omega)
theorem row_made {W w : World} {base : Nat} {ok : Nat → Prop} {x : S45} {cs : List Value} (h : k45.K W x cs) : k45.M w base ok x cs := by
  obtain rfl := k45_open h
  exact k45_mkM _ _ _ _

theorem same_fields_l0 (l : List S45) (hl : l.length < 4611686018427387904) : ∀ (m i : Nat), i + m = l.length → ∀ k, m < k → voussoirlaw30_sameFields.l0 k l l (i : Int) = some true := by
  intro m
  induction m with
  | zero =>
    intro i hi k hk
    obtain ⟨k, rfl⟩ : ∃ n, k = n + 1 := ⟨k - 1, by omega⟩
    simp only [voussoirlaw30_sameFields.l0]
    rw [if_neg (by omega)]
  | succ m ih =>
    intro i hi k hk
    obtain ⟨k, rfl⟩ : ∃ n, k = n + 1 := ⟨k - 1, by omega⟩
    simp only [voussoirlaw30_sameFields.l0]
    rw [if_pos (by omega), if_pos (by omega), if_pos (by omega), if_neg (by simp), show wrap64 ((i : Int) + 1) = ((i + 1 : Nat) : Int) by unfold wrap64; omega]
    exact ih (i + 1) (by omega) k (by omega)
theorem same_fields (l : List S45) (hl : l.length < 4611686018427387904) : voussoirlaw30_sameFields.f (l.length + 2) l l = some true := by
  unfold voussoirlaw30_sameFields.f
  rw [if_pos rfl]
  exact same_fields_l0 l hl l.length 0 (by omega) _ (by omega)

theorem same_call (l : List S45) (A0 : Option Addr) (c0 : Nat) (A1 : Option Addr) (n c1 : Nat) (w : World) (hn : l.length = n) (hr0 : Kd.C k45 w A0 l.length l) (hc0 : l.length ≤ c0) (hr1 : Kd.C k45 w A1 l.length l) (hc1 : l.length ≤ c1) (hl : l.length < 4611686018427387904) :
    Calls Tryz.prog 21 #[.slice A0 l.length c0, .slice A1 n c1] w fun e w' => e = .returned (.bool true) ∧ Drawn0 w w' := by
  subst hn
  exact voussoirlaw30_sameFields.calls (l.length + 2) A0 c0 l A1 c1 l true w hr0 hc0 hr1 hc1 (same_fields l hl)

set_option maxHeartbeats 3200000 in
set_option maxRecDepth 100000 in
theorem Fields_walk (F : FT) (k1 : Int) (a2 : ByteArray) (A3 : Option Addr) (c3 : Nat) (A5 : Option Addr) (c5 : Nat) (w : World) (hr3 : Kd.C Kd.string w A3 F.onA.length F.onA) (hc3 : F.onA.length ≤ c3) (hr5 : Kd.C Kd.string w A5 F.andA.length F.andA) (hc5 : F.andA.length ≤ c5)
    (hbig : FT.wt F ≤ 1000000000) (hk0 : 0 ≤ k1) (hk1 : k1 < 256) (hG : Env w) :
    Calls Tryz.prog 8 #[.agg (featCells F (.slice A3 F.onA.length c3) (.slice A5 F.andA.length c5)), .int .u8 k1, .string a2] w fun e w' => e = .returned (.bool true) ∧ Below w.heap.size w w' := by
  obtain ⟨kg, hgr⟩ := great_ev F hbig
  have HGR := Aside0.mk hgr
  have HG := Aside0.mk hG
  have R3 := Aside0.mk hr3
  have R5 := Aside0.mk hr5
  have L3 := Aside0.mk hc3
  have L5 := Aside0.mk hc5
  have HBIG := Aside0.mk hbig
  have HK0 := Aside0.mk hk0
  have HK1 := Aside0.mk hk1
  have HB0 := Aside0.mk (below_alloc (Below.refl w.heap.size w) (.cells (featCells F (.slice A3 F.onA.length c3) (.slice A5 F.andA.length c5)) 30))
  have K0 := Aside0.mk (blk_new w (.cells (featCells F (.slice A3 F.onA.length c3) (.slice A5 F.andA.length c5)) 30))
  clear hgr hG hr3 hr5 hc3 hc5 hbig
  go_enter Tryz.func8, Tryz.ntmps8
  go_wp2_with fail
  refine (alive_any _ (HG.out.below HB0.out)).mono ?_
  rintro e1 w1 ⟨rfl, hb1⟩
  have HB1 := Aside0.mk (below_step HB0.out hb1)
  have K1 := Aside0.mk (blk_below K0.out hb1)
  clear hb1 HB0 K0
  obtain ⟨p0, p1, p2, p3, p4, p5, p6, p7, p8, p9, p10, p11⟩ := feat_cells K1.out
  go_wp2_with fail
  refine (voussoirref30_Great.calls kg F.id F.kind F.onT A3 c3 F.onA F.andT A5 c5 F.andA F.sketch F.amount F.count F.x F.y F.z (greatOf F) _ (Kd.C_below R3.out HB1.out) L3.out (Kd.C_below R5.out HB1.out) L5.out HGR.out).mono ?_
  rintro e2 w2 ⟨rfl, hb2⟩
  have HB2 := Aside0.mk (below_step HB1.out hb2)
  have K2 := Aside0.mk (blk_below K1.out hb2)
  clear hb2 HB1 K1 p0 p1 p2 p3 p4 p5 p6 p7 p8 p9 p10 p11 HGR
  by_cases hgt : FT.wt F > 5000
  · have hg1 : greatOf F = 1 := if_pos hgt
    rw [hg1]
    go_wp2_with fail
    go_ret
    exact ⟨rfl, HB2.out⟩
  have hg0 : greatOf F = 0 := if_neg hgt
  rw [hg0]
  obtain ⟨r, kc, hc⟩ : ∃ r k, checkOf k F = some r := by
    obtain ⟨r, hr⟩ := checkOf_ev F (by omega)
    obtain ⟨k, hk⟩ := hr.rounds
    exact ⟨r, k, hk⟩
  have HCK := Aside0.mk hc
  have HW := Aside0.mk (Nat.le_of_not_lt hgt)
  clear hc hg0 hgt
  obtain ⟨p0, p1, p2, p3, p4, p5, p6, p7, p8, p9, p10, p11⟩ := feat_cells K2.out
  go_wp2_with fail
  refine (Check_walk kc F A3 c3 A5 c5 r _ (Kd.C_below R3.out HB2.out) L3.out (Kd.C_below R5.out HB2.out) L5.out HCK.out (HG.out.below HB2.out)).mono ?_
  rintro e3 w3 ⟨rfl, hb3⟩
  have HB3 := Aside0.mk (below_step HB2.out hb3)
  have K3 := Aside0.mk (blk_below K2.out hb3)
  clear hb3 HB2 K2 p0 p1 p2 p3 p4 p5 p6 p7 p8 p9 p10 p11
  by_cases hz : r = 0
  case neg =>
    have hz2 : (r != 0) = true := bne_iff_ne.2 hz
    clear hz
    go_wp2_with fail
    go_ret
    exact ⟨rfl, HB3.out⟩
  subst hz
  by_cases h100 : 100 < a2.size
  · have h100' : (100 : Int) < (a2.size : Int) := by omega
    clear h100
    go_wp2_with fail
    go_ret
    exact ⟨rfl, HB3.out⟩
  have h100' : ¬ (100 : Int) < (a2.size : Int) := by omega
  obtain ⟨n, hS⟩ := sound_of HCK.out
  obtain ⟨tx, htx, hfl⟩ := fields_own hS
  have hk4 := kindFd_pos n hS.lt
  obtain ⟨l, hl⟩ : ∃ l, l = (kindFd n).map (rowOf tx) := ⟨_, rfl⟩
  have hlen : l.length = (kindFd n).length := by rw [hl, List.length_map]
  have hSet : ∀ (i : Nat) (s : ByteArray), i < ((kindFd n).map (rowOf tx)).length → s.size ≤ 1000 → ∀ f0, (∀ d, ((kindFd n).map (rowOf tx))[i]? = some d → f0 = d.f0) → ∃ K' p, fromFields K' F.id (kAt n).1 (((kindFd n).map (rowOf tx)).set i ⟨f0, s⟩) = some p ∧ ((p.2 ≠ 0 ∧ p.1 = FT.zero) ∨ (p.2 = 0 ∧ fieldsOf p.1 = some ((kAt n).1, ((kindFd n).map (rowOf tx)).set i ⟨f0, s⟩))) := by
    intro i s hi hs f0 hf0
    have hik : i < (kindFd n).length := by rw [List.length_map] at hi; exact hi
    obtain rfl := hf0 (rowOf tx (kindFd n)[i]) (by rw [List.getElem?_map, List.getElem?_eq_getElem hik]; rfl)
    exact from_set HCK.out hS HW.out tx htx i hik s hs
  rw [← hl] at hSet
  obtain ⟨kz, hzoe⟩ := from_id HCK.out hS HW.out tx htx sZoe (by decide) idZoe
  have hfz : fieldsOf (withId F sZoe) = some ((kAt n).1, l) := by rw [fields_id, hfl, hl]
  rw [← hl] at hfl hzoe
  obtain ⟨nm, hnm⟩ : ∃ nm, nm = (kAt n).1 := ⟨_, rfl⟩
  rw [← hnm] at hfl hSet hzoe hfz
  have hl4 : l.length ≤ 4 := by omega
  have hl0 : 0 < l.length := by omega
  have HL4 := Aside0.mk hl4
  have HL0 := Aside0.mk hl0
  have HSET := Aside0.mk hSet
  have HZ := Aside0.mk hzoe
  have HFZ := Aside0.mk hfz
  have HFL := Aside0.mk hfl
  clear hl hlen hfl htx hS HCK hnm hSet hzoe hfz hl4 hk4
  obtain ⟨p0, p1, p2, p3, p4, p5, p6, p7, p8, p9, p10, p11⟩ := feat_cells K3.out
  go_wp2_with fail
  refine (Fields_any F.id F.kind F.onT A3 c3 F.onA F.andT A5 c5 F.andA F.sketch F.amount F.count F.x F.y F.z nm l _ (Kd.C_below R3.out HB3.out) L3.out (Kd.C_below R5.out HB3.out) L5.out HFL.out (HG.out.below HB3.out)).mono ?_
  rintro e4 w4 ⟨v4, rfl, hr4, hb4⟩
  have HR4 := Aside0.mk (Kd.R_lower hr4 (below_size HB3.out))
  have HB4 := Aside0.mk (below_step HB3.out hb4)
  have K4 := Aside0.mk (blk_below K3.out hb4)
  clear hb4 hr4 HB3 K3 HFL p0 p1 p2 p3 p4 p5 p6 p7 p8 p9 p10 p11
  obtain ⟨A4, c4, e4⟩ := Kd.R_slice HR4.out
  subst e4
  have hl0' : ((l.length : Int) ≠ 0) := by omega
  obtain ⟨-, hc4, hC4⟩ := Kd.R_reads' HR4.out
  have HC4 := Aside0.mk hC4
  have LC4 := Aside0.mk hc4
  clear hC4 hc4
  obtain ⟨i, hi, hie⟩ : ∃ i : Nat, i < l.length ∧ k1 % (l.length : Int) = (i : Int) := ⟨(k1 % (l.length : Int)).toNat, by have := Int.emod_lt_of_pos k1 (show (0 : Int) < l.length by omega); have := Int.emod_nonneg k1 hl0'; omega, by have := Int.emod_nonneg k1 hl0'; omega⟩
  obtain ⟨I0, hrem⟩ : ∃ I0, k1 % (l.length : Int) = I0 := ⟨_, rfl⟩
  rw [hrem] at hie
  have hI0 : (0 : Int) ≤ I0 := by omega
  have hI1 : I0 < (l.length : Int) := by omega
  have hIt : I0.toNat = i := by omega
  obtain ⟨d0, hd0⟩ : ∃ d, l[i]? = some d := ⟨_, List.getElem?_eq_getElem hi⟩
  obtain ⟨ll, hll⟩ : ∃ ll, ll = l.set i ⟨d0.f0, a2⟩ := ⟨_, rfl⟩
  obtain ⟨kR, pr, hpr, hcase⟩ := HSET.out i a2 hi (by omega) d0.f0 (fun d hd => by rw [hd0] at hd; rw [Option.some.inj hd])
  rw [← hll] at hpr hcase
  have hget : l.getD i z45 = d0 := by rw [List.getD_eq_getElem?_getD, hd0]; rfl
  have HP := Aside0.mk hpr
  have HCS := Aside0.mk hcase
  have HIT := Aside0.mk hIt
  have HGET := Aside0.mk hget
  have HLL := Aside0.mk hll
  have hllen : ll.length = l.length := by rw [hll, List.length_set]
  have HLN := Aside0.mk hllen
  have HI0 := Aside0.mk hI0
  have HI1 := Aside0.mk hI1
  replace hI0 := eq_true hI0
  replace hI1 := eq_true hI1
  clear hIt hd0 hll hpr hcase hget hllen hie HSET h100 h100'
  go_wp2_with (first | ((with_reducible refine gate_builtin (b := .append) (xs := #[.tmp 44, .tmp 45]) rfl ?_); at_builtin; refine Kd.R_append_rows k45 (w0 := w4) w4.heap.size rfl (.tmp 44) (.tmp 45) 22 45 (.agg #[.string ⟨#[]⟩, .string ⟨#[]⟩]) 32 rfl Tryz.underlying22 info45 rfl (by decide) (by decide) (.slice (some ⟨w4.heap.size, 0, none⟩) 0 0) [] l A4 l.length c4 (fun _ => True) (fun _ => False) rfl rfl (empty_row (Nat.le_refl _) (fun _ _ => trivial)) (Kd.C_alloc HC4.out _) (fun _ _ h_ => row_made h_) (fun _ h_ => h_.elim) (fun _ _ => trivial) (below_alloc (Below.refl _ _) _) (below_size (below_alloc (Below.refl w4.heap.size w4) (.cells #[] 45))) (by have := HL4.out; simp only [List.length_nil]; omega) ?_; intro v1 w5 ho hb hg hat; rw [List.nil_append] at ho; have HO1 := Aside0.mk ho; have HB5 := Aside0.mk hb; clear ho hb hg hat; obtain ⟨g, cp, e1, hg4, hg5, -⟩ := Kd.R_form HO1.out HL0.out; subst e1; obtain ⟨cc, hcl, hcM, hcc, -⟩ := Kd.R_elem HO1.out z45 I0 HI0.out HI1.out; rw [HIT.out, HGET.out] at hcM; obtain rfl := k45_openM hcM; have HCC := Aside0.mk hcc; clear hcM hcc hcl hg4 hg5; have K5 := Aside0.mk (blk_below K4.out HB5.out)) | ((with_reducible refine gate_ (.store 9 (.tmp 51) (.tmp 49)) rfl ?_); refine Kd.R_store k45 (w0 := w4) (W := w5) w4.heap.size rfl rfl 9 (.tmp 51) (.tmp 49) rfl 45 (g := g) (n := l.length) (cap := cp) I0 1 l (⟨d0.f0, a2⟩ : S45) (.string a2) [.string a2] [.string d0.f0, .string d0.f1] (fun _ => True) (fun _ => False) rfl ?hoff rfl rfl (by kernel_rfl) (fun q hq => by obtain rfl := List.mem_singleton.1 hq; rfl) HO1.out HI0.out HI1.out rfl HCC.out (Nat.le_refl 2) (k45_mkM _ _ _ (⟨d0.f0, a2⟩ : S45)) (fun _ h_ => h_.elim) HB5.out ?_; (case hoff => rfl); intro w6 ho hb hgr; have K6 := Aside0.mk (blk_grown K5.out hgr (Kd.R_ne HO1.out K5.out (by decide))); rw [HIT.out, ← HLL.out] at ho; have HO2 := Aside0.mk ho; have HB6 := Aside0.mk hb; clear ho hb hgr; obtain ⟨p0, p1, p2, p3, p4, p5, p6, p7, p8, p9, p10, p11⟩ := feat_cells K6.out))
  have HBT := Aside0.mk (below_step HB4.out HB6.out)
  obtain ⟨-, hcp, hCm⟩ := Kd.R_reads' HO2.out
  rw [← HLN.out] at hcp
  have hff := FromFields_any kR F.id nm (some ⟨g, 0, none⟩) cp ll pr _ hCm hcp HP.out (HG.out.below HBT.out)
  rw [HLN.out] at hff
  have HCP := Aside0.mk hcp
  have HM6 := Aside0.mk hCm
  have HL6 := Aside0.mk (Kd.C_below HC4.out HB6.out)
  clear hcp hCm p0 p1 p2 p3 p4 p5 p6 p7 p8 p9 p10 p11
  refine hff.mono ?_
  clear hff
  rintro e7 w7 ⟨v3, v5, rfl, y3, y5, hb7⟩
  have HB7 := Aside0.mk (below_step HBT.out hb7)
  have HM7 := Aside0.mk (Kd.C_below HM6.out hb7)
  have HL7 := Aside0.mk (Kd.C_below HL6.out hb7)
  obtain ⟨B3, d3, rfl, -⟩ := Kd.Q_slice y3
  obtain ⟨B5, d5, rfl, -⟩ := Kd.Q_slice y5
  have Q3 := Aside0.mk y3
  have Q5 := Aside0.mk y5
  have hcase := HCS.out
  clear hb7 y3 y5 HBT HO2 HB6 K6 HO1 HB5 K5 HCC HP HCS HM6 HL6 K4 HB4 HR4
  obtain ⟨G, eG⟩ := pr
  simp only at hcase
  rcases hcase with ⟨hne, rfl⟩ | ⟨rfl, hfG⟩
  · have hz2 : (eG != 0) = true := bne_iff_ne.2 hne
    have hzi : FT.zero.id = ⟨#[]⟩ := rfl
    have hzk : FT.zero.kind = 0 := rfl
    clear hne
    go_wp2_with fail
    go_ret
    exact ⟨rfl, below_alloc HB7.out _⟩
  have HFG := Aside0.mk hfG
  clear hfG
  go_wp2_with fail
  have HB8 := Aside0.mk (below_step HB7.out (below_alloc (Below.refl w7.heap.size w7) (.cells (featCells G (.slice B3 G.onA.length d3) (.slice B5 G.andA.length d5)) 30)))
  refine (Fields_any G.id G.kind G.onT B3 d3 G.onA G.andT B5 d5 G.andA G.sketch G.amount G.count G.x G.y G.z nm ll _ (Kd.C_alloc (Kd.Q_reads' Q3.out).2.2 _) (Kd.Q_reads' Q3.out).2.1 (Kd.C_alloc (Kd.Q_reads' Q5.out).2.2 _) (Kd.Q_reads' Q5.out).2.1 HFG.out (HG.out.below HB8.out)).mono ?_
  rintro e8 w8 ⟨v8, rfl, hr8, hb8⟩
  have HB9 := Aside0.mk (below_step HB8.out hb8)
  have HM8 := Aside0.mk (Kd.C_below (Kd.C_alloc HM7.out (.cells (featCells G (.slice B3 G.onA.length d3) (.slice B5 G.andA.length d5)) 30)) hb8)
  have HL8 := Aside0.mk (Kd.C_below (Kd.C_alloc HL7.out (.cells (featCells G (.slice B3 G.onA.length d3) (.slice B5 G.andA.length d5)) 30)) hb8)
  obtain ⟨A8, c8, e8'⟩ := Kd.R_slice hr8
  subst e8'
  obtain ⟨-, hc8, hC8⟩ := Kd.R_reads' hr8
  have HN8 := Aside0.mk hC8
  have LN8 := Aside0.mk hc8
  clear hr8 hb8 hC8 hc8 HB8 HB7 HM7 HL7 Q3 Q5 HFG
  go_wp2_with fail
  refine (FromFields_any kz sZoe nm A4 c4 l (withId F sZoe, 0) _ HL8.out LC4.out HZ.out (HG.out.below HB9.out)).mono ?_
  rintro e9 w9 ⟨z3, z5, rfl, y3, y5, hb9⟩
  have HB10 := Aside0.mk (below_step HB9.out hb9)
  have HM9 := Aside0.mk (Kd.C_below HM8.out hb9)
  have HL9 := Aside0.mk (Kd.C_below HL8.out hb9)
  have HN9 := Aside0.mk (Kd.C_below HN8.out hb9)
  obtain ⟨E3, g3, rfl, -⟩ := Kd.Q_slice y3
  obtain ⟨E5, g5, rfl, -⟩ := Kd.Q_slice y5
  have Q3 := Aside0.mk y3
  have Q5 := Aside0.mk y5
  clear hb9 y3 y5 HB9 HM8 HL8 HN8 HZ
  go_wp2_with fail
  have HB11 := Aside0.mk (below_step HB10.out (below_alloc (Below.refl w9.heap.size w9) (.cells (featCells (withId F sZoe) (.slice E3 (withId F sZoe).onA.length g3) (.slice E5 (withId F sZoe).andA.length g5)) 30)))
  refine (Fields_any (withId F sZoe).id (withId F sZoe).kind (withId F sZoe).onT E3 g3 (withId F sZoe).onA (withId F sZoe).andT E5 g5 (withId F sZoe).andA (withId F sZoe).sketch (withId F sZoe).amount (withId F sZoe).count (withId F sZoe).x (withId F sZoe).y (withId F sZoe).z nm l _ (Kd.C_alloc (Kd.Q_reads' Q3.out).2.2 _) (Kd.Q_reads' Q3.out).2.1 (Kd.C_alloc (Kd.Q_reads' Q5.out).2.2 _) (Kd.Q_reads' Q5.out).2.1 HFZ.out (HG.out.below HB11.out)).mono ?_
  rintro e10 w10 ⟨v10, rfl, hr10, hb10⟩
  have HB12 := Aside0.mk (below_step HB11.out hb10)
  have HM10 := Aside0.mk (Kd.C_below (Kd.C_alloc HM9.out (.cells (featCells (withId F sZoe) (.slice E3 (withId F sZoe).onA.length g3) (.slice E5 (withId F sZoe).andA.length g5)) 30)) hb10)
  have HL10 := Aside0.mk (Kd.C_below (Kd.C_alloc HL9.out (.cells (featCells (withId F sZoe) (.slice E3 (withId F sZoe).onA.length g3) (.slice E5 (withId F sZoe).andA.length g5)) 30)) hb10)
  have HN10 := Aside0.mk (Kd.C_below (Kd.C_alloc HN9.out (.cells (featCells (withId F sZoe) (.slice E3 (withId F sZoe).onA.length g3) (.slice E5 (withId F sZoe).andA.length g5)) 30)) hb10)
  obtain ⟨A10, c10, e10'⟩ := Kd.R_slice hr10
  subst e10'
  obtain ⟨-, hc10, hC10⟩ := Kd.R_reads' hr10
  have HO10 := Aside0.mk hC10
  have LO10 := Aside0.mk hc10
  clear hr10 hb10 hC10 hc10 HB11 HB10 HM9 HL9 HN9 Q3 Q5 HFZ
  go_wp2_with fail
  refine (same_call ll A8 c8 (some ⟨g, 0, none⟩) l.length cp w10 HLN.out HN10.out LN8.out HM10.out HCP.out (by have := HLN.out; have := HL4.out; omega)).mono ?_
  rintro e11 w11 ⟨rfl, hd11⟩
  have hb11 := hd11.below
  have HB13 := Aside0.mk (below_step HB12.out hb11)
  have HL11 := Aside0.mk (Kd.C_below HL10.out hb11)
  have HO11 := Aside0.mk (Kd.C_below HO10.out hb11)
  clear hd11 hb11 HB12 HL10 HO10 HN10 HM10
  go_wp2_with fail
  refine (voussoirlaw30_sameFields.calls (l.length + 2) A10 c10 l A4 c4 l true w11 HO11.out LO10.out HL11.out LC4.out (same_fields l (by have := HL4.out; omega))).mono ?_
  rintro e12 w12 ⟨rfl, hd12⟩
  have HB14 := Aside0.mk (below_step HB13.out hd12.below)
  clear hd12
  go_wp2_with fail
  go_ret
  exact ⟨rfl, HB14.out⟩

theorem Fields_all (y0 : S30) (cs0 : Array Value) (a1 : Int) (a2 : ByteArray) (W : World) (k0 : k30.K W y0 cs0.toList) (b0 : wt30 y0 ≤ 1048576) (w1 : (Lit.int .u8 a1).wf = true) (w2 : a2.size ≤ 140737488351232) (hG : Env W) :
    Calls Tryz.prog 8 #[.agg cs0, .int .u8 a1, .string a2] W fun e w' => e = .returned (.bool true) ∧ Below W.heap.size W w' := by
  obtain ⟨A3, c3, A5, c5, rfl, h3, l3, h5, l5⟩ := feat_arg k0
  have hr : 0 ≤ a1 ∧ a1 < 256 := by have h := w1; simp [Lit.wf, IntKind.min, IntKind.max, IntKind.signed, IntKind.bits] at h; omega
  exact Fields_walk (ftOf y0) a1 a2 A3 c3 A5 c5 W h3 l3 h5 l5 (Nat.le_trans (ftOf_wt y0) (by omega)) hr.1 hr.2 hG

end Go.Proofs.YtoccbcfjbingbaaGreatDoor.X30
