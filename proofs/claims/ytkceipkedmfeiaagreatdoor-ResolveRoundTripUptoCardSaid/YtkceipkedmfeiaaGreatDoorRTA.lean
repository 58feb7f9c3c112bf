/- ResolveRoundTrip, walked: it answers true. ResolveRoundTrip at an argument that reads as data. -/
import Derived.Test.YtkceipkedmfeiaaGreatDoorP28
import Derived.Test.YtkceipkedmfeiaaGreatDoorUpA
import Derived.Test.YtkceipkedmfeiaaGreatDoorX30x2
import Derived.Test.YtkceipkedmfeiaaGreatDoorX30x7
import Derived.Deep.RegionHeld3
import Derived.Deep.DeepCutAuto
import Derived.Test.YtkceipkedmfeiaaGreatDoorOps
namespace Go.Proofs.YtkceipkedmfeiaaGreatDoor.X30
open Go hiding Fd
open Go.RowKit Go.Shelf Go.Proofs.YtkceipkedmfeiaaGreatDoorW.PrintWords Go.Proofs.YtkceipkedmfeiaaGreatDoorW.PrintLast Go.Proofs.YtkceipkedmfeiaaGreatDoorW.PrintMore Go.Proofs.YtkceipkedmfeiaaGreatDoor.P30
set_option linter.unusedVariables false

theorem held6 {w4 w' : World} {a0 a1 a2 a3 a4 a5 : Addr} {v0 v1 v2 v3 v4 v5 : Value} (hb : Below w4.heap.size w4 w') (h0 : w4.cell? a0 = some v0) (h1 : w4.cell? a1 = some v1) (h2 : w4.cell? a2 = some v2) (h3 : w4.cell? a3 = some v3) (h4 : w4.cell? a4 = some v4) (h5 : w4.cell? a5 = some v5) :
    w'.cell? a0 = some v0 ∧ w'.cell? a1 = some v1 ∧ w'.cell? a2 = some v2 ∧ w'.cell? a3 = some v3 ∧ w'.cell? a4 = some v4 ∧ w'.cell? a5 = some v5 :=
  ⟨(hb.cell (World.block_lt_of_cell? _ _ h0)).trans h0, (hb.cell (World.block_lt_of_cell? _ _ h1)).trans h1, (hb.cell (World.block_lt_of_cell? _ _ h2)).trans h2, (hb.cell (World.block_lt_of_cell? _ _ h3)).trans h3, (hb.cell (World.block_lt_of_cell? _ _ h4)).trans h4, (hb.cell (World.block_lt_of_cell? _ _ h5)).trans h5⟩

/-- The next operation of a region that yields its value in every world that meets S (the first that is not listed yet). -/
theorem tkW {P : Program} {md : Region.Mode} {ops : Array Oper} {Q : Exit → Act → World → Prop} {S : World → Prop} {i : Nat} {oi : Oper} {v : Value} {fuel : Nat} {listed : Array Bool} {a : Act} {w : World}
    (hv : ∀ w, S w → (execOp a.eval oi).run P w = .ok (.value v) w) (h : wpAnyH P md ops Q S fuel (listed.setIfInBounds i true) (a.put oi.dst v) w)
    (hx : (listed.toList.takeWhile id).length = i := by rfl) (hi : ops[i]? = some oi := by simp only [List.getElem?_toArray, List.getElem?_cons_succ, List.getElem?_cons_zero]; rfl) (hs : Region.noSelect ops = true := by kernel_rfl) (hf : Region.free md ops listed i = true := by kernel_rfl) (hr : (Region.ready md ops listed).contains i = true := by kernel_rfl)
    (hQ : ∀ c a w, Q (.panic c) (a.put oi.dst v) w → Q (.panic c) a w := by exact fun _ _ _ h => h) (hw : Region.wanted oi (yielded ops a.tmps) = true := by rfl) (hS : S w := by assumption) : wpAnyH P md ops Q S (fuel + 1) listed a w :=
  wpAnyH_take hi hs hf hr hQ (.inl ⟨hw, hv⟩) hS h
/-- .. that is not wanted. -/
theorem tkN {P : Program} {md : Region.Mode} {ops : Array Oper} {Q : Exit → Act → World → Prop} {S : World → Prop} {i : Nat} {oi : Oper} {fuel : Nat} {listed : Array Bool} {a : Act} {w : World}
    (h : wpAnyH P md ops Q S fuel (listed.setIfInBounds i true) (a.put oi.dst undef) w)
    (hx : (listed.toList.takeWhile id).length = i := by rfl) (hi : ops[i]? = some oi := by simp only [List.getElem?_toArray, List.getElem?_cons_succ, List.getElem?_cons_zero]; rfl) (hs : Region.noSelect ops = true := by kernel_rfl) (hf : Region.free md ops listed i = true := by kernel_rfl) (hr : (Region.ready md ops listed).contains i = true := by kernel_rfl)
    (hQ : ∀ c a w, Q (.panic c) (a.put oi.dst undef) w → Q (.panic c) a w := by exact fun _ _ _ h => h) (hw : Region.wanted oi (yielded ops a.tmps) = false := by rfl) (hS : S w := by assumption) : wpAnyH P md ops Q S (fuel + 1) listed a w :=
  wpAnyH_take hi hs hf hr hQ (.inr ⟨hw, rfl⟩) hS h

set_option maxHeartbeats 3200000 in
set_option maxRecDepth 100000 in
theorem RoundTrip_walk (T : ByteArray) (l : List ByteArray) (A : Option Addr) (c : Nat) (s : ByteArray) (w : World) (hr : Kd.C Kd.string w A l.length l) (hc : l.length ≤ c)
    (hbig : T.size + wt l ≤ 100000000) (hG : Env w) :
    Calls Tryz.prog 6 #[.agg #[.string T, .slice A l.length c], .string s] w fun e w' => e = .returned (.bool true) ∧ Below w.heap.size w w' := by
  have HGR := Aside0.mk (show T.size + XU.wt10 l < 4611686018427387904 ∧ l.length < 4611686018427387904 from by have := wt10_wt l; have := wt_length l; omega)
  have HG := Aside0.mk hG
  have R := Aside0.mk hr
  have L := Aside0.mk hc
  have HB0 := Aside0.mk (below_alloc (Below.refl w.heap.size w) (.cells #[.string T, .slice A l.length c] 26))
  have K0 := Aside0.mk (blk_new w (.cells #[.string T, .slice A l.length c] 26))
  have HBIG := Aside0.mk hbig
  clear hr hc hG hbig
  go_enter Tryz.func6, Tryz.ntmps6
  go_wp2_with fail
  refine (XU.Great_nil T l A c _ (Kd.C_below R.out HB0.out) HGR.out.1 HGR.out.2).mono ?_
  rintro e1 w1 ⟨rfl, hb1⟩
  have HB1 := Aside0.mk (below_step HB0.out hb1)
  have K1 := Aside0.mk (blk_below K0.out hb1)
  clear hb1 HB0 K0 HGR
  by_cases hg : T.size + XU.wt10 l > 2000
  · rw [show XU.greatOf T l = 1 from if_pos hg]
    clear hg
    go_wp2_with fail
    refine (XU.fixed_any _ (HG.out.below HB1.out).toL).mono ?_
    rintro e2 w2 ⟨rfl, hb2⟩
    have HB2 := Aside0.mk (below_step HB1.out hb2)
    clear hb2
    go_wp2_with fail
    go_ret
    exact ⟨rfl, HB2.out⟩
  rw [show XU.greatOf T l = 0 from if_neg hg]
  have hsm : T.size + wt l ≤ 2000 := by have := wt10_wt l; omega
  have HSM := Aside0.mk hsm
  clear hg hsm
  by_cases hs : 1000 < s.size
  · have hs1 : decide (1000 < (s.size : Int)) = true := decide_eq_true (by omega)
    have hs2 : decide (1000 < s.size) = true := decide_eq_true hs
    clear hs
    go_wp2_with fail
    refine (XU.fixed_any _ (HG.out.below HB1.out).toL).mono ?_
    rintro e2 w2 ⟨rfl, hb2⟩
    have HB2 := Aside0.mk (below_step HB1.out hb2)
    clear hb2
    go_wp2_with fail
    go_ret
    exact ⟨rfl, HB2.out⟩
  have hs1 : decide (1000 < (s.size : Int)) = false := decide_eq_false (by omega)
  have hs2 : decide (1000 < s.size) = false := decide_eq_false hs
  obtain ⟨t, rest, e, hsp, hchk, ⟨kp, hp⟩, ⟨kq, hq⟩⟩ := parse28 s (by omega)
  have HP := Aside0.mk (hp kp (Nat.le_refl _))
  have HQ := Aside0.mk (hq kq (Nat.le_refl _))
  have HBK := Aside0.mk (format_back s t rest (by omega) hsp)
  have HRL := Aside0.mk (show rest.length < 4611686018427387904 from by
    have h1 := congrArg List.length hsp
    have h2 := splitL_len s.data.toList
    have h3 := size_list' s
    simp only [List.map_cons, List.length_cons, List.length_map] at h1
    omega)
  obtain ⟨pt, pl, fl, hpq, hfl⟩ : ∃ (pt : ByteArray) (pl : List ByteArray) (fl : Bool), (if e = 0 then (t, rest, true) else ((⟨#[]⟩ : ByteArray), ([] : List ByteArray), false)) = (pt, pl, fl) ∧ (fl = true → pt = t ∧ pl = rest) := by
    by_cases he : e = 0
    · exact ⟨t, rest, true, if_pos he, fun _ => ⟨rfl, rfl⟩⟩
    · exact ⟨_, _, false, if_neg he, fun h => by cases h⟩
  have HPL := Aside0.mk (show pl.length < 4611686018427387904 from by
    have := HRL.out
    by_cases he : e = 0
    · rw [if_pos he] at hpq; obtain ⟨rfl, rfl, rfl⟩ := hpq; exact this
    · rw [if_neg he] at hpq; obtain ⟨rfl, rfl, rfl⟩ := hpq; decide)
  have HFB := Aside0.mk (show fl = true → resolve_Format.f pt pl = some s from fun h => by obtain ⟨rfl, rfl⟩ := hfl h; exact HBK.out)
  rw [hpq] at HP HQ
  clear hs hp hq hsp hchk hpq hfl HBK HRL
  go_wp2_with fail
  refine (resolve_Parse.calls kp s pt pl fl _ HP.out (HG.out.below HB1.out)).mono ?_
  rintro e2 w2 ⟨v2, rfl, hq2, hb2⟩
  obtain ⟨A2, c2, rfl, -⟩ := Kd.Q_slice hq2
  obtain ⟨-, hc2, hC2⟩ := Kd.Q_reads' hq2
  have K2 := Aside0.mk (blk_alloc (blk_below K1.out hb2) (.cells #[.string pt, .slice A2 pl.length c2] 26))
  have N2 := Aside0.mk (blk_new w2 (.cells #[.string pt, .slice A2 pl.length c2] 26))
  have HB2 := Aside0.mk (below_alloc (below_step HB1.out hb2) (.cells #[.string pt, .slice A2 pl.length c2] 26))
  have C2 := Aside0.mk (Kd.C_alloc hC2 (.cells #[.string pt, .slice A2 pl.length c2] 26))
  have L2 := Aside0.mk hc2
  clear hq2 hb2 hC2 hc2 HB1 K1 HP
  go_wp2_with fail
  refine (voussoirref28_Parse.calls kq s pt pl fl _ HQ.out).mono ?_
  rintro e3 w3 ⟨v3, rfl, hq3, hb3⟩
  obtain ⟨A3, c3, rfl, -⟩ := Kd.Q_slice hq3
  obtain ⟨-, hc3, hC3⟩ := Kd.Q_reads' hq3
  have K3 := Aside0.mk (blk_alloc (blk_below K2.out hb3) (.cells #[.string pt, .slice A3 pl.length c3] 26))
  have M3 := Aside0.mk (blk_alloc (blk_below N2.out hb3) (.cells #[.string pt, .slice A3 pl.length c3] 26))
  have N3 := Aside0.mk (blk_new w3 (.cells #[.string pt, .slice A3 pl.length c3] 26))
  have HB3 := Aside0.mk (below_alloc (below_step HB2.out hb3) (.cells #[.string pt, .slice A3 pl.length c3] 26))
  have C23 := Aside0.mk (Kd.C_alloc (Kd.C_below C2.out hb3) (.cells #[.string pt, .slice A3 pl.length c3] 26))
  have C33 := Aside0.mk (Kd.C_alloc hC3 (.cells #[.string pt, .slice A3 pl.length c3] 26))
  have L3 := Aside0.mk hc3
  clear hq3 hb3 hC3 hc3 HB2 K2 HQ C2 N2
  obtain ⟨w4, hw4⟩ : ∃ x, x = w3.alloc (.cells #[.string pt, .slice A3 pl.length c3] 26) := ⟨_, rfl⟩
  go_upto_region 5 with (fail)
  go_cut [61] (fun v61 wc => v61 = .bool false ∧ Aside0 (wc.heap[w.heap.size]? = some (.cells #[.string T, .slice A l.length c] 26 (0, 0))) ∧ Aside0 (Below w.heap.size w wc))
  case first =>
    obtain ⟨ke, hke⟩ : ∃ k, True := ⟨0, trivial⟩
    obtain ⟨ec, hec, hec'⟩ : ∃ r, Ev (fun k => resolve_Check.f k T l) r ∧ Ev (fun k => voussoirref28_Check.f k T l) r := by
      obtain ⟨r, h1, h2, -⟩ := checkRef_both T l (by have := wt_length l; have := HSM.out; omega)
      exact ⟨r, h1, h2⟩
    obtain ⟨k1, h1⟩ := hec
    obtain ⟨k2, h2⟩ := hec'
    have E1 := Aside0.mk (h1 k1 (Nat.le_refl _))
    have E2 := Aside0.mk (h2 k2 (Nat.le_refl _))
    obtain ⟨tx, ⟨k3, h3⟩, h4⟩ := text28 T l (by have := HSM.out; omega)
    have E3 := Aside0.mk (h3 k3 (Nat.le_refl _))
    have E4 := Aside0.mk h4
    have E5 := Aside0.mk (same28 pt pl HPL.out)
    clear h1 h2 h3 h4 hke ke
    obtain ⟨W, hW⟩ : ∃ x, x = w3.alloc (.cells #[.string pt, .slice A3 pl.length c3] 26) := ⟨_, rfl⟩
    rw [← hW]
    rw [← hW] at K3 M3 N3 HB3 C23 C33
    clear hW
    have X0 := Aside0.mk (show W.cell? ⟨w.heap.size, 0, none⟩ = some (.string T) from blk_cell K3.out 0)
    have X1 := Aside0.mk (show W.cell? ⟨w.heap.size, 1, none⟩ = some (.slice A l.length c) from blk_cell K3.out 1)
    have X2 := Aside0.mk (show W.cell? ⟨w2.heap.size, 0, none⟩ = some (.string pt) from blk_cell M3.out 0)
    have X3 := Aside0.mk (show W.cell? ⟨w2.heap.size, 1, none⟩ = some (.slice A2 pl.length c2) from blk_cell M3.out 1)
    have X4 := Aside0.mk (show W.cell? ⟨w3.heap.size, 0, none⟩ = some (.string pt) from blk_cell N3.out 0)
    have X5 := Aside0.mk (show W.cell? ⟨w3.heap.size, 1, none⟩ = some (.slice A3 pl.length c3) from blk_cell N3.out 1)
    have HW0 := Aside0.mk (Below.refl W.heap.size W)
    cases fl with
    | true =>
      have E6 := Aside0.mk (HFB.out rfl)
      clear HFB
      go_region_held3 (fun w' => w'.cell? ⟨w.heap.size, 0, none⟩ = some (.string T) ∧ w'.cell? ⟨w.heap.size, 1, none⟩ = some (.slice A l.length c) ∧ w'.cell? ⟨w2.heap.size, 0, none⟩ = some (.string pt) ∧ w'.cell? ⟨w2.heap.size, 1, none⟩ = some (.slice A2 pl.length c2) ∧ w'.cell? ⟨w3.heap.size, 0, none⟩ = some (.string pt) ∧ w'.cell? ⟨w3.heap.size, 1, none⟩ = some (.slice A3 pl.length c3))
        ((refine held6 (w4 := W) ?_ X0.out X1.out X2.out X3.out X4.out X5.out; (repeat (first | with_reducible exact HW6.out | with_reducible exact HW5.out | with_reducible exact HW4.out | with_reducible exact HW3.out | with_reducible exact HW2.out | with_reducible exact HW1.out | with_reducible exact HW0.out | with_reducible apply pw_below_drewN | with_reducible apply below_drew1))))
        (first | (go_at_call 16; (with_reducible refine (voussoirref28_Same.calls (pl.length + 2) pt A2 c2 pl pt A3 c3 pl true _ (Kd.C_below C23.out (by repeat (first | with_reducible exact HW6.out | with_reducible exact HW5.out | with_reducible exact HW4.out | with_reducible exact HW3.out | with_reducible exact HW2.out | with_reducible exact HW1.out | with_reducible exact HW0.out | with_reducible apply pw_below_drewN | with_reducible apply below_drew1))) L2.out (Kd.C_below C33.out (by repeat (first | with_reducible exact HW6.out | with_reducible exact HW5.out | with_reducible exact HW4.out | with_reducible exact HW3.out | with_reducible exact HW2.out | with_reducible exact HW1.out | with_reducible exact HW0.out | with_reducible apply pw_below_drewN | with_reducible apply below_drew1))) L3.out E5.out).mono ?_); rintro e_ w_1 ⟨rfl, hb_⟩; have HW1 := Aside0.mk (below_step (by repeat (first | with_reducible exact HW6.out | with_reducible exact HW5.out | with_reducible exact HW4.out | with_reducible exact HW3.out | with_reducible exact HW2.out | with_reducible exact HW1.out | with_reducible exact HW0.out | with_reducible apply pw_below_drewN | with_reducible apply below_drew1)) hb_); clear hb_) | (go_at_call 20; (with_reducible refine (resolve_Format.calls T A c l tx _ (Kd.C_below R.out (below_step HB3.out (by repeat (first | with_reducible exact HW6.out | with_reducible exact HW5.out | with_reducible exact HW4.out | with_reducible exact HW3.out | with_reducible exact HW2.out | with_reducible exact HW1.out | with_reducible exact HW0.out | with_reducible apply pw_below_drewN | with_reducible apply below_drew1)))) L.out E4.out).mono ?_); rintro e_ w_2 ⟨rfl, hb_⟩; have HW2 := Aside0.mk (below_step (by repeat (first | with_reducible exact HW6.out | with_reducible exact HW5.out | with_reducible exact HW4.out | with_reducible exact HW3.out | with_reducible exact HW2.out | with_reducible exact HW1.out | with_reducible exact HW0.out | with_reducible apply pw_below_drewN | with_reducible apply below_drew1)) hb_); clear hb_) | (go_at_call 20; (with_reducible refine (resolve_Format.calls pt A2 c2 pl s _ (Kd.C_below C23.out (by repeat (first | with_reducible exact HW6.out | with_reducible exact HW5.out | with_reducible exact HW4.out | with_reducible exact HW3.out | with_reducible exact HW2.out | with_reducible exact HW1.out | with_reducible exact HW0.out | with_reducible apply pw_below_drewN | with_reducible apply below_drew1))) L2.out E6.out).mono ?_); rintro e_ w_6 ⟨rfl, hb_⟩; have HW6 := Aside0.mk (below_step (by repeat (first | with_reducible exact HW6.out | with_reducible exact HW5.out | with_reducible exact HW4.out | with_reducible exact HW3.out | with_reducible exact HW2.out | with_reducible exact HW1.out | with_reducible exact HW0.out | with_reducible apply pw_below_drewN | with_reducible apply below_drew1)) hb_); clear hb_) | (go_at_call 21; (with_reducible refine (voussoirref28_Text.calls k3 T A c l tx _ (Kd.C_below R.out (below_step HB3.out (by repeat (first | with_reducible exact HW6.out | with_reducible exact HW5.out | with_reducible exact HW4.out | with_reducible exact HW3.out | with_reducible exact HW2.out | with_reducible exact HW1.out | with_reducible exact HW0.out | with_reducible apply pw_below_drewN | with_reducible apply below_drew1)))) L.out E3.out).mono ?_); rintro e_ w_3 ⟨rfl, hb_⟩; have HW3 := Aside0.mk (below_step (by repeat (first | with_reducible exact HW6.out | with_reducible exact HW5.out | with_reducible exact HW4.out | with_reducible exact HW3.out | with_reducible exact HW2.out | with_reducible exact HW1.out | with_reducible exact HW0.out | with_reducible apply pw_below_drewN | with_reducible apply below_drew1)) hb_); clear hb_) | (go_at_call 22; (with_reducible refine (resolve_Check.calls k1 T A c l ec _ (Kd.C_below R.out (below_step HB3.out (by repeat (first | with_reducible exact HW6.out | with_reducible exact HW5.out | with_reducible exact HW4.out | with_reducible exact HW3.out | with_reducible exact HW2.out | with_reducible exact HW1.out | with_reducible exact HW0.out | with_reducible apply pw_below_drewN | with_reducible apply below_drew1)))) L.out E1.out (HG.out.below (below_step HB3.out (by repeat (first | with_reducible exact HW6.out | with_reducible exact HW5.out | with_reducible exact HW4.out | with_reducible exact HW3.out | with_reducible exact HW2.out | with_reducible exact HW1.out | with_reducible exact HW0.out | with_reducible apply pw_below_drewN | with_reducible apply below_drew1))))).mono ?_); rintro e_ w_4 ⟨rfl, hb_⟩; have HW4 := Aside0.mk (below_step (by repeat (first | with_reducible exact HW6.out | with_reducible exact HW5.out | with_reducible exact HW4.out | with_reducible exact HW3.out | with_reducible exact HW2.out | with_reducible exact HW1.out | with_reducible exact HW0.out | with_reducible apply pw_below_drewN | with_reducible apply below_drew1)) hb_); clear hb_) | (go_at_call 23; (with_reducible refine (voussoirref28_Check.calls k2 T A c l ec _ (Kd.C_below R.out (below_step HB3.out (by repeat (first | with_reducible exact HW6.out | with_reducible exact HW5.out | with_reducible exact HW4.out | with_reducible exact HW3.out | with_reducible exact HW2.out | with_reducible exact HW1.out | with_reducible exact HW0.out | with_reducible apply pw_below_drewN | with_reducible apply below_drew1)))) L.out E2.out).mono ?_); rintro e_ w_5 ⟨rfl, hb_⟩; have HW5 := Aside0.mk (below_step (by repeat (first | with_reducible exact HW6.out | with_reducible exact HW5.out | with_reducible exact HW4.out | with_reducible exact HW3.out | with_reducible exact HW2.out | with_reducible exact HW1.out | with_reducible exact HW0.out | with_reducible apply pw_below_drewN | with_reducible apply below_drew1)) hb_); clear hb_))
      all_goals (try go_wp2_with fail)
      all_goals (go_meet; (case rel => exact ⟨rfl, ⟨blk_below K3.out (by repeat (first | with_reducible exact HW6.out | with_reducible exact HW5.out | with_reducible exact HW4.out | with_reducible exact HW3.out | with_reducible exact HW2.out | with_reducible exact HW1.out | with_reducible exact HW0.out | with_reducible apply pw_below_drewN | with_reducible apply below_drew1))⟩, ⟨below_step HB3.out (by repeat (first | with_reducible exact HW6.out | with_reducible exact HW5.out | with_reducible exact HW4.out | with_reducible exact HW3.out | with_reducible exact HW2.out | with_reducible exact HW1.out | with_reducible exact HW0.out | with_reducible apply pw_below_drewN | with_reducible apply below_drew1))⟩⟩))
    | false =>
      clear HFB
      refine wp_region_held_drew (S := (fun w' => w'.cell? ⟨w.heap.size, 0, none⟩ = some (.string T) ∧ w'.cell? ⟨w.heap.size, 1, none⟩ = some (.slice A l.length c) ∧ w'.cell? ⟨w2.heap.size, 0, none⟩ = some (.string pt) ∧ w'.cell? ⟨w2.heap.size, 1, none⟩ = some (.slice A2 pl.length c2) ∧ w'.cell? ⟨w3.heap.size, 0, none⟩ = some (.string pt) ∧ w'.cell? ⟨w3.heap.size, 1, none⟩ = some (.slice A3 pl.length c3))) (by kernel_rfl) ?_ (fun hHeld => ?_)
      · ((refine held6 (w4 := W) ?_ X0.out X1.out X2.out X3.out X4.out X5.out; (repeat (first | with_reducible exact HW6.out | with_reducible exact HW5.out | with_reducible exact HW4.out | with_reducible exact HW3.out | with_reducible exact HW2.out | with_reducible exact HW1.out | with_reducible exact HW0.out | with_reducible apply pw_below_drewN | with_reducible apply below_drew1))))
      iterate 2 (refine tkW (v := ?_) ?_ ?_; rotate_left; (intro w hSw; (try dsimp only at hSw); obtain ⟨q0, q1, q2, q3, q4, q5⟩ := hSw; go_simp; try with_reducible rfl); try simp only [Act.put, List.setIfInBounds_toArray, List.set_cons_zero, List.set_cons_succ])
      refine wpAnyH_ready (rs := [2]) (by kernel_rfl) (by simp) (AllReadyH.cons rfl (fun K hK => ?_) AllReadyH.nil)
      rw [if_pos (by rfl)]
      go_simp
      go_at_call 16; (with_reducible refine (voussoirref28_Same.calls (pl.length + 2) pt A2 c2 pl pt A3 c3 pl true _ (Kd.C_below C23.out (by repeat (first | with_reducible exact HW6.out | with_reducible exact HW5.out | with_reducible exact HW4.out | with_reducible exact HW3.out | with_reducible exact HW2.out | with_reducible exact HW1.out | with_reducible exact HW0.out | with_reducible apply pw_below_drewN | with_reducible apply below_drew1))) L2.out (Kd.C_below C33.out (by repeat (first | with_reducible exact HW6.out | with_reducible exact HW5.out | with_reducible exact HW4.out | with_reducible exact HW3.out | with_reducible exact HW2.out | with_reducible exact HW1.out | with_reducible exact HW0.out | with_reducible apply pw_below_drewN | with_reducible apply below_drew1))) L3.out E5.out).mono ?_); rintro e_ w_1 ⟨rfl, hb_⟩; have HW1 := Aside0.mk (below_step (by repeat (first | with_reducible exact HW6.out | with_reducible exact HW5.out | with_reducible exact HW4.out | with_reducible exact HW3.out | with_reducible exact HW2.out | with_reducible exact HW1.out | with_reducible exact HW0.out | with_reducible apply pw_below_drewN | with_reducible apply below_drew1)) hb_); clear hb_
      refine hK.out _ _ ?_ (fun hHeld2 => ?_)
      · ((refine held6 (w4 := W) ?_ X0.out X1.out X2.out X3.out X4.out X5.out; (repeat (first | with_reducible exact HW6.out | with_reducible exact HW5.out | with_reducible exact HW4.out | with_reducible exact HW3.out | with_reducible exact HW2.out | with_reducible exact HW1.out | with_reducible exact HW0.out | with_reducible apply pw_below_drewN | with_reducible apply below_drew1))))
      clear hK K hHeld; have hHeld := hHeld2; clear hHeld2
      try simp only [Act.put, List.setIfInBounds_toArray, List.set_cons_zero, List.set_cons_succ]
      iterate 8 (refine tkW (v := ?_) ?_ ?_; rotate_left; (intro w hSw; (try dsimp only at hSw); obtain ⟨q0, q1, q2, q3, q4, q5⟩ := hSw; go_simp; try with_reducible rfl); try simp only [Act.put, List.setIfInBounds_toArray, List.set_cons_zero, List.set_cons_succ])
      refine wpAnyH_take (i := 12) (v := ?_) (by simp only [List.getElem?_toArray, List.getElem?_cons_succ, List.getElem?_cons_zero]; rfl) (by kernel_rfl) (by kernel_rfl) (by kernel_rfl) (by exact fun _ _ _ h => h) (Or.inl ⟨by rfl, ?_⟩) (by assumption) ?_
      rotate_left
      · (intro w hSw; (try dsimp only at hSw); obtain ⟨q0, q1, q2, q3, q4, q5⟩ := hSw; go_simp; try with_reducible rfl)
      try simp only [Act.put, List.setIfInBounds_toArray, List.set_cons_zero, List.set_cons_succ]
      refine wpAnyH_ready (rs := [11]) (by kernel_rfl) (by simp) (AllReadyH.cons rfl (fun K hK => ?_) AllReadyH.nil)
      rw [if_pos (by rfl)]
      go_simp
      go_at_call 20; (with_reducible refine (resolve_Format.calls T A c l tx _ (Kd.C_below R.out (below_step HB3.out (by repeat (first | with_reducible exact HW6.out | with_reducible exact HW5.out | with_reducible exact HW4.out | with_reducible exact HW3.out | with_reducible exact HW2.out | with_reducible exact HW1.out | with_reducible exact HW0.out | with_reducible apply pw_below_drewN | with_reducible apply below_drew1)))) L.out E4.out).mono ?_); rintro e_ w_2 ⟨rfl, hb_⟩; have HW2 := Aside0.mk (below_step (by repeat (first | with_reducible exact HW6.out | with_reducible exact HW5.out | with_reducible exact HW4.out | with_reducible exact HW3.out | with_reducible exact HW2.out | with_reducible exact HW1.out | with_reducible exact HW0.out | with_reducible apply pw_below_drewN | with_reducible apply below_drew1)) hb_); clear hb_
      refine hK.out _ _ ?_ (fun hHeld2 => ?_)
      · ((refine held6 (w4 := W) ?_ X0.out X1.out X2.out X3.out X4.out X5.out; (repeat (first | with_reducible exact HW6.out | with_reducible exact HW5.out | with_reducible exact HW4.out | with_reducible exact HW3.out | with_reducible exact HW2.out | with_reducible exact HW1.out | with_reducible exact HW0.out | with_reducible apply pw_below_drewN | with_reducible apply below_drew1))))
      clear hK K hHeld; have hHeld := hHeld2; clear hHeld2
      try simp only [Act.put, List.setIfInBounds_toArray, List.set_cons_zero, List.set_cons_succ]
      refine wpAnyH_ready (rs := [13]) (by kernel_rfl) (by simp) (AllReadyH.cons rfl (fun K hK => ?_) AllReadyH.nil)
      rw [if_pos (by rfl)]
      go_simp
      go_at_call 21; (with_reducible refine (voussoirref28_Text.calls k3 T A c l tx _ (Kd.C_below R.out (below_step HB3.out (by repeat (first | with_reducible exact HW6.out | with_reducible exact HW5.out | with_reducible exact HW4.out | with_reducible exact HW3.out | with_reducible exact HW2.out | with_reducible exact HW1.out | with_reducible exact HW0.out | with_reducible apply pw_below_drewN | with_reducible apply below_drew1)))) L.out E3.out).mono ?_); rintro e_ w_3 ⟨rfl, hb_⟩; have HW3 := Aside0.mk (below_step (by repeat (first | with_reducible exact HW6.out | with_reducible exact HW5.out | with_reducible exact HW4.out | with_reducible exact HW3.out | with_reducible exact HW2.out | with_reducible exact HW1.out | with_reducible exact HW0.out | with_reducible apply pw_below_drewN | with_reducible apply below_drew1)) hb_); clear hb_
      refine hK.out _ _ ?_ (fun hHeld2 => ?_)
      · ((refine held6 (w4 := W) ?_ X0.out X1.out X2.out X3.out X4.out X5.out; (repeat (first | with_reducible exact HW6.out | with_reducible exact HW5.out | with_reducible exact HW4.out | with_reducible exact HW3.out | with_reducible exact HW2.out | with_reducible exact HW1.out | with_reducible exact HW0.out | with_reducible apply pw_below_drewN | with_reducible apply below_drew1))))
      clear hK K hHeld; have hHeld := hHeld2; clear hHeld2
      try simp only [Act.put, List.setIfInBounds_toArray, List.set_cons_zero, List.set_cons_succ]
      iterate 4 (refine tkW (v := ?_) ?_ ?_; rotate_left; (intro w hSw; (try dsimp only at hSw); obtain ⟨q0, q1, q2, q3, q4, q5⟩ := hSw; go_simp; try with_reducible rfl); try simp only [Act.put, List.setIfInBounds_toArray, List.set_cons_zero, List.set_cons_succ])
      refine wpAnyH_take (i := 19) (v := ?_) (by simp only [List.getElem?_toArray, List.getElem?_cons_succ, List.getElem?_cons_zero]; rfl) (by kernel_rfl) (by kernel_rfl) (by kernel_rfl) (by exact fun _ _ _ h => h) (Or.inl ⟨by rfl, ?_⟩) (by assumption) ?_
      rotate_left
      · (intro w hSw; (try dsimp only at hSw); obtain ⟨q0, q1, q2, q3, q4, q5⟩ := hSw; go_simp; try with_reducible rfl)
      try simp only [Act.put, List.setIfInBounds_toArray, List.set_cons_zero, List.set_cons_succ]
      refine wpAnyH_ready (rs := [18]) (by kernel_rfl) (by simp) (AllReadyH.cons rfl (fun K hK => ?_) AllReadyH.nil)
      rw [if_pos (by rfl)]
      go_simp
      go_at_call 22; (with_reducible refine (resolve_Check.calls k1 T A c l ec _ (Kd.C_below R.out (below_step HB3.out (by repeat (first | with_reducible exact HW6.out | with_reducible exact HW5.out | with_reducible exact HW4.out | with_reducible exact HW3.out | with_reducible exact HW2.out | with_reducible exact HW1.out | with_reducible exact HW0.out | with_reducible apply pw_below_drewN | with_reducible apply below_drew1)))) L.out E1.out (HG.out.below (below_step HB3.out (by repeat (first | with_reducible exact HW6.out | with_reducible exact HW5.out | with_reducible exact HW4.out | with_reducible exact HW3.out | with_reducible exact HW2.out | with_reducible exact HW1.out | with_reducible exact HW0.out | with_reducible apply pw_below_drewN | with_reducible apply below_drew1))))).mono ?_); rintro e_ w_4 ⟨rfl, hb_⟩; have HW4 := Aside0.mk (below_step (by repeat (first | with_reducible exact HW6.out | with_reducible exact HW5.out | with_reducible exact HW4.out | with_reducible exact HW3.out | with_reducible exact HW2.out | with_reducible exact HW1.out | with_reducible exact HW0.out | with_reducible apply pw_below_drewN | with_reducible apply below_drew1)) hb_); clear hb_
      refine hK.out _ _ ?_ (fun hHeld2 => ?_)
      · ((refine held6 (w4 := W) ?_ X0.out X1.out X2.out X3.out X4.out X5.out; (repeat (first | with_reducible exact HW6.out | with_reducible exact HW5.out | with_reducible exact HW4.out | with_reducible exact HW3.out | with_reducible exact HW2.out | with_reducible exact HW1.out | with_reducible exact HW0.out | with_reducible apply pw_below_drewN | with_reducible apply below_drew1))))
      clear hK K hHeld; have hHeld := hHeld2; clear hHeld2
      try simp only [Act.put, List.setIfInBounds_toArray, List.set_cons_zero, List.set_cons_succ]
      refine wpAnyH_ready (rs := [20]) (by kernel_rfl) (by simp) (AllReadyH.cons rfl (fun K hK => ?_) AllReadyH.nil)
      rw [if_pos (by rfl)]
      go_simp
      go_at_call 23; (with_reducible refine (voussoirref28_Check.calls k2 T A c l ec _ (Kd.C_below R.out (below_step HB3.out (by repeat (first | with_reducible exact HW6.out | with_reducible exact HW5.out | with_reducible exact HW4.out | with_reducible exact HW3.out | with_reducible exact HW2.out | with_reducible exact HW1.out | with_reducible exact HW0.out | with_reducible apply pw_below_drewN | with_reducible apply below_drew1)))) L.out E2.out).mono ?_); rintro e_ w_5 ⟨rfl, hb_⟩; have HW5 := Aside0.mk (below_step (by repeat (first | with_reducible exact HW6.out | with_reducible exact HW5.out | with_reducible exact HW4.out | with_reducible exact HW3.out | with_reducible exact HW2.out | with_reducible exact HW1.out | with_reducible exact HW0.out | with_reducible apply pw_below_drewN | with_reducible apply below_drew1)) hb_); clear hb_
      refine hK.out _ _ ?_ (fun hHeld2 => ?_)
      · ((refine held6 (w4 := W) ?_ X0.out X1.out X2.out X3.out X4.out X5.out; (repeat (first | with_reducible exact HW6.out | with_reducible exact HW5.out | with_reducible exact HW4.out | with_reducible exact HW3.out | with_reducible exact HW2.out | with_reducible exact HW1.out | with_reducible exact HW0.out | with_reducible apply pw_below_drewN | with_reducible apply below_drew1))))
      clear hK K hHeld; have hHeld := hHeld2; clear hHeld2
      try simp only [Act.put, List.setIfInBounds_toArray, List.set_cons_zero, List.set_cons_succ]
      iterate 5 (refine tkW (v := ?_) ?_ ?_; rotate_left; (intro w hSw; (try dsimp only at hSw); obtain ⟨q0, q1, q2, q3, q4, q5⟩ := hSw; go_simp; try with_reducible rfl); try simp only [Act.put, List.setIfInBounds_toArray, List.set_cons_zero, List.set_cons_succ])
      iterate 4 (refine tkN ?_; try simp only [Act.put, List.setIfInBounds_toArray, List.set_cons_zero, List.set_cons_succ])
      iterate 2 (refine tkW (v := ?_) ?_ ?_; rotate_left; (intro w hSw; (try dsimp only at hSw); obtain ⟨q0, q1, q2, q3, q4, q5⟩ := hSw; go_simp; try with_reducible rfl); try simp only [Act.put, List.setIfInBounds_toArray, List.set_cons_zero, List.set_cons_succ])
      refine wpAnyH_done (by kernel_rfl) ?_ _
      try go_wp2_with fail
      all_goals (go_meet; (case rel => exact ⟨rfl, ⟨blk_below K3.out (by repeat (first | with_reducible exact HW6.out | with_reducible exact HW5.out | with_reducible exact HW4.out | with_reducible exact HW3.out | with_reducible exact HW2.out | with_reducible exact HW1.out | with_reducible exact HW0.out | with_reducible apply pw_below_drewN | with_reducible apply below_drew1))⟩, ⟨below_step HB3.out (by repeat (first | with_reducible exact HW6.out | with_reducible exact HW5.out | with_reducible exact HW4.out | with_reducible exact HW3.out | with_reducible exact HW2.out | with_reducible exact HW1.out | with_reducible exact HW0.out | with_reducible apply pw_below_drewN | with_reducible apply below_drew1))⟩⟩))
  case rest =>
    obtain ⟨rfl, K4, HB4⟩ := hcut
    have x0 : _ = some (Value.string T) := blk_cell K4.out 0
    have x1 : _ = some (Value.slice A l.length c) := blk_cell K4.out 1
    clear K3 M3 N3 HB3 C23 C33 L2 L3 HFB HPL
    obtain ⟨ec, ⟨k1, h1⟩, ⟨k2, h2⟩⟩ : ∃ r, Ev (fun k => resolve_Check.f k T l) r ∧ Ev (fun k => voussoirref28_Check.f k T l) r := by
      obtain ⟨r, h1, h2, -⟩ := checkRef_both T l (by have := wt_length l; have := HSM.out; omega)
      exact ⟨r, h1, h2⟩
    have E2 := Aside0.mk (h2 k2 (Nat.le_refl _))
    obtain ⟨tx, -, h4⟩ := text28 T l (by have := HSM.out; omega)
    have htx : tx.size ≤ 10000 := by
      have := format_some T l (by have := HSM.out; omega)
      rw [this.1] at h4
      obtain rfl := Option.some.inj h4
      rw [P27.size_mk]
      have := HSM.out
      omega
    obtain ⟨qt, ql, bk, ⟨k3, h3⟩, hz⟩ : ∃ qt ql bk, Ev (fun k => resolve_Parse.f k tx) (qt, ql, bk) ∧ (ec = 0 → qt = T ∧ ql = l ∧ bk = true) := by
      by_cases he : ec = 0
      · obtain ⟨s', hs', hp'⟩ := parse_back T l (by have := HSM.out; omega) (he ▸ ⟨k1, h1⟩)
        rw [h4] at hs'
        obtain rfl := Option.some.inj hs'
        exact ⟨T, l, true, hp', fun _ => ⟨rfl, rfl, rfl⟩⟩
      · obtain ⟨t, rest, e, -, -, hp', -⟩ := parse28 tx (by omega)
        exact ⟨_, _, _, hp', fun h => absurd h he⟩
    have E3 := Aside0.mk (h3 k3 (Nat.le_refl _))
    have E4 := Aside0.mk h4
    have HZ := Aside0.mk hz
    clear h1 h2 h3 h4 hz htx
    go_wp2_with fail
    refine (resolve_Format.calls T A c l tx _ (Kd.C_below R.out HB4.out) L.out E4.out).mono ?_
    rintro e5 w5 ⟨rfl, hb5⟩
    have HB5 := Aside0.mk (below_step HB4.out hb5)
    have K5 := Aside0.mk (blk_below K4.out hb5)
    clear hb5 HB4 K4 x0 x1
    go_wp2_with fail
    refine (resolve_Parse.calls k3 tx qt ql bk _ E3.out (HG.out.below HB5.out)).mono ?_
    rintro e6 w6 ⟨v6, rfl, hq6, hb6⟩
    obtain ⟨A6, c6, rfl, -⟩ := Kd.Q_slice hq6
    obtain ⟨-, hc6, hC6⟩ := Kd.Q_reads' hq6
    have K6 := Aside0.mk (blk_alloc (blk_below K5.out hb6) (.cells #[.string qt, .slice A6 ql.length c6] 26))
    have N6 := Aside0.mk (blk_new w6 (.cells #[.string qt, .slice A6 ql.length c6] 26))
    have HB6 := Aside0.mk (below_alloc (below_step HB5.out hb6) (.cells #[.string qt, .slice A6 ql.length c6] 26))
    have C6 := Aside0.mk (Kd.C_alloc hC6 (.cells #[.string qt, .slice A6 ql.length c6] 26))
    have L6 := Aside0.mk hc6
    clear hq6 hb6 hC6 hc6 HB5 K5
    go_wp2_with fail
    refine (XU.fixed_any _ (HG.out.below HB6.out).toL).mono ?_
    rintro e7 w7 ⟨rfl, hb7⟩
    have HB7 := Aside0.mk (below_step HB6.out hb7)
    have K7 := Aside0.mk (blk_below K6.out hb7)
    have N7 := Aside0.mk (blk_below N6.out hb7)
    have C7 := Aside0.mk (Kd.C_below C6.out hb7)
    clear hb7 HB6 K6 N6 C6
    have x0 : _ = some (Value.string T) := blk_cell K7.out 0
    have x1 : _ = some (Value.slice A l.length c) := blk_cell K7.out 1
    by_cases he : ec = 0
    · obtain ⟨rfl, rfl, rfl⟩ := HZ.out he
      subst he
      have E5 := Aside0.mk (same28 qt ql (by have := wt_length ql; have := HSM.out; omega))
      have y0 : _ = some (Value.string qt) := blk_cell N7.out 0
      have y1 : _ = some (Value.slice A6 ql.length c6) := blk_cell N7.out 1
      go_wp2_with fail
      refine (voussoirref28_Check.calls k2 qt A c ql 0 _ (Kd.C_below R.out HB7.out) L.out E2.out).mono ?_
      rintro e8 w8 ⟨rfl, hb8⟩
      have HB8 := Aside0.mk (below_step HB7.out hb8)
      have K8 := Aside0.mk (blk_below K7.out hb8)
      have N8 := Aside0.mk (blk_below N7.out hb8)
      have C8 := Aside0.mk (Kd.C_below C7.out hb8)
      clear hb8 K7 N7 C7 HB7 x0 x1 y0 y1
      have x0 : _ = some (Value.string qt) := blk_cell K8.out 0
      have x1 : _ = some (Value.slice A ql.length c) := blk_cell K8.out 1
      have y0 : _ = some (Value.string qt) := blk_cell N8.out 0
      have y1 : _ = some (Value.slice A6 ql.length c6) := blk_cell N8.out 1
      go_wp2_with fail
      refine (voussoirref28_Same.calls (ql.length + 2) qt A6 c6 ql qt A c ql true _ C8.out L6.out (Kd.C_below R.out HB8.out) L.out E5.out).mono ?_
      rintro e9 w9 ⟨rfl, hb9⟩
      have HB9 := Aside0.mk (below_step HB8.out hb9)
      clear hb9
      go_wp2_with fail
      go_ret
      exact ⟨rfl, HB9.out⟩
    · have hz2 : (ec != 0) = true := bne_iff_ne.2 he
      have hz3 : (ec == 0) = false := beq_eq_false_iff_ne.2 he
      clear he
      go_wp2_with fail
      refine (voussoirref28_Check.calls k2 T A c l ec _ (Kd.C_below R.out HB7.out) L.out E2.out).mono ?_
      rintro e8 w8 ⟨rfl, hb8⟩
      have HB8 := Aside0.mk (below_step HB7.out hb8)
      clear hb8
      go_wp2_with fail
      go_ret
      exact ⟨rfl, HB8.out⟩
end Go.Proofs.YtkceipkedmfeiaaGreatDoor.X30

namespace Go.Proofs.YtkceipkedmfeiaaGreatDoor.X30
open Go hiding Fd
open Go.RowKit Go.Shelf Go.Proofs.YtkceipkedmfeiaaGreatDoorW.PrintWords Go.Proofs.YtkceipkedmfeiaaGreatDoorW.PrintLast Go.Proofs.YtkceipkedmfeiaaGreatDoorW.PrintMore Go.Proofs.YtkceipkedmfeiaaGreatDoor.P30

theorem RoundTrip_all (y0 : S26) (cs0 : Array Value) (s : ByteArray) (W : World) (k0 : k26.K W y0 cs0.toList) (b0 : wt26 y0 ≤ 1048576) (_w1 : s.size ≤ 140737488351232) (hG : Env W) :
    Calls Tryz.prog 6 #[.agg cs0, .string s] W fun e w' => e = .returned (.bool true) ∧ Below W.heap.size W w' := by
  obtain ⟨A1, c1, e, l1, g1⟩ := k26_open k0
  have := congrArg List.toArray e
  rw [Array.toArray_toList] at this
  subst this
  refine RoundTrip_walk y0.f0 y0.f1 A1 c1 s W g1 l1 ?_ hG
  have e : P30.wt y0.f1 = (y0.f1.map (fun s : ByteArray => s.size + 1)).sum := rfl
  simp only [wt26] at b0
  omega
end Go.Proofs.YtkceipkedmfeiaaGreatDoor.X30
