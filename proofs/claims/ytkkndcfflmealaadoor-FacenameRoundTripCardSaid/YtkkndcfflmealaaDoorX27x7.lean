-- Written by wip/tools/xprint.py out of the translation (the kit's printer with contracts of this session's own). Lean checks it.
import Derived.Test.YtkkndcfflmealaaDoorX27x0
import Derived.Test.YtkkndcfflmealaaDoorX27x1
import Derived.Test.YtkkndcfflmealaaDoorX27x2
namespace Go.Proofs.YtkkndcfflmealaaDoor.X27
open Go.RowKit Go.Proofs.YtkkndcfflmealaaDoorW.PrintWords Go.Proofs.YtkkndcfflmealaaDoorW.PrintLast Go.Proofs.YtkkndcfflmealaaDoorW.PrintMore
attribute [local go_sem] max2_int min2_int max_two min_two max_three min_three max_four min_four   -- for this text's walks alone
set_option linter.unusedVariables false
set_option linter.unusedSimpArgs false

/-! ### voussoirlaw27_FacenameRoundTrip: function 5 -/
mutual
def voussoirlaw27_FacenameRoundTrip.j0 : Nat → ByteArray → ByteArray → Int → Option (Bool)
  | 0, _, _, _ => none
  | k + 1, x0, x2, x3 => (facename_Copy.f k x0 x3 x2).bind fun bt215 => (if bt215.2 = 0 then ((facename_Parse.f k bt215.1).bind fun bt217 => (if bt217.2.2.2.2 = 0 then (if bt217.1.toList = x0.toList then (if bt217.2.1.toList = ([] : List UInt8) then (if bt217.2.2.1 = x3 then (if bt217.2.2.2.1.toList = x2.toList then (voussoirlaw27_FacenameRoundTrip.j1 k x2) else (some false)) else (some false)) else (some false)) else (some false)) else (some false))) else (voussoirlaw27_FacenameRoundTrip.j1 k x2))
def voussoirlaw27_FacenameRoundTrip.j1 : Nat → ByteArray → Option (Bool)
  | 0, _ => none
  | k + 1, x2 => (facename_Parse.f k x2).bind fun bt222 => (if bt222.2.2.2.2 = 0 then ((facename_New.f k bt222.1 bt222.2.1 bt222.2.2.1).bind fun bt227 => (if bt222.2.2.2.1.toList = ([] : List UInt8) then (if bt227.2 = 0 then (some (bt227.1.toList == x2.toList)) else (some false)) else ((facename_Copy.f k bt222.1 bt222.2.2.1 bt222.2.2.2.1).bind fun bt229 => (if bt229.2 = 0 then (some (bt229.1.toList == x2.toList)) else (some false))))) else (if bt222.1.toList = ([] : List UInt8) then (if bt222.2.1.toList = ([] : List UInt8) then (if bt222.2.2.1 = 0 then (some (bt222.2.2.2.1.toList == ([] : List UInt8))) else (some false)) else (some false)) else (some false)))
end
def voussoirlaw27_FacenameRoundTrip.f (k : Nat) (a0 : ByteArray) (a1 : ByteArray) (a2 : ByteArray) (a3 : Int) : Option (Bool) := (voussoirlaw27_termAlive.f k).bind fun t207 => (if t207 = true then (if (wrap64 ((wrap64 ((a0.size : Int) + (a1.size : Int))) + (a2.size : Int))) > 600 then (some true) else ((facename_New.f k a0 a1 a3).bind fun bt208 => (if bt208.2 = 0 then ((facename_Parse.f k bt208.1).bind fun bt210 => (if bt210.2.2.2.2 = 0 then (if bt210.1.toList = a0.toList then (if bt210.2.1.toList = a1.toList then (if bt210.2.2.1 = a3 then (if bt210.2.2.2.1.toList = ([] : List UInt8) then (voussoirlaw27_FacenameRoundTrip.j0 k a0 a2 a3) else (some false)) else (some false)) else (some false)) else (some false)) else (some false))) else (voussoirlaw27_FacenameRoundTrip.j0 k a0 a2 a3)))) else (some false))
theorem voussoirlaw27_FacenameRoundTrip.mono_l : ∀ k, (∀ y0 y1 y2, LeO (voussoirlaw27_FacenameRoundTrip.j0 k y0 y1 y2) (voussoirlaw27_FacenameRoundTrip.j0 (k + 1) y0 y1 y2)) ∧ (∀ y0, LeO (voussoirlaw27_FacenameRoundTrip.j1 k y0) (voussoirlaw27_FacenameRoundTrip.j1 (k + 1) y0))
  | 0 => ⟨fun _ _ _ r h => by simp [voussoirlaw27_FacenameRoundTrip.j0] at h, fun _ r h => by simp [voussoirlaw27_FacenameRoundTrip.j1] at h⟩
  | k + 1 => by
    obtain ⟨ih0, ih1⟩ := voussoirlaw27_FacenameRoundTrip.mono_l k
    refine ⟨?_, ?_⟩
    · intro y0 y1 y2
      unfold voussoirlaw27_FacenameRoundTrip.j0
      repeat' first
      | (with_reducible exact ih0 _ _ _)
      | (with_reducible exact ih1 _)
      | (with_reducible exact facename_Copy.mono _ _ _ _)
      | (with_reducible exact facename_New.mono _ _ _ _)
      | (with_reducible exact facename_Parse.mono _ _)
      | (with_reducible exact voussoirlaw27_termAlive.mono _)
      | (with_reducible exact LeO.refl _)
      | (with_reducible exact LeO.none _)
      | (with_reducible refine LeO.ite ?_ ?_)
      | (with_reducible refine LeO.bind ?_ (fun _ => ?_))
      | exact ih0 _ _ _
      | exact ih1 _
      | exact facename_Copy.mono _ _ _ _
      | exact facename_New.mono _ _ _ _
      | exact facename_Parse.mono _ _
      | exact voussoirlaw27_termAlive.mono _
      | exact LeO.none _
      | refine LeO.ite ?_ ?_
      | refine LeO.bind ?_ (fun _ => ?_)
    · intro y0
      unfold voussoirlaw27_FacenameRoundTrip.j1
      repeat' first
      | (with_reducible exact ih0 _ _ _)
      | (with_reducible exact ih1 _)
      | (with_reducible exact facename_Copy.mono _ _ _ _)
      | (with_reducible exact facename_New.mono _ _ _ _)
      | (with_reducible exact facename_Parse.mono _ _)
      | (with_reducible exact voussoirlaw27_termAlive.mono _)
      | (with_reducible exact LeO.refl _)
      | (with_reducible exact LeO.none _)
      | (with_reducible refine LeO.ite ?_ ?_)
      | (with_reducible refine LeO.bind ?_ (fun _ => ?_))
      | exact ih0 _ _ _
      | exact ih1 _
      | exact facename_Copy.mono _ _ _ _
      | exact facename_New.mono _ _ _ _
      | exact facename_Parse.mono _ _
      | exact voussoirlaw27_termAlive.mono _
      | exact LeO.none _
      | refine LeO.ite ?_ ?_
      | refine LeO.bind ?_ (fun _ => ?_)
theorem voussoirlaw27_FacenameRoundTrip.mono : ∀ a0 a1 a2 a3 k, LeO (voussoirlaw27_FacenameRoundTrip.f k a0 a1 a2 a3) (voussoirlaw27_FacenameRoundTrip.f (k + 1) a0 a1 a2 a3) := by
  intro a0 a1 a2 a3 k
  obtain ⟨ih0, ih1⟩ := voussoirlaw27_FacenameRoundTrip.mono_l k
  unfold voussoirlaw27_FacenameRoundTrip.f
  repeat' first
      | (with_reducible exact ih0 _ _ _)
      | (with_reducible exact ih1 _)
      | (with_reducible exact facename_Copy.mono _ _ _ _)
      | (with_reducible exact facename_New.mono _ _ _ _)
      | (with_reducible exact facename_Parse.mono _ _)
      | (with_reducible exact voussoirlaw27_termAlive.mono _)
      | (with_reducible exact LeO.refl _)
      | (with_reducible exact LeO.none _)
      | (with_reducible refine LeO.ite ?_ ?_)
      | (with_reducible refine LeO.bind ?_ (fun _ => ?_))
      | exact ih0 _ _ _
      | exact ih1 _
      | exact facename_Copy.mono _ _ _ _
      | exact facename_New.mono _ _ _ _
      | exact facename_Parse.mono _ _
      | exact voussoirlaw27_termAlive.mono _
      | exact LeO.none _
      | refine LeO.ite ?_ ?_
      | refine LeO.bind ?_ (fun _ => ?_)
set_option maxHeartbeats 8000000 in
set_option maxRecDepth 100000 in
theorem voussoirlaw27_FacenameRoundTrip.calls (k : Nat) (a0 : ByteArray) (a1 : ByteArray) (a2 : ByteArray) (a3 : Int) (r : Bool) (w : World) (h : voussoirlaw27_FacenameRoundTrip.f k a0 a1 a2 a3 = some r) (hG : Env w := by first | assumption | exact Env.below (by assumption) (by repeat (first | exact Below.refl _ _ | exact Aside0.out (by assumption) | apply below_alloc | apply pw_below_drewN | apply below_drew1 | exact Drawn0.below (by assumption)))) :
    Calls Tryd.prog 5 #[.string a0, .string a1, .string a2, .int .i64 a3] w fun e w' => e = .returned (.bool r) ∧ Below w.heap.size w w' := by
  have HB := Aside0.mk (Below.refl w.heap.size w)
  have H : ((voussoirlaw27_termAlive.f k).bind fun t207 => (if t207 = true then (if (wrap64 ((wrap64 ((a0.size : Int) + (a1.size : Int))) + (a2.size : Int))) > 600 then (some true) else ((facename_New.f k a0 a1 a3).bind fun bt208 => (if bt208.2 = 0 then ((facename_Parse.f k bt208.1).bind fun bt210 => (if bt210.2.2.2.2 = 0 then (if bt210.1.toList = a0.toList then (if bt210.2.1.toList = a1.toList then (if bt210.2.2.1 = a3 then (if bt210.2.2.2.1.toList = ([] : List UInt8) then (voussoirlaw27_FacenameRoundTrip.j0 k a0 a2 a3) else (some false)) else (some false)) else (some false)) else (some false)) else (some false))) else (voussoirlaw27_FacenameRoundTrip.j0 k a0 a2 a3)))) else (some false))) = some r := h
  clear h
  replace H := Option.bind_eq_some_iff.mp H
  obtain ⟨t207, A50, H⟩ := H
  replace H : (if t207 = true then (if (wrap64 ((wrap64 ((a0.size : Int) + (a1.size : Int))) + (a2.size : Int))) > 600 then (some true) else ((facename_New.f k a0 a1 a3).bind fun bt208 => (if bt208.2 = 0 then ((facename_Parse.f k bt208.1).bind fun bt210 => (if bt210.2.2.2.2 = 0 then (if bt210.1.toList = a0.toList then (if bt210.2.1.toList = a1.toList then (if bt210.2.2.1 = a3 then (if bt210.2.2.2.1.toList = ([] : List UInt8) then (voussoirlaw27_FacenameRoundTrip.j0 k a0 a2 a3) else (some false)) else (some false)) else (some false)) else (some false)) else (some false))) else (voussoirlaw27_FacenameRoundTrip.j0 k a0 a2 a3)))) else (some false)) = some r := H
  have A5 := Aside0.mk A50
  clear A50
  by_cases c6 : t207 = true
  · subst c6
    have H1 : (if (wrap64 ((wrap64 ((a0.size : Int) + (a1.size : Int))) + (a2.size : Int))) > 600 then (some true) else ((facename_New.f k a0 a1 a3).bind fun bt208 => (if bt208.2 = 0 then ((facename_Parse.f k bt208.1).bind fun bt210 => (if bt210.2.2.2.2 = 0 then (if bt210.1.toList = a0.toList then (if bt210.2.1.toList = a1.toList then (if bt210.2.2.1 = a3 then (if bt210.2.2.2.1.toList = ([] : List UInt8) then (voussoirlaw27_FacenameRoundTrip.j0 k a0 a2 a3) else (some false)) else (some false)) else (some false)) else (some false)) else (some false))) else (voussoirlaw27_FacenameRoundTrip.j0 k a0 a2 a3)))) = some r := by rw [if_pos rfl] at H; exact H
    clear H
    have H := H1
    clear H1
    by_cases c7 : (wrap64 ((wrap64 ((a0.size : Int) + (a1.size : Int))) + (a2.size : Int))) > 600
    · rw [if_pos c7] at H
      have c7b0 : decide (600 < (wrap64 ((wrap64 ((a0.size : Int) + (a1.size : Int))) + (a2.size : Int)))) = true := decide_eq_true c7
      clear c7
      obtain rfl := Option.some.inj H
      go_enter Tryd.func5, Tryd.ntmps5
      go_wp2_with (first | ((with_reducible refine gate_callee (f := 7) rfl ?_); refine goesL_ (some 30) rfl rfl Tryd.func7 (by kernel_rfl) rfl #[] rfl (by (try simp only [List.map_toArray, List.map_cons, List.map_nil]); first | done | rfl | (simp only [List.length_drop, List.length_take]; rfl)) ?_; (with_reducible refine (voussoirlaw27_termAlive.calls k  true _ A5.out).mono ?_); rintro e w8 ⟨rfl, hb⟩; refine ⟨_, rfl, ?_⟩; have n0_ := Aside0.mk (below_step (by repeat (first | (with_reducible first | exact HB.out | apply below_alloc | apply pw_below_drewN | apply below_drew1) | exact HB.out)) hb); clear HB; have HB := n0_; clear n0_; (try clear hb); (try clear hb2); (try clear hk); (try clear hi)))
      go_ret
      exact ⟨by first | rfl | (simp [errW_none, errW_some] <;> rfl) | (simp [*, errW_none, errW_some] <;> rfl), by repeat (first | (with_reducible first | exact HB.out | apply below_alloc | apply pw_below_drewN | apply below_drew1) | exact HB.out)⟩
    · rw [if_neg c7] at H
      have c7b0 : decide (600 < (wrap64 ((wrap64 ((a0.size : Int) + (a1.size : Int))) + (a2.size : Int)))) = false := decide_eq_false c7
      clear c7
      replace H := Option.bind_eq_some_iff.mp H
      obtain ⟨⟨t208, t209⟩, A90, H⟩ := H
      replace H : (if t209 = 0 then ((facename_Parse.f k t208).bind fun bt210 => (if bt210.2.2.2.2 = 0 then (if bt210.1.toList = a0.toList then (if bt210.2.1.toList = a1.toList then (if bt210.2.2.1 = a3 then (if bt210.2.2.2.1.toList = ([] : List UInt8) then (voussoirlaw27_FacenameRoundTrip.j0 k a0 a2 a3) else (some false)) else (some false)) else (some false)) else (some false)) else (some false))) else (voussoirlaw27_FacenameRoundTrip.j0 k a0 a2 a3)) = some r := H
      have A9 := Aside0.mk A90
      clear A90
      have HC10 := Aside0.mk H
      clear H
      go_enter Tryd.func5, Tryd.ntmps5
      go_upto_if 49 with (first | ((with_reducible refine gate_callee (f := 7) rfl ?_); refine goesL_ (some 30) rfl rfl Tryd.func7 (by kernel_rfl) rfl #[] rfl (by (try simp only [List.map_toArray, List.map_cons, List.map_nil]); first | done | rfl | (simp only [List.length_drop, List.length_take]; rfl)) ?_; (with_reducible refine (voussoirlaw27_termAlive.calls k  true _ A5.out).mono ?_); rintro e w11 ⟨rfl, hb⟩; refine ⟨_, rfl, ?_⟩; have n0_ := Aside0.mk (below_step (by repeat (first | (with_reducible first | exact HB.out | apply below_alloc | apply pw_below_drewN | apply below_drew1) | exact HB.out)) hb); clear HB; have HB := n0_; clear n0_; (try clear hb); (try clear hb2); (try clear hk); (try clear hi)) | ((with_reducible refine gate_callee (f := 8) rfl ?_); refine goesL_ (some 45) rfl rfl Tryd.func8 (by kernel_rfl) rfl #[.string a0, .string a1, .int .i64 a3] rfl (by (try simp only [List.map_toArray, List.map_cons, List.map_nil]); first | done | rfl | (simp only [List.length_drop, List.length_take]; rfl)) ?_; (with_reducible refine (facename_New.calls k a0 a1 a3 t208 t209 _ A9.out).mono ?_); rintro e w12 ⟨rfl, hb⟩; refine ⟨_, rfl, ?_⟩; have n0_ := Aside0.mk (below_step (by repeat (first | (with_reducible first | exact HB.out | apply below_alloc | apply pw_below_drewN | apply below_drew1) | exact HB.out)) hb); clear HB; have HB := n0_; clear n0_; (try clear hb); (try clear hb2); (try clear hk); (try clear hi)))
      (try simp only [Act.put, List.setIfInBounds_toArray, List.set_cons_zero, List.set_cons_succ])
      go_cut [] (fun wc => ∃ (kq : Nat), Aside0 (voussoirlaw27_FacenameRoundTrip.j0 kq a0 a2 a3 = some r) ∧ Aside0 (kq ≤ k) ∧ Aside0 (Below w.heap.size w wc))
      case first =>
        have H := HC10.out
        clear HC10
        by_cases c13 : t209 = 0
        · rw [if_pos c13] at H
          have c13b0 : (t209 == 0) = true := beq_iff_eq.mpr c13
          have c13b1 : (t209 != 0) = false := bne_eq_false_iff_eq.mpr c13
          clear c13
          (first | rw [c13b0] | (simp only [i64_w, i32_w]; rw [c13b0]) | skip)
          replace H := Option.bind_eq_some_iff.mp H
          obtain ⟨⟨t210, t211, t212, t213, t214⟩, A140, H⟩ := H
          replace H : (if t214 = 0 then (if t210.toList = a0.toList then (if t211.toList = a1.toList then (if t212 = a3 then (if t213.toList = ([] : List UInt8) then (voussoirlaw27_FacenameRoundTrip.j0 k a0 a2 a3) else (some false)) else (some false)) else (some false)) else (some false)) else (some false)) = some r := H
          have A14 := Aside0.mk A140
          clear A140
          by_cases c15 : t214 = 0
          · rw [if_pos c15] at H
            have c15b0 : (t214 == 0) = true := beq_iff_eq.mpr c15
            have c15b1 : (t214 != 0) = false := bne_eq_false_iff_eq.mpr c15
            clear c15
            by_cases c16 : t210.toList = a0.toList
            · rw [if_pos c16] at H
              have c16b0 : (t210.toList == a0.toList) = true := beq_iff_eq.mpr c16
              have c16b1 : (t210.toList != a0.toList) = false := bne_eq_false_iff_eq.mpr c16
              clear c16
              by_cases c17 : t211.toList = a1.toList
              · rw [if_pos c17] at H
                have c17b0 : (t211.toList == a1.toList) = true := beq_iff_eq.mpr c17
                have c17b1 : (t211.toList != a1.toList) = false := bne_eq_false_iff_eq.mpr c17
                clear c17
                by_cases c18 : t212 = a3
                · rw [if_pos c18] at H
                  have c18b0 : (t212 == a3) = true := beq_iff_eq.mpr c18
                  have c18b1 : (t212 != a3) = false := bne_eq_false_iff_eq.mpr c18
                  clear c18
                  by_cases c19 : t213.toList = ([] : List UInt8)
                  · rw [if_pos c19] at H
                    have c19b0 : (t213.toList == ([] : List UInt8)) = true := beq_iff_eq.mpr c19
                    have c19b1 : (t213.toList != ([] : List UInt8)) = false := bne_eq_false_iff_eq.mpr c19
                    clear c19
                    have H' := Aside0.mk H
                    clear H
                    go_wp2_with (first | ((with_reducible refine gate_callee (f := 12) rfl ?_); refine goesL_ (some 52) rfl rfl Tryd.func12 (by kernel_rfl) rfl #[.string t208] rfl (by (try simp only [List.map_toArray, List.map_cons, List.map_nil]); first | done | rfl | (simp only [List.length_drop, List.length_take]; rfl)) ?_; (with_reducible refine (facename_Parse.calls k t208 t210 t211 t212 t213 t214 _ A14.out).mono ?_); rintro e w20 ⟨rfl, hb⟩; refine ⟨_, rfl, ?_⟩; have n0_ := Aside0.mk (below_step (by repeat (first | (with_reducible first | exact HB.out | apply below_alloc | apply pw_below_drewN | apply below_drew1) | exact HB.out)) hb); clear HB; have HB := n0_; clear n0_; (try clear hb); (try clear hb2); (try clear hk); (try clear hi)))
                    go_meet
                    case rel => exact ⟨_, H', ⟨by first | omega | exact Nat.le_refl _⟩, ⟨by repeat (first | (with_reducible first | exact HB.out | apply below_alloc | apply pw_below_drewN | apply below_drew1) | exact HB.out)⟩⟩
                  · rw [if_neg c19] at H
                    have c19b0 : (t213.toList == ([] : List UInt8)) = false := beq_eq_false_iff_ne.mpr c19
                    have c19b1 : (t213.toList != ([] : List UInt8)) = true := bne_iff_ne.mpr c19
                    obtain rfl := Option.some.inj H
                    go_wp2_with (first | ((with_reducible refine gate_callee (f := 12) rfl ?_); refine goesL_ (some 52) rfl rfl Tryd.func12 (by kernel_rfl) rfl #[.string t208] rfl (by (try simp only [List.map_toArray, List.map_cons, List.map_nil]); first | done | rfl | (simp only [List.length_drop, List.length_take]; rfl)) ?_; (with_reducible refine (facename_Parse.calls k t208 t210 t211 t212 t213 t214 _ A14.out).mono ?_); rintro e w21 ⟨rfl, hb⟩; refine ⟨_, rfl, ?_⟩; have n0_ := Aside0.mk (below_step (by repeat (first | (with_reducible first | exact HB.out | apply below_alloc | apply pw_below_drewN | apply below_drew1) | exact HB.out)) hb); clear HB; have HB := n0_; clear n0_; (try clear hb); (try clear hb2); (try clear hk); (try clear hi)))
                    go_ret
                    exact ⟨by first | rfl | (simp [errW_none, errW_some] <;> rfl) | (simp [*, errW_none, errW_some] <;> rfl), by repeat (first | (with_reducible first | exact HB.out | apply below_alloc | apply pw_below_drewN | apply below_drew1) | exact HB.out)⟩
                · rw [if_neg c18] at H
                  have c18b0 : (t212 == a3) = false := beq_eq_false_iff_ne.mpr c18
                  have c18b1 : (t212 != a3) = true := bne_iff_ne.mpr c18
                  obtain rfl := Option.some.inj H
                  go_wp2_with (first | ((with_reducible refine gate_callee (f := 12) rfl ?_); refine goesL_ (some 52) rfl rfl Tryd.func12 (by kernel_rfl) rfl #[.string t208] rfl (by (try simp only [List.map_toArray, List.map_cons, List.map_nil]); first | done | rfl | (simp only [List.length_drop, List.length_take]; rfl)) ?_; (with_reducible refine (facename_Parse.calls k t208 t210 t211 t212 t213 t214 _ A14.out).mono ?_); rintro e w22 ⟨rfl, hb⟩; refine ⟨_, rfl, ?_⟩; have n0_ := Aside0.mk (below_step (by repeat (first | (with_reducible first | exact HB.out | apply below_alloc | apply pw_below_drewN | apply below_drew1) | exact HB.out)) hb); clear HB; have HB := n0_; clear n0_; (try clear hb); (try clear hb2); (try clear hk); (try clear hi)))
                  go_ret
                  exact ⟨by first | rfl | (simp [errW_none, errW_some] <;> rfl) | (simp [*, errW_none, errW_some] <;> rfl), by repeat (first | (with_reducible first | exact HB.out | apply below_alloc | apply pw_below_drewN | apply below_drew1) | exact HB.out)⟩
              · rw [if_neg c17] at H
                have c17b0 : (t211.toList == a1.toList) = false := beq_eq_false_iff_ne.mpr c17
                have c17b1 : (t211.toList != a1.toList) = true := bne_iff_ne.mpr c17
                obtain rfl := Option.some.inj H
                go_wp2_with (first | ((with_reducible refine gate_callee (f := 12) rfl ?_); refine goesL_ (some 52) rfl rfl Tryd.func12 (by kernel_rfl) rfl #[.string t208] rfl (by (try simp only [List.map_toArray, List.map_cons, List.map_nil]); first | done | rfl | (simp only [List.length_drop, List.length_take]; rfl)) ?_; (with_reducible refine (facename_Parse.calls k t208 t210 t211 t212 t213 t214 _ A14.out).mono ?_); rintro e w23 ⟨rfl, hb⟩; refine ⟨_, rfl, ?_⟩; have n0_ := Aside0.mk (below_step (by repeat (first | (with_reducible first | exact HB.out | apply below_alloc | apply pw_below_drewN | apply below_drew1) | exact HB.out)) hb); clear HB; have HB := n0_; clear n0_; (try clear hb); (try clear hb2); (try clear hk); (try clear hi)))
                go_ret
                exact ⟨by first | rfl | (simp [errW_none, errW_some] <;> rfl) | (simp [*, errW_none, errW_some] <;> rfl), by repeat (first | (with_reducible first | exact HB.out | apply below_alloc | apply pw_below_drewN | apply below_drew1) | exact HB.out)⟩
            · rw [if_neg c16] at H
              have c16b0 : (t210.toList == a0.toList) = false := beq_eq_false_iff_ne.mpr c16
              have c16b1 : (t210.toList != a0.toList) = true := bne_iff_ne.mpr c16
              obtain rfl := Option.some.inj H
              go_wp2_with (first | ((with_reducible refine gate_callee (f := 12) rfl ?_); refine goesL_ (some 52) rfl rfl Tryd.func12 (by kernel_rfl) rfl #[.string t208] rfl (by (try simp only [List.map_toArray, List.map_cons, List.map_nil]); first | done | rfl | (simp only [List.length_drop, List.length_take]; rfl)) ?_; (with_reducible refine (facename_Parse.calls k t208 t210 t211 t212 t213 t214 _ A14.out).mono ?_); rintro e w24 ⟨rfl, hb⟩; refine ⟨_, rfl, ?_⟩; have n0_ := Aside0.mk (below_step (by repeat (first | (with_reducible first | exact HB.out | apply below_alloc | apply pw_below_drewN | apply below_drew1) | exact HB.out)) hb); clear HB; have HB := n0_; clear n0_; (try clear hb); (try clear hb2); (try clear hk); (try clear hi)))
              go_ret
              exact ⟨by first | rfl | (simp [errW_none, errW_some] <;> rfl) | (simp [*, errW_none, errW_some] <;> rfl), by repeat (first | (with_reducible first | exact HB.out | apply below_alloc | apply pw_below_drewN | apply below_drew1) | exact HB.out)⟩
          · rw [if_neg c15] at H
            have c15b0 : (t214 == 0) = false := beq_eq_false_iff_ne.mpr c15
            have c15b1 : (t214 != 0) = true := bne_iff_ne.mpr c15
            obtain rfl := Option.some.inj H
            go_wp2_with (first | ((with_reducible refine gate_callee (f := 12) rfl ?_); refine goesL_ (some 52) rfl rfl Tryd.func12 (by kernel_rfl) rfl #[.string t208] rfl (by (try simp only [List.map_toArray, List.map_cons, List.map_nil]); first | done | rfl | (simp only [List.length_drop, List.length_take]; rfl)) ?_; (with_reducible refine (facename_Parse.calls k t208 t210 t211 t212 t213 t214 _ A14.out).mono ?_); rintro e w25 ⟨rfl, hb⟩; refine ⟨_, rfl, ?_⟩; have n0_ := Aside0.mk (below_step (by repeat (first | (with_reducible first | exact HB.out | apply below_alloc | apply pw_below_drewN | apply below_drew1) | exact HB.out)) hb); clear HB; have HB := n0_; clear n0_; (try clear hb); (try clear hb2); (try clear hk); (try clear hi)))
            go_ret
            exact ⟨by first | rfl | (simp [errW_none, errW_some] <;> rfl) | (simp [*, errW_none, errW_some] <;> rfl), by repeat (first | (with_reducible first | exact HB.out | apply below_alloc | apply pw_below_drewN | apply below_drew1) | exact HB.out)⟩
        · rw [if_neg c13] at H
          have c13b0 : (t209 == 0) = false := beq_eq_false_iff_ne.mpr c13
          have c13b1 : (t209 != 0) = true := bne_iff_ne.mpr c13
          (first | rw [c13b0] | (simp only [i64_w, i32_w]; rw [c13b0]) | skip)
          have H' := Aside0.mk H
          clear H
          go_wp2
          go_meet
          case rel => exact ⟨_, H', ⟨by first | omega | exact Nat.le_refl _⟩, ⟨by repeat (first | (with_reducible first | exact HB.out | apply below_alloc | apply pw_below_drewN | apply below_drew1) | exact HB.out)⟩⟩
      case rest =>
        clear HC10
        try clear c1
        try clear p2
        try clear c5
        try clear c6
        try clear p6
        try clear c7
        try clear c7b0
        try clear c8
        try clear c12
        try clear c13
        try clear c13b0
        try clear c13b1
        try clear c15
        try clear c15b0
        try clear c15b1
        try clear c16
        try clear c16b0
        try clear c16b1
        try clear c17
        try clear c17b0
        try clear c17b1
        try clear c18
        try clear c18b0
        try clear c18b1
        try clear c19
        try clear c19b0
        try clear c19b1
        obtain ⟨kq, HA, HJ9, HB⟩ := hcut
        cases kq with
        | zero => exact absurd HA.out (by simp [voussoirlaw27_FacenameRoundTrip.j0])
        | succ kj9 =>
          have H := HA.out
          clear HA
          simp only [voussoirlaw27_FacenameRoundTrip.j0] at H
          replace H := Option.bind_eq_some_iff.mp H
          obtain ⟨⟨t215, t216⟩, A260, H⟩ := H
          replace H : (if t216 = 0 then ((facename_Parse.f kj9 t215).bind fun bt217 => (if bt217.2.2.2.2 = 0 then (if bt217.1.toList = a0.toList then (if bt217.2.1.toList = ([] : List UInt8) then (if bt217.2.2.1 = a3 then (if bt217.2.2.2.1.toList = a2.toList then (voussoirlaw27_FacenameRoundTrip.j1 kj9 a2) else (some false)) else (some false)) else (some false)) else (some false)) else (some false))) else (voussoirlaw27_FacenameRoundTrip.j1 kj9 a2)) = some r := H
          have A26 := Aside0.mk A260
          clear A260
          have HC27 := Aside0.mk H
          clear H
          go_upto_if 87 with (first | ((with_reducible refine gate_callee (f := 10) rfl ?_); refine goesL_ (some 83) rfl rfl Tryd.func10 (by kernel_rfl) rfl #[.string a0, .int .i64 a3, .string a2] rfl (by (try simp only [List.map_toArray, List.map_cons, List.map_nil]); first | done | rfl | (simp only [List.length_drop, List.length_take]; rfl)) ?_; (with_reducible refine (facename_Copy.calls kj9 a0 a3 a2 t215 t216 _ A26.out).mono ?_); rintro e w28 ⟨rfl, hb⟩; refine ⟨_, rfl, ?_⟩; have n0_ := Aside0.mk (below_step (by repeat (first | (with_reducible first | exact HB.out | apply below_alloc | apply pw_below_drewN | apply below_drew1) | exact HB.out)) hb); clear HB; have HB := n0_; clear n0_; (try clear hb); (try clear hb2); (try clear hk); (try clear hi)))
          (try simp only [Act.put, List.setIfInBounds_toArray, List.set_cons_zero, List.set_cons_succ])
          go_cut [] (fun wc => ∃ (kq : Nat), Aside0 (voussoirlaw27_FacenameRoundTrip.j1 kq a2 = some r) ∧ Aside0 (kq ≤ kj9) ∧ Aside0 (Below w.heap.size w wc))
          case first =>
            have H := HC27.out
            clear HC27
            by_cases c29 : t216 = 0
            · rw [if_pos c29] at H
              have c29b0 : (t216 == 0) = true := beq_iff_eq.mpr c29
              have c29b1 : (t216 != 0) = false := bne_eq_false_iff_eq.mpr c29
              clear c29
              (first | rw [c29b0] | (simp only [i64_w, i32_w]; rw [c29b0]) | skip)
              replace H := Option.bind_eq_some_iff.mp H
              obtain ⟨⟨t217, t218, t219, t220, t221⟩, A300, H⟩ := H
              replace H : (if t221 = 0 then (if t217.toList = a0.toList then (if t218.toList = ([] : List UInt8) then (if t219 = a3 then (if t220.toList = a2.toList then (voussoirlaw27_FacenameRoundTrip.j1 kj9 a2) else (some false)) else (some false)) else (some false)) else (some false)) else (some false)) = some r := H
              have A30 := Aside0.mk A300
              clear A300
              by_cases c31 : t221 = 0
              · rw [if_pos c31] at H
                have c31b0 : (t221 == 0) = true := beq_iff_eq.mpr c31
                have c31b1 : (t221 != 0) = false := bne_eq_false_iff_eq.mpr c31
                clear c31
                by_cases c32 : t217.toList = a0.toList
                · rw [if_pos c32] at H
                  have c32b0 : (t217.toList == a0.toList) = true := beq_iff_eq.mpr c32
                  have c32b1 : (t217.toList != a0.toList) = false := bne_eq_false_iff_eq.mpr c32
                  clear c32
                  by_cases c33 : t218.toList = ([] : List UInt8)
                  · rw [if_pos c33] at H
                    have c33b0 : (t218.toList == ([] : List UInt8)) = true := beq_iff_eq.mpr c33
                    have c33b1 : (t218.toList != ([] : List UInt8)) = false := bne_eq_false_iff_eq.mpr c33
                    clear c33
                    by_cases c34 : t219 = a3
                    · rw [if_pos c34] at H
                      have c34b0 : (t219 == a3) = true := beq_iff_eq.mpr c34
                      have c34b1 : (t219 != a3) = false := bne_eq_false_iff_eq.mpr c34
                      clear c34
                      by_cases c35 : t220.toList = a2.toList
                      · rw [if_pos c35] at H
                        have c35b0 : (t220.toList == a2.toList) = true := beq_iff_eq.mpr c35
                        have c35b1 : (t220.toList != a2.toList) = false := bne_eq_false_iff_eq.mpr c35
                        clear c35
                        have H' := Aside0.mk H
                        clear H
                        go_wp2_with (first | ((with_reducible refine gate_callee (f := 12) rfl ?_); refine goesL_ (some 90) rfl rfl Tryd.func12 (by kernel_rfl) rfl #[.string t215] rfl (by (try simp only [List.map_toArray, List.map_cons, List.map_nil]); first | done | rfl | (simp only [List.length_drop, List.length_take]; rfl)) ?_; (with_reducible refine (facename_Parse.calls kj9 t215 t217 t218 t219 t220 t221 _ A30.out).mono ?_); rintro e w36 ⟨rfl, hb⟩; refine ⟨_, rfl, ?_⟩; have n0_ := Aside0.mk (below_step (by repeat (first | (with_reducible first | exact HB.out | apply below_alloc | apply pw_below_drewN | apply below_drew1) | exact HB.out)) hb); clear HB; have HB := n0_; clear n0_; (try clear hb); (try clear hb2); (try clear hk); (try clear hi)))
                        go_meet
                        case rel => exact ⟨_, H', ⟨by have := HJ9.out; first | omega | exact Nat.le_refl _⟩, ⟨by repeat (first | (with_reducible first | exact HB.out | apply below_alloc | apply pw_below_drewN | apply below_drew1) | exact HB.out)⟩⟩
                      · rw [if_neg c35] at H
                        have c35b0 : (t220.toList == a2.toList) = false := beq_eq_false_iff_ne.mpr c35
                        have c35b1 : (t220.toList != a2.toList) = true := bne_iff_ne.mpr c35
                        obtain rfl := Option.some.inj H
                        go_wp2_with (first | ((with_reducible refine gate_callee (f := 12) rfl ?_); refine goesL_ (some 90) rfl rfl Tryd.func12 (by kernel_rfl) rfl #[.string t215] rfl (by (try simp only [List.map_toArray, List.map_cons, List.map_nil]); first | done | rfl | (simp only [List.length_drop, List.length_take]; rfl)) ?_; (with_reducible refine (facename_Parse.calls kj9 t215 t217 t218 t219 t220 t221 _ A30.out).mono ?_); rintro e w37 ⟨rfl, hb⟩; refine ⟨_, rfl, ?_⟩; have n0_ := Aside0.mk (below_step (by repeat (first | (with_reducible first | exact HB.out | apply below_alloc | apply pw_below_drewN | apply below_drew1) | exact HB.out)) hb); clear HB; have HB := n0_; clear n0_; (try clear hb); (try clear hb2); (try clear hk); (try clear hi)))
                        go_ret
                        exact ⟨by first | rfl | (simp [errW_none, errW_some] <;> rfl) | (simp [*, errW_none, errW_some] <;> rfl), by repeat (first | (with_reducible first | exact HB.out | apply below_alloc | apply pw_below_drewN | apply below_drew1) | exact HB.out)⟩
                    · rw [if_neg c34] at H
                      have c34b0 : (t219 == a3) = false := beq_eq_false_iff_ne.mpr c34
                      have c34b1 : (t219 != a3) = true := bne_iff_ne.mpr c34
                      obtain rfl := Option.some.inj H
                      go_wp2_with (first | ((with_reducible refine gate_callee (f := 12) rfl ?_); refine goesL_ (some 90) rfl rfl Tryd.func12 (by kernel_rfl) rfl #[.string t215] rfl (by (try simp only [List.map_toArray, List.map_cons, List.map_nil]); first | done | rfl | (simp only [List.length_drop, List.length_take]; rfl)) ?_; (with_reducible refine (facename_Parse.calls kj9 t215 t217 t218 t219 t220 t221 _ A30.out).mono ?_); rintro e w38 ⟨rfl, hb⟩; refine ⟨_, rfl, ?_⟩; have n0_ := Aside0.mk (below_step (by repeat (first | (with_reducible first | exact HB.out | apply below_alloc | apply pw_below_drewN | apply below_drew1) | exact HB.out)) hb); clear HB; have HB := n0_; clear n0_; (try clear hb); (try clear hb2); (try clear hk); (try clear hi)))
                      go_ret
                      exact ⟨by first | rfl | (simp [errW_none, errW_some] <;> rfl) | (simp [*, errW_none, errW_some] <;> rfl), by repeat (first | (with_reducible first | exact HB.out | apply below_alloc | apply pw_below_drewN | apply below_drew1) | exact HB.out)⟩
                  · rw [if_neg c33] at H
                    have c33b0 : (t218.toList == ([] : List UInt8)) = false := beq_eq_false_iff_ne.mpr c33
                    have c33b1 : (t218.toList != ([] : List UInt8)) = true := bne_iff_ne.mpr c33
                    obtain rfl := Option.some.inj H
                    go_wp2_with (first | ((with_reducible refine gate_callee (f := 12) rfl ?_); refine goesL_ (some 90) rfl rfl Tryd.func12 (by kernel_rfl) rfl #[.string t215] rfl (by (try simp only [List.map_toArray, List.map_cons, List.map_nil]); first | done | rfl | (simp only [List.length_drop, List.length_take]; rfl)) ?_; (with_reducible refine (facename_Parse.calls kj9 t215 t217 t218 t219 t220 t221 _ A30.out).mono ?_); rintro e w39 ⟨rfl, hb⟩; refine ⟨_, rfl, ?_⟩; have n0_ := Aside0.mk (below_step (by repeat (first | (with_reducible first | exact HB.out | apply below_alloc | apply pw_below_drewN | apply below_drew1) | exact HB.out)) hb); clear HB; have HB := n0_; clear n0_; (try clear hb); (try clear hb2); (try clear hk); (try clear hi)))
                    go_ret
                    exact ⟨by first | rfl | (simp [errW_none, errW_some] <;> rfl) | (simp [*, errW_none, errW_some] <;> rfl), by repeat (first | (with_reducible first | exact HB.out | apply below_alloc | apply pw_below_drewN | apply below_drew1) | exact HB.out)⟩
                · rw [if_neg c32] at H
                  have c32b0 : (t217.toList == a0.toList) = false := beq_eq_false_iff_ne.mpr c32
                  have c32b1 : (t217.toList != a0.toList) = true := bne_iff_ne.mpr c32
                  obtain rfl := Option.some.inj H
                  go_wp2_with (first | ((with_reducible refine gate_callee (f := 12) rfl ?_); refine goesL_ (some 90) rfl rfl Tryd.func12 (by kernel_rfl) rfl #[.string t215] rfl (by (try simp only [List.map_toArray, List.map_cons, List.map_nil]); first | done | rfl | (simp only [List.length_drop, List.length_take]; rfl)) ?_; (with_reducible refine (facename_Parse.calls kj9 t215 t217 t218 t219 t220 t221 _ A30.out).mono ?_); rintro e w40 ⟨rfl, hb⟩; refine ⟨_, rfl, ?_⟩; have n0_ := Aside0.mk (below_step (by repeat (first | (with_reducible first | exact HB.out | apply below_alloc | apply pw_below_drewN | apply below_drew1) | exact HB.out)) hb); clear HB; have HB := n0_; clear n0_; (try clear hb); (try clear hb2); (try clear hk); (try clear hi)))
                  go_ret
                  exact ⟨by first | rfl | (simp [errW_none, errW_some] <;> rfl) | (simp [*, errW_none, errW_some] <;> rfl), by repeat (first | (with_reducible first | exact HB.out | apply below_alloc | apply pw_below_drewN | apply below_drew1) | exact HB.out)⟩
              · rw [if_neg c31] at H
                have c31b0 : (t221 == 0) = false := beq_eq_false_iff_ne.mpr c31
                have c31b1 : (t221 != 0) = true := bne_iff_ne.mpr c31
                obtain rfl := Option.some.inj H
                go_wp2_with (first | ((with_reducible refine gate_callee (f := 12) rfl ?_); refine goesL_ (some 90) rfl rfl Tryd.func12 (by kernel_rfl) rfl #[.string t215] rfl (by (try simp only [List.map_toArray, List.map_cons, List.map_nil]); first | done | rfl | (simp only [List.length_drop, List.length_take]; rfl)) ?_; (with_reducible refine (facename_Parse.calls kj9 t215 t217 t218 t219 t220 t221 _ A30.out).mono ?_); rintro e w41 ⟨rfl, hb⟩; refine ⟨_, rfl, ?_⟩; have n0_ := Aside0.mk (below_step (by repeat (first | (with_reducible first | exact HB.out | apply below_alloc | apply pw_below_drewN | apply below_drew1) | exact HB.out)) hb); clear HB; have HB := n0_; clear n0_; (try clear hb); (try clear hb2); (try clear hk); (try clear hi)))
                go_ret
                exact ⟨by first | rfl | (simp [errW_none, errW_some] <;> rfl) | (simp [*, errW_none, errW_some] <;> rfl), by repeat (first | (with_reducible first | exact HB.out | apply below_alloc | apply pw_below_drewN | apply below_drew1) | exact HB.out)⟩
            · rw [if_neg c29] at H
              have c29b0 : (t216 == 0) = false := beq_eq_false_iff_ne.mpr c29
              have c29b1 : (t216 != 0) = true := bne_iff_ne.mpr c29
              (first | rw [c29b0] | (simp only [i64_w, i32_w]; rw [c29b0]) | skip)
              have H' := Aside0.mk H
              clear H
              go_wp2
              go_meet
              case rel => exact ⟨_, H', ⟨by have := HJ9.out; first | omega | exact Nat.le_refl _⟩, ⟨by repeat (first | (with_reducible first | exact HB.out | apply below_alloc | apply pw_below_drewN | apply below_drew1) | exact HB.out)⟩⟩
          case rest =>
            clear HC27
            try clear c1
            try clear c2
            try clear p2
            try clear c3
            try clear c5
            try clear c6
            try clear p6
            try clear c7
            try clear c7b0
            try clear c8
            try clear c10
            try clear c12
            try clear c13
            try clear c13b0
            try clear c13b1
            try clear c15
            try clear c15b0
            try clear c15b1
            try clear c16
            try clear c16b0
            try clear c16b1
            try clear c17
            try clear c17b0
            try clear c17b1
            try clear c18
            try clear c18b0
            try clear c18b1
            try clear c19
            try clear c19b0
            try clear c19b1
            try clear c29
            try clear c29b0
            try clear c29b1
            try clear c31
            try clear c31b0
            try clear c31b1
            try clear c32
            try clear c32b0
            try clear c32b1
            try clear c33
            try clear c33b0
            try clear c33b1
            try clear c34
            try clear c34b0
            try clear c34b1
            try clear c35
            try clear c35b0
            try clear c35b1
            try clear p2
            try clear p6
            obtain ⟨kq, HA, HJ26, HB⟩ := hcut
            cases kq with
            | zero => exact absurd HA.out (by simp [voussoirlaw27_FacenameRoundTrip.j1])
            | succ kj26 =>
              have H := HA.out
              clear HA
              simp only [voussoirlaw27_FacenameRoundTrip.j1] at H
              replace H := Option.bind_eq_some_iff.mp H
              obtain ⟨⟨t222, t223, t224, t225, t226⟩, A420, H⟩ := H
              replace H : (if t226 = 0 then ((facename_New.f kj26 t222 t223 t224).bind fun bt227 => (if t225.toList = ([] : List UInt8) then (if bt227.2 = 0 then (some (bt227.1.toList == a2.toList)) else (some false)) else ((facename_Copy.f kj26 t222 t224 t225).bind fun bt229 => (if bt229.2 = 0 then (some (bt229.1.toList == a2.toList)) else (some false))))) else (if t222.toList = ([] : List UInt8) then (if t223.toList = ([] : List UInt8) then (if t224 = 0 then (some (t225.toList == ([] : List UInt8))) else (some false)) else (some false)) else (some false))) = some r := H
              have A42 := Aside0.mk A420
              clear A420
              by_cases c43 : t226 = 0
              · rw [if_pos c43] at H
                have c43b0 : (t226 == 0) = true := beq_iff_eq.mpr c43
                have c43b1 : (t226 != 0) = false := bne_eq_false_iff_eq.mpr c43
                clear c43
                replace H := Option.bind_eq_some_iff.mp H
                obtain ⟨⟨t227, t228⟩, A440, H⟩ := H
                replace H : (if t225.toList = ([] : List UInt8) then (if t228 = 0 then (some (t227.toList == a2.toList)) else (some false)) else ((facename_Copy.f kj26 t222 t224 t225).bind fun bt229 => (if bt229.2 = 0 then (some (bt229.1.toList == a2.toList)) else (some false)))) = some r := H
                have A44 := Aside0.mk A440
                clear A440
                by_cases c45 : t225.toList = ([] : List UInt8)
                · rw [if_pos c45] at H
                  have c45b0 : (t225.toList == ([] : List UInt8)) = true := beq_iff_eq.mpr c45
                  have c45b1 : (t225.toList != ([] : List UInt8)) = false := bne_eq_false_iff_eq.mpr c45
                  clear c45
                  by_cases c46 : t228 = 0
                  · rw [if_pos c46] at H
                    have c46b0 : (t228 == 0) = true := beq_iff_eq.mpr c46
                    have c46b1 : (t228 != 0) = false := bne_eq_false_iff_eq.mpr c46
                    clear c46
                    obtain rfl := Option.some.inj H
                    go_wp2_with (first | ((with_reducible refine gate_callee (f := 12) rfl ?_); refine goesL_ (some 119) rfl rfl Tryd.func12 (by kernel_rfl) rfl #[.string a2] rfl (by (try simp only [List.map_toArray, List.map_cons, List.map_nil]); first | done | rfl | (simp only [List.length_drop, List.length_take]; rfl)) ?_; (with_reducible refine (facename_Parse.calls kj26 a2 t222 t223 t224 t225 t226 _ A42.out).mono ?_); rintro e w47 ⟨rfl, hb⟩; refine ⟨_, rfl, ?_⟩; have n0_ := Aside0.mk (below_step (by repeat (first | (with_reducible first | exact HB.out | apply below_alloc | apply pw_below_drewN | apply below_drew1) | exact HB.out)) hb); clear HB; have HB := n0_; clear n0_; (try clear hb); (try clear hb2); (try clear hk); (try clear hi)) | ((with_reducible refine gate_callee (f := 8) rfl ?_); refine goesL_ (some 145) rfl rfl Tryd.func8 (by kernel_rfl) rfl #[.string t222, .string t223, .int .i64 t224] rfl (by (try simp only [List.map_toArray, List.map_cons, List.map_nil]); first | done | rfl | (simp only [List.length_drop, List.length_take]; rfl)) ?_; (with_reducible refine (facename_New.calls kj26 t222 t223 t224 t227 t228 _ A44.out).mono ?_); rintro e w48 ⟨rfl, hb⟩; refine ⟨_, rfl, ?_⟩; have n0_ := Aside0.mk (below_step (by repeat (first | (with_reducible first | exact HB.out | apply below_alloc | apply pw_below_drewN | apply below_drew1) | exact HB.out)) hb); clear HB; have HB := n0_; clear n0_; (try clear hb); (try clear hb2); (try clear hk); (try clear hi)))
                    go_ret
                    exact ⟨by first | rfl | (simp [errW_none, errW_some] <;> rfl) | (simp [*, errW_none, errW_some] <;> rfl), by repeat (first | (with_reducible first | exact HB.out | apply below_alloc | apply pw_below_drewN | apply below_drew1) | exact HB.out)⟩
                  · rw [if_neg c46] at H
                    have c46b0 : (t228 == 0) = false := beq_eq_false_iff_ne.mpr c46
                    have c46b1 : (t228 != 0) = true := bne_iff_ne.mpr c46
                    obtain rfl := Option.some.inj H
                    go_wp2_with (first | ((with_reducible refine gate_callee (f := 12) rfl ?_); refine goesL_ (some 119) rfl rfl Tryd.func12 (by kernel_rfl) rfl #[.string a2] rfl (by (try simp only [List.map_toArray, List.map_cons, List.map_nil]); first | done | rfl | (simp only [List.length_drop, List.length_take]; rfl)) ?_; (with_reducible refine (facename_Parse.calls kj26 a2 t222 t223 t224 t225 t226 _ A42.out).mono ?_); rintro e w49 ⟨rfl, hb⟩; refine ⟨_, rfl, ?_⟩; have n0_ := Aside0.mk (below_step (by repeat (first | (with_reducible first | exact HB.out | apply below_alloc | apply pw_below_drewN | apply below_drew1) | exact HB.out)) hb); clear HB; have HB := n0_; clear n0_; (try clear hb); (try clear hb2); (try clear hk); (try clear hi)) | ((with_reducible refine gate_callee (f := 8) rfl ?_); refine goesL_ (some 145) rfl rfl Tryd.func8 (by kernel_rfl) rfl #[.string t222, .string t223, .int .i64 t224] rfl (by (try simp only [List.map_toArray, List.map_cons, List.map_nil]); first | done | rfl | (simp only [List.length_drop, List.length_take]; rfl)) ?_; (with_reducible refine (facename_New.calls kj26 t222 t223 t224 t227 t228 _ A44.out).mono ?_); rintro e w50 ⟨rfl, hb⟩; refine ⟨_, rfl, ?_⟩; have n0_ := Aside0.mk (below_step (by repeat (first | (with_reducible first | exact HB.out | apply below_alloc | apply pw_below_drewN | apply below_drew1) | exact HB.out)) hb); clear HB; have HB := n0_; clear n0_; (try clear hb); (try clear hb2); (try clear hk); (try clear hi)))
                    go_ret
                    exact ⟨by first | rfl | (simp [errW_none, errW_some] <;> rfl) | (simp [*, errW_none, errW_some] <;> rfl), by repeat (first | (with_reducible first | exact HB.out | apply below_alloc | apply pw_below_drewN | apply below_drew1) | exact HB.out)⟩
                · rw [if_neg c45] at H
                  have c45b0 : (t225.toList == ([] : List UInt8)) = false := beq_eq_false_iff_ne.mpr c45
                  have c45b1 : (t225.toList != ([] : List UInt8)) = true := bne_iff_ne.mpr c45
                  replace H := Option.bind_eq_some_iff.mp H
                  obtain ⟨⟨t229, t230⟩, A510, H⟩ := H
                  replace H : (if t230 = 0 then (some (t229.toList == a2.toList)) else (some false)) = some r := H
                  have A51 := Aside0.mk A510
                  clear A510
                  by_cases c52 : t230 = 0
                  · rw [if_pos c52] at H
                    have c52b0 : (t230 == 0) = true := beq_iff_eq.mpr c52
                    have c52b1 : (t230 != 0) = false := bne_eq_false_iff_eq.mpr c52
                    clear c52
                    obtain rfl := Option.some.inj H
                    go_wp2_with (first | ((with_reducible refine gate_callee (f := 12) rfl ?_); refine goesL_ (some 119) rfl rfl Tryd.func12 (by kernel_rfl) rfl #[.string a2] rfl (by (try simp only [List.map_toArray, List.map_cons, List.map_nil]); first | done | rfl | (simp only [List.length_drop, List.length_take]; rfl)) ?_; (with_reducible refine (facename_Parse.calls kj26 a2 t222 t223 t224 t225 t226 _ A42.out).mono ?_); rintro e w53 ⟨rfl, hb⟩; refine ⟨_, rfl, ?_⟩; have n0_ := Aside0.mk (below_step (by repeat (first | (with_reducible first | exact HB.out | apply below_alloc | apply pw_below_drewN | apply below_drew1) | exact HB.out)) hb); clear HB; have HB := n0_; clear n0_; (try clear hb); (try clear hb2); (try clear hk); (try clear hi)) | ((with_reducible refine gate_callee (f := 8) rfl ?_); refine goesL_ (some 145) rfl rfl Tryd.func8 (by kernel_rfl) rfl #[.string t222, .string t223, .int .i64 t224] rfl (by (try simp only [List.map_toArray, List.map_cons, List.map_nil]); first | done | rfl | (simp only [List.length_drop, List.length_take]; rfl)) ?_; (with_reducible refine (facename_New.calls kj26 t222 t223 t224 t227 t228 _ A44.out).mono ?_); rintro e w54 ⟨rfl, hb⟩; refine ⟨_, rfl, ?_⟩; have n0_ := Aside0.mk (below_step (by repeat (first | (with_reducible first | exact HB.out | apply below_alloc | apply pw_below_drewN | apply below_drew1) | exact HB.out)) hb); clear HB; have HB := n0_; clear n0_; (try clear hb); (try clear hb2); (try clear hk); (try clear hi)) | ((with_reducible refine gate_callee (f := 10) rfl ?_); refine goesL_ (some 154) rfl rfl Tryd.func10 (by kernel_rfl) rfl #[.string t222, .int .i64 t224, .string t225] rfl (by (try simp only [List.map_toArray, List.map_cons, List.map_nil]); first | done | rfl | (simp only [List.length_drop, List.length_take]; rfl)) ?_; (with_reducible refine (facename_Copy.calls kj26 t222 t224 t225 t229 t230 _ A51.out).mono ?_); rintro e w55 ⟨rfl, hb⟩; refine ⟨_, rfl, ?_⟩; have n0_ := Aside0.mk (below_step (by repeat (first | (with_reducible first | exact HB.out | apply below_alloc | apply pw_below_drewN | apply below_drew1) | exact HB.out)) hb); clear HB; have HB := n0_; clear n0_; (try clear hb); (try clear hb2); (try clear hk); (try clear hi)))
                    go_ret
                    exact ⟨by first | rfl | (simp [errW_none, errW_some] <;> rfl) | (simp [*, errW_none, errW_some] <;> rfl), by repeat (first | (with_reducible first | exact HB.out | apply below_alloc | apply pw_below_drewN | apply below_drew1) | exact HB.out)⟩
                  · rw [if_neg c52] at H
                    have c52b0 : (t230 == 0) = false := beq_eq_false_iff_ne.mpr c52
                    have c52b1 : (t230 != 0) = true := bne_iff_ne.mpr c52
                    obtain rfl := Option.some.inj H
                    go_wp2_with (first | ((with_reducible refine gate_callee (f := 12) rfl ?_); refine goesL_ (some 119) rfl rfl Tryd.func12 (by kernel_rfl) rfl #[.string a2] rfl (by (try simp only [List.map_toArray, List.map_cons, List.map_nil]); first | done | rfl | (simp only [List.length_drop, List.length_take]; rfl)) ?_; (with_reducible refine (facename_Parse.calls kj26 a2 t222 t223 t224 t225 t226 _ A42.out).mono ?_); rintro e w56 ⟨rfl, hb⟩; refine ⟨_, rfl, ?_⟩; have n0_ := Aside0.mk (below_step (by repeat (first | (with_reducible first | exact HB.out | apply below_alloc | apply pw_below_drewN | apply below_drew1) | exact HB.out)) hb); clear HB; have HB := n0_; clear n0_; (try clear hb); (try clear hb2); (try clear hk); (try clear hi)) | ((with_reducible refine gate_callee (f := 8) rfl ?_); refine goesL_ (some 145) rfl rfl Tryd.func8 (by kernel_rfl) rfl #[.string t222, .string t223, .int .i64 t224] rfl (by (try simp only [List.map_toArray, List.map_cons, List.map_nil]); first | done | rfl | (simp only [List.length_drop, List.length_take]; rfl)) ?_; (with_reducible refine (facename_New.calls kj26 t222 t223 t224 t227 t228 _ A44.out).mono ?_); rintro e w57 ⟨rfl, hb⟩; refine ⟨_, rfl, ?_⟩; have n0_ := Aside0.mk (below_step (by repeat (first | (with_reducible first | exact HB.out | apply below_alloc | apply pw_below_drewN | apply below_drew1) | exact HB.out)) hb); clear HB; have HB := n0_; clear n0_; (try clear hb); (try clear hb2); (try clear hk); (try clear hi)) | ((with_reducible refine gate_callee (f := 10) rfl ?_); refine goesL_ (some 154) rfl rfl Tryd.func10 (by kernel_rfl) rfl #[.string t222, .int .i64 t224, .string t225] rfl (by (try simp only [List.map_toArray, List.map_cons, List.map_nil]); first | done | rfl | (simp only [List.length_drop, List.length_take]; rfl)) ?_; (with_reducible refine (facename_Copy.calls kj26 t222 t224 t225 t229 t230 _ A51.out).mono ?_); rintro e w58 ⟨rfl, hb⟩; refine ⟨_, rfl, ?_⟩; have n0_ := Aside0.mk (below_step (by repeat (first | (with_reducible first | exact HB.out | apply below_alloc | apply pw_below_drewN | apply below_drew1) | exact HB.out)) hb); clear HB; have HB := n0_; clear n0_; (try clear hb); (try clear hb2); (try clear hk); (try clear hi)))
                    go_ret
                    exact ⟨by first | rfl | (simp [errW_none, errW_some] <;> rfl) | (simp [*, errW_none, errW_some] <;> rfl), by repeat (first | (with_reducible first | exact HB.out | apply below_alloc | apply pw_below_drewN | apply below_drew1) | exact HB.out)⟩
              · rw [if_neg c43] at H
                have c43b0 : (t226 == 0) = false := beq_eq_false_iff_ne.mpr c43
                have c43b1 : (t226 != 0) = true := bne_iff_ne.mpr c43
                by_cases c59 : t222.toList = ([] : List UInt8)
                · rw [if_pos c59] at H
                  have c59b0 : (t222.toList == ([] : List UInt8)) = true := beq_iff_eq.mpr c59
                  have c59b1 : (t222.toList != ([] : List UInt8)) = false := bne_eq_false_iff_eq.mpr c59
                  clear c59
                  by_cases c60 : t223.toList = ([] : List UInt8)
                  · rw [if_pos c60] at H
                    have c60b0 : (t223.toList == ([] : List UInt8)) = true := beq_iff_eq.mpr c60
                    have c60b1 : (t223.toList != ([] : List UInt8)) = false := bne_eq_false_iff_eq.mpr c60
                    clear c60
                    by_cases c61 : t224 = 0
                    · rw [if_pos c61] at H
                      have c61b0 : (t224 == 0) = true := beq_iff_eq.mpr c61
                      have c61b1 : (t224 != 0) = false := bne_eq_false_iff_eq.mpr c61
                      clear c61
                      obtain rfl := Option.some.inj H
                      go_wp2_with (first | ((with_reducible refine gate_callee (f := 12) rfl ?_); refine goesL_ (some 119) rfl rfl Tryd.func12 (by kernel_rfl) rfl #[.string a2] rfl (by (try simp only [List.map_toArray, List.map_cons, List.map_nil]); first | done | rfl | (simp only [List.length_drop, List.length_take]; rfl)) ?_; (with_reducible refine (facename_Parse.calls kj26 a2 t222 t223 t224 t225 t226 _ A42.out).mono ?_); rintro e w62 ⟨rfl, hb⟩; refine ⟨_, rfl, ?_⟩; have n0_ := Aside0.mk (below_step (by repeat (first | (with_reducible first | exact HB.out | apply below_alloc | apply pw_below_drewN | apply below_drew1) | exact HB.out)) hb); clear HB; have HB := n0_; clear n0_; (try clear hb); (try clear hb2); (try clear hk); (try clear hi)))
                      go_ret
                      exact ⟨by first | rfl | (simp [errW_none, errW_some] <;> rfl) | (simp [*, errW_none, errW_some] <;> rfl), by repeat (first | (with_reducible first | exact HB.out | apply below_alloc | apply pw_below_drewN | apply below_drew1) | exact HB.out)⟩
                    · rw [if_neg c61] at H
                      have c61b0 : (t224 == 0) = false := beq_eq_false_iff_ne.mpr c61
                      have c61b1 : (t224 != 0) = true := bne_iff_ne.mpr c61
                      obtain rfl := Option.some.inj H
                      go_wp2_with (first | ((with_reducible refine gate_callee (f := 12) rfl ?_); refine goesL_ (some 119) rfl rfl Tryd.func12 (by kernel_rfl) rfl #[.string a2] rfl (by (try simp only [List.map_toArray, List.map_cons, List.map_nil]); first | done | rfl | (simp only [List.length_drop, List.length_take]; rfl)) ?_; (with_reducible refine (facename_Parse.calls kj26 a2 t222 t223 t224 t225 t226 _ A42.out).mono ?_); rintro e w63 ⟨rfl, hb⟩; refine ⟨_, rfl, ?_⟩; have n0_ := Aside0.mk (below_step (by repeat (first | (with_reducible first | exact HB.out | apply below_alloc | apply pw_below_drewN | apply below_drew1) | exact HB.out)) hb); clear HB; have HB := n0_; clear n0_; (try clear hb); (try clear hb2); (try clear hk); (try clear hi)))
                      go_ret
                      exact ⟨by first | rfl | (simp [errW_none, errW_some] <;> rfl) | (simp [*, errW_none, errW_some] <;> rfl), by repeat (first | (with_reducible first | exact HB.out | apply below_alloc | apply pw_below_drewN | apply below_drew1) | exact HB.out)⟩
                  · rw [if_neg c60] at H
                    have c60b0 : (t223.toList == ([] : List UInt8)) = false := beq_eq_false_iff_ne.mpr c60
                    have c60b1 : (t223.toList != ([] : List UInt8)) = true := bne_iff_ne.mpr c60
                    obtain rfl := Option.some.inj H
                    go_wp2_with (first | ((with_reducible refine gate_callee (f := 12) rfl ?_); refine goesL_ (some 119) rfl rfl Tryd.func12 (by kernel_rfl) rfl #[.string a2] rfl (by (try simp only [List.map_toArray, List.map_cons, List.map_nil]); first | done | rfl | (simp only [List.length_drop, List.length_take]; rfl)) ?_; (with_reducible refine (facename_Parse.calls kj26 a2 t222 t223 t224 t225 t226 _ A42.out).mono ?_); rintro e w64 ⟨rfl, hb⟩; refine ⟨_, rfl, ?_⟩; have n0_ := Aside0.mk (below_step (by repeat (first | (with_reducible first | exact HB.out | apply below_alloc | apply pw_below_drewN | apply below_drew1) | exact HB.out)) hb); clear HB; have HB := n0_; clear n0_; (try clear hb); (try clear hb2); (try clear hk); (try clear hi)))
                    go_ret
                    exact ⟨by first | rfl | (simp [errW_none, errW_some] <;> rfl) | (simp [*, errW_none, errW_some] <;> rfl), by repeat (first | (with_reducible first | exact HB.out | apply below_alloc | apply pw_below_drewN | apply below_drew1) | exact HB.out)⟩
                · rw [if_neg c59] at H
                  have c59b0 : (t222.toList == ([] : List UInt8)) = false := beq_eq_false_iff_ne.mpr c59
                  have c59b1 : (t222.toList != ([] : List UInt8)) = true := bne_iff_ne.mpr c59
                  obtain rfl := Option.some.inj H
                  go_wp2_with (first | ((with_reducible refine gate_callee (f := 12) rfl ?_); refine goesL_ (some 119) rfl rfl Tryd.func12 (by kernel_rfl) rfl #[.string a2] rfl (by (try simp only [List.map_toArray, List.map_cons, List.map_nil]); first | done | rfl | (simp only [List.length_drop, List.length_take]; rfl)) ?_; (with_reducible refine (facename_Parse.calls kj26 a2 t222 t223 t224 t225 t226 _ A42.out).mono ?_); rintro e w65 ⟨rfl, hb⟩; refine ⟨_, rfl, ?_⟩; have n0_ := Aside0.mk (below_step (by repeat (first | (with_reducible first | exact HB.out | apply below_alloc | apply pw_below_drewN | apply below_drew1) | exact HB.out)) hb); clear HB; have HB := n0_; clear n0_; (try clear hb); (try clear hb2); (try clear hk); (try clear hi)))
                  go_ret
                  exact ⟨by first | rfl | (simp [errW_none, errW_some] <;> rfl) | (simp [*, errW_none, errW_some] <;> rfl), by repeat (first | (with_reducible first | exact HB.out | apply below_alloc | apply pw_below_drewN | apply below_drew1) | exact HB.out)⟩
  · replace c6 := Bool.eq_false_iff.mpr c6
    subst c6
    have H1 : (some false) = some r := by rw [if_neg (show ¬ (false = true) by decide)] at H; exact H
    clear H
    have H := H1
    clear H1
    obtain rfl := Option.some.inj H
    go_enter Tryd.func5, Tryd.ntmps5
    go_wp2_with (first | ((with_reducible refine gate_callee (f := 7) rfl ?_); refine goesL_ (some 30) rfl rfl Tryd.func7 (by kernel_rfl) rfl #[] rfl (by (try simp only [List.map_toArray, List.map_cons, List.map_nil]); first | done | rfl | (simp only [List.length_drop, List.length_take]; rfl)) ?_; (with_reducible refine (voussoirlaw27_termAlive.calls k  false _ A5.out).mono ?_); rintro e w66 ⟨rfl, hb⟩; refine ⟨_, rfl, ?_⟩; have n0_ := Aside0.mk (below_step (by repeat (first | (with_reducible first | exact HB.out | apply below_alloc | apply pw_below_drewN | apply below_drew1) | exact HB.out)) hb); clear HB; have HB := n0_; clear n0_; (try clear hb); (try clear hb2); (try clear hk); (try clear hi)))
    go_ret
    exact ⟨by first | rfl | (simp [errW_none, errW_some] <;> rfl) | (simp [*, errW_none, errW_some] <;> rfl), by repeat (first | (with_reducible first | exact HB.out | apply below_alloc | apply pw_below_drewN | apply below_drew1) | exact HB.out)⟩

/-- THE ONE PURE STATEMENT of voussoirlaw27_FacenameRoundTrip: yours. -/
def voussoirlaw27_FacenameRoundTrip.Pure : Prop := ∀ (a0 : ByteArray) (a1 : ByteArray) (a2 : ByteArray) (a3 : Int), a0.size ≤ 140737488351232 → a1.size ≤ 140737488351232 → a2.size ≤ 140737488351232 → (Lit.int .i64 a3).wf = true → ∃ k, voussoirlaw27_FacenameRoundTrip.f k a0 a1 a2 a3 = some true
theorem voussoirlaw27_FacenameRoundTrip.walk (P : voussoirlaw27_FacenameRoundTrip.Pure) (a0 : ByteArray) (a1 : ByteArray) (a2 : ByteArray) (a3 : Int) (w : World) (w0 : a0.size ≤ 140737488351232) (w1 : a1.size ≤ 140737488351232) (w2 : a2.size ≤ 140737488351232) (w3 : (Lit.int .i64 a3).wf = true) (hG : Env w) :
    Calls Tryd.prog 5 #[.string a0, .string a1, .string a2, .int .i64 a3] w fun e w' => e = .returned (.bool true) ∧ Below w.heap.size w w' := by
  obtain ⟨k, h⟩ := P a0 a1 a2 a3 w0 w1 w2 w3
  refine (voussoirlaw27_FacenameRoundTrip.calls k a0 a1 a2 a3 true w h).mono ?_
  rintro e w' ⟨rfl, hd⟩
  exact ⟨rfl, hd⟩

end Go.Proofs.YtkkndcfflmealaaDoor.X27
