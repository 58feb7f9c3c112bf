-- Written by wip/tools/xprint.py out of the translation (the kit's printer with contracts of this session's own). Lean checks it.
import Derived.Test.YtkkndcfflmealaaDoorX27x0
import Derived.Test.YtkkndcfflmealaaDoorX27x1
namespace Go.Proofs.YtkkndcfflmealaaDoor.X27
open Go.RowKit Go.Proofs.YtkkndcfflmealaaDoorW.PrintWords Go.Proofs.YtkkndcfflmealaaDoorW.PrintLast Go.Proofs.YtkkndcfflmealaaDoorW.PrintMore
attribute [local go_sem] max2_int min2_int max_two min_two max_three min_three max_four min_four   -- for this text's walks alone
set_option linter.unusedVariables false
set_option linter.unusedSimpArgs false

/-! ### facename_Parse: function 12 -/
mutual
def facename_Parse.j0 : Nat → ByteArray → ByteArray → Int → Bool → Option (ByteArray × ByteArray × Int × ByteArray × Int)
  | 0, _, _, _, _ => none
  | k + 1, x11, x15, x18, x79 => if x79 = true then (some ((⟨#[]⟩ : ByteArray), (⟨#[]⟩ : ByteArray), 0, (⟨#[]⟩ : ByteArray), 3)) else ((facename_Parse.f k x15).bind fun bt135 => (if bt135.2.2.2.2 = 0 then (some (x11, (⟨#[]⟩ : ByteArray), x18, x15, 0)) else (some ((⟨#[]⟩ : ByteArray), (⟨#[]⟩ : ByteArray), 0, (⟨#[]⟩ : ByteArray), 3))))
def facename_Parse.f : Nat → ByteArray → Option (ByteArray × ByteArray × Int × ByteArray × Int)
  | 0, _ => none
  | k + 1, a0 => if (a0.size : Int) > 200 then (some ((⟨#[]⟩ : ByteArray), (⟨#[]⟩ : ByteArray), 0, (⟨#[]⟩ : ByteArray), 3)) else ((facename_plain.f k a0).bind fun bt120 => (if bt120.2.2.2 = true then (some (bt120.1, bt120.2.1, bt120.2.2.1, (⟨#[]⟩ : ByteArray), 0)) else ((strings_Cut.f a0 (⟨#[35]⟩ : ByteArray)).bind fun bt124 => ((strings_Cut.f bt124.2.1 (⟨#[40]⟩ : ByteArray)).bind fun bt127 => ((strings_CutSuffix.f bt127.2.1 (⟨#[41]⟩ : ByteArray)).bind fun bt130 => ((facename_number.f bt127.1 1 99).bind fun bt132 => (if bt124.2.2 = true then (if bt127.2.2 = true then (if bt130.2 = true then (if bt132.2 = true then ((facename_isId.f k bt124.1).bind fun t134 => (facename_Parse.j0 k bt124.1 bt130.1 bt132.1 (!t134))) else (facename_Parse.j0 k bt124.1 bt130.1 bt132.1 true)) else (facename_Parse.j0 k bt124.1 bt130.1 bt132.1 true)) else (facename_Parse.j0 k bt124.1 bt130.1 bt132.1 true)) else (facename_Parse.j0 k bt124.1 bt130.1 bt132.1 true))))))))
end
theorem facename_Parse.mono_l : ∀ k, (∀ y0, LeO (facename_Parse.f k y0) (facename_Parse.f (k + 1) y0)) ∧ (∀ y0 y1 y2 y3, LeO (facename_Parse.j0 k y0 y1 y2 y3) (facename_Parse.j0 (k + 1) y0 y1 y2 y3))
  | 0 => ⟨fun _ r h => by simp [facename_Parse.f] at h, fun _ _ _ _ r h => by simp [facename_Parse.j0] at h⟩
  | k + 1 => by
    obtain ⟨ih0, ih1⟩ := facename_Parse.mono_l k
    refine ⟨?_, ?_⟩
    · intro y0
      unfold facename_Parse.f
      repeat' first
      | (with_reducible exact ih0 _)
      | (with_reducible exact ih1 _ _ _ _)
      | (with_reducible exact facename_isId.mono _ _)
      | (with_reducible exact facename_plain.mono _ _)
      | (with_reducible exact LeO.refl _)
      | (with_reducible exact LeO.none _)
      | (with_reducible refine LeO.ite ?_ ?_)
      | (with_reducible refine LeO.bind ?_ (fun _ => ?_))
      | exact ih0 _
      | exact ih1 _ _ _ _
      | exact facename_isId.mono _ _
      | exact facename_plain.mono _ _
      | exact LeO.none _
      | refine LeO.ite ?_ ?_
      | refine LeO.bind ?_ (fun _ => ?_)
    · intro y0 y1 y2 y3
      unfold facename_Parse.j0
      repeat' first
      | (with_reducible exact ih0 _)
      | (with_reducible exact ih1 _ _ _ _)
      | (with_reducible exact facename_isId.mono _ _)
      | (with_reducible exact facename_plain.mono _ _)
      | (with_reducible exact LeO.refl _)
      | (with_reducible exact LeO.none _)
      | (with_reducible refine LeO.ite ?_ ?_)
      | (with_reducible refine LeO.bind ?_ (fun _ => ?_))
      | exact ih0 _
      | exact ih1 _ _ _ _
      | exact facename_isId.mono _ _
      | exact facename_plain.mono _ _
      | exact LeO.none _
      | refine LeO.ite ?_ ?_
      | refine LeO.bind ?_ (fun _ => ?_)
theorem facename_Parse.mono : ∀ a0 k, LeO (facename_Parse.f k a0) (facename_Parse.f (k + 1) a0) := by
  intro a0 k
  obtain ⟨ih0, ih1⟩ := facename_Parse.mono_l k
  exact ih0 a0
set_option maxHeartbeats 8000000 in
set_option maxRecDepth 100000 in
theorem facename_Parse.calls (k : Nat) : ∀ (a0 : ByteArray) (r1 : ByteArray) (r2 : ByteArray) (r3 : Int) (r4 : ByteArray) (r5 : Int) (w : World) (h : facename_Parse.f k a0 = some (r1, r2, r3, r4, r5)) (hG : Env w := by first | assumption | exact Env.below (by assumption) (by repeat (first | exact Below.refl _ _ | exact Aside0.out (by assumption) | apply below_alloc | apply pw_below_drewN | apply below_drew1 | exact Drawn0.below (by assumption)))),
    Calls Tryd.prog 12 #[.string a0] w fun e w' => e = .returned (.tuple #[.string r1, .string r2, .int .i64 r3, .string r4, .int .i64 r5]) ∧ Below w.heap.size w w' := by
  induction k using Nat.strongRecOn with
  | _ k ih =>
  intro a0 r1 r2 r3 r4 r5 w h hG
  cases k with
  | zero => exact absurd h (by simp [facename_Parse.f])
  | succ k =>
  simp only [facename_Parse.f] at h
  have HB := Aside0.mk (Below.refl w.heap.size w)
  have H : (if (a0.size : Int) > 200 then (some ((⟨#[]⟩ : ByteArray), (⟨#[]⟩ : ByteArray), 0, (⟨#[]⟩ : ByteArray), 3)) else ((facename_plain.f k a0).bind fun bt120 => (if bt120.2.2.2 = true then (some (bt120.1, bt120.2.1, bt120.2.2.1, (⟨#[]⟩ : ByteArray), 0)) else ((strings_Cut.f a0 (⟨#[35]⟩ : ByteArray)).bind fun bt124 => ((strings_Cut.f bt124.2.1 (⟨#[40]⟩ : ByteArray)).bind fun bt127 => ((strings_CutSuffix.f bt127.2.1 (⟨#[41]⟩ : ByteArray)).bind fun bt130 => ((facename_number.f bt127.1 1 99).bind fun bt132 => (if bt124.2.2 = true then (if bt127.2.2 = true then (if bt130.2 = true then (if bt132.2 = true then ((facename_isId.f k bt124.1).bind fun t134 => (facename_Parse.j0 k bt124.1 bt130.1 bt132.1 (!t134))) else (facename_Parse.j0 k bt124.1 bt130.1 bt132.1 true)) else (facename_Parse.j0 k bt124.1 bt130.1 bt132.1 true)) else (facename_Parse.j0 k bt124.1 bt130.1 bt132.1 true)) else (facename_Parse.j0 k bt124.1 bt130.1 bt132.1 true))))))))) = some (r1, r2, r3, r4, r5) := h
  clear h
  by_cases c2 : (a0.size : Int) > 200
  · rw [if_pos c2] at H
    have c2b0 : decide (200 < (a0.size : Int)) = true := decide_eq_true c2
    have c2b1 : decide (200 < a0.size) = true := decide_eq_true (by omega)
    clear c2
    simp only [Option.some.injEq, Prod.mk.injEq] at H
    obtain ⟨rfl, rfl, rfl, rfl, rfl⟩ := H
    go_enter Tryd.func12, Tryd.ntmps12
    go_wp2
    refine bodyPost_ret (results_list (rs := [.tmp 2, .tmp 3, .tmp 4, .tmp 5, .tmp 6]) rfl (by simp) (.tmp (.tmp (.tmp (.tmp (.tmp .nil)))))) rfl ?_
    exact ⟨by first | rfl | (simp [errW_none, errW_some] <;> rfl) | (simp [*, errW_none, errW_some] <;> rfl), by repeat (first | (with_reducible first | exact HB.out | apply below_alloc | apply pw_below_drewN | apply below_drew1) | exact HB.out)⟩
  · rw [if_neg c2] at H
    have c2b0 : decide (200 < (a0.size : Int)) = false := decide_eq_false c2
    have c2b1 : decide (200 < a0.size) = false := decide_eq_false (by omega)
    clear c2
    replace H := Option.bind_eq_some_iff.mp H
    obtain ⟨⟨t120, t121, t122, t123⟩, A30, H⟩ := H
    replace H : (if t123 = true then (some (t120, t121, t122, (⟨#[]⟩ : ByteArray), 0)) else ((strings_Cut.f a0 (⟨#[35]⟩ : ByteArray)).bind fun bt124 => ((strings_Cut.f bt124.2.1 (⟨#[40]⟩ : ByteArray)).bind fun bt127 => ((strings_CutSuffix.f bt127.2.1 (⟨#[41]⟩ : ByteArray)).bind fun bt130 => ((facename_number.f bt127.1 1 99).bind fun bt132 => (if bt124.2.2 = true then (if bt127.2.2 = true then (if bt130.2 = true then (if bt132.2 = true then ((facename_isId.f k bt124.1).bind fun t134 => (facename_Parse.j0 k bt124.1 bt130.1 bt132.1 (!t134))) else (facename_Parse.j0 k bt124.1 bt130.1 bt132.1 true)) else (facename_Parse.j0 k bt124.1 bt130.1 bt132.1 true)) else (facename_Parse.j0 k bt124.1 bt130.1 bt132.1 true)) else (facename_Parse.j0 k bt124.1 bt130.1 bt132.1 true))))))) = some (r1, r2, r3, r4, r5) := H
    have A3 := Aside0.mk A30
    clear A30
    by_cases c4 : t123 = true
    · subst c4
      have H1 : (some (t120, t121, t122, (⟨#[]⟩ : ByteArray), 0)) = some (r1, r2, r3, r4, r5) := by rw [if_pos rfl] at H; exact H
      clear H
      have H := H1
      clear H1
      simp only [Option.some.injEq, Prod.mk.injEq] at H
      obtain ⟨rfl, rfl, rfl, rfl, rfl⟩ := H
      go_enter Tryd.func12, Tryd.ntmps12
      go_wp2_with (first | ((with_reducible refine gate_callee (f := 24) rfl ?_); refine goesL_ (some 30) rfl rfl Tryd.func24 (by kernel_rfl) rfl #[.string a0] rfl (by (try simp only [List.map_toArray, List.map_cons, List.map_nil]); first | done | rfl | (simp only [List.length_drop, List.length_take]; rfl)) ?_; (with_reducible refine (facename_plain.calls k a0 t120 t121 t122 true _ A3.out).mono ?_); rintro e w5 ⟨rfl, hb⟩; refine ⟨_, rfl, ?_⟩; have n0_ := Aside0.mk (below_step (by repeat (first | (with_reducible first | exact HB.out | apply below_alloc | apply pw_below_drewN | apply below_drew1) | exact HB.out)) hb); clear HB; have HB := n0_; clear n0_; (try clear hb); (try clear hb2); (try clear hk); (try clear hi)))
      refine bodyPost_ret (results_list (rs := [.tmp 2, .tmp 3, .tmp 4, .tmp 5, .tmp 6]) rfl (by simp) (.tmp (.tmp (.tmp (.tmp (.tmp .nil)))))) rfl ?_
      exact ⟨by first | rfl | (simp [errW_none, errW_some] <;> rfl) | (simp [*, errW_none, errW_some] <;> rfl), by repeat (first | (with_reducible first | exact HB.out | apply below_alloc | apply pw_below_drewN | apply below_drew1) | exact HB.out)⟩
    · replace c4 := Bool.eq_false_iff.mpr c4
      subst c4
      have H1 : ((strings_Cut.f a0 (⟨#[35]⟩ : ByteArray)).bind fun bt124 => ((strings_Cut.f bt124.2.1 (⟨#[40]⟩ : ByteArray)).bind fun bt127 => ((strings_CutSuffix.f bt127.2.1 (⟨#[41]⟩ : ByteArray)).bind fun bt130 => ((facename_number.f bt127.1 1 99).bind fun bt132 => (if bt124.2.2 = true then (if bt127.2.2 = true then (if bt130.2 = true then (if bt132.2 = true then ((facename_isId.f k bt124.1).bind fun t134 => (facename_Parse.j0 k bt124.1 bt130.1 bt132.1 (!t134))) else (facename_Parse.j0 k bt124.1 bt130.1 bt132.1 true)) else (facename_Parse.j0 k bt124.1 bt130.1 bt132.1 true)) else (facename_Parse.j0 k bt124.1 bt130.1 bt132.1 true)) else (facename_Parse.j0 k bt124.1 bt130.1 bt132.1 true)))))) = some (r1, r2, r3, r4, r5) := by rw [if_neg (show ¬ (false = true) by decide)] at H; exact H
      clear H
      have H := H1
      clear H1
      replace H := Option.bind_eq_some_iff.mp H
      obtain ⟨⟨t124, t125, t126⟩, A60, H⟩ := H
      replace H : ((strings_Cut.f t125 (⟨#[40]⟩ : ByteArray)).bind fun bt127 => ((strings_CutSuffix.f bt127.2.1 (⟨#[41]⟩ : ByteArray)).bind fun bt130 => ((facename_number.f bt127.1 1 99).bind fun bt132 => (if t126 = true then (if bt127.2.2 = true then (if bt130.2 = true then (if bt132.2 = true then ((facename_isId.f k t124).bind fun t134 => (facename_Parse.j0 k t124 bt130.1 bt132.1 (!t134))) else (facename_Parse.j0 k t124 bt130.1 bt132.1 true)) else (facename_Parse.j0 k t124 bt130.1 bt132.1 true)) else (facename_Parse.j0 k t124 bt130.1 bt132.1 true)) else (facename_Parse.j0 k t124 bt130.1 bt132.1 true))))) = some (r1, r2, r3, r4, r5) := H
      have A6 := Aside0.mk A60
      clear A60
      replace H := Option.bind_eq_some_iff.mp H
      obtain ⟨⟨t127, t128, t129⟩, A70, H⟩ := H
      replace H : ((strings_CutSuffix.f t128 (⟨#[41]⟩ : ByteArray)).bind fun bt130 => ((facename_number.f t127 1 99).bind fun bt132 => (if t126 = true then (if t129 = true then (if bt130.2 = true then (if bt132.2 = true then ((facename_isId.f k t124).bind fun t134 => (facename_Parse.j0 k t124 bt130.1 bt132.1 (!t134))) else (facename_Parse.j0 k t124 bt130.1 bt132.1 true)) else (facename_Parse.j0 k t124 bt130.1 bt132.1 true)) else (facename_Parse.j0 k t124 bt130.1 bt132.1 true)) else (facename_Parse.j0 k t124 bt130.1 bt132.1 true)))) = some (r1, r2, r3, r4, r5) := H
      have A7 := Aside0.mk A70
      clear A70
      replace H := Option.bind_eq_some_iff.mp H
      obtain ⟨⟨t130, t131⟩, A80, H⟩ := H
      replace H : ((facename_number.f t127 1 99).bind fun bt132 => (if t126 = true then (if t129 = true then (if t131 = true then (if bt132.2 = true then ((facename_isId.f k t124).bind fun t134 => (facename_Parse.j0 k t124 t130 bt132.1 (!t134))) else (facename_Parse.j0 k t124 t130 bt132.1 true)) else (facename_Parse.j0 k t124 t130 bt132.1 true)) else (facename_Parse.j0 k t124 t130 bt132.1 true)) else (facename_Parse.j0 k t124 t130 bt132.1 true))) = some (r1, r2, r3, r4, r5) := H
      have A8 := Aside0.mk A80
      clear A80
      replace H := Option.bind_eq_some_iff.mp H
      obtain ⟨⟨t132, t133⟩, A90, H⟩ := H
      replace H : (if t126 = true then (if t129 = true then (if t131 = true then (if t133 = true then ((facename_isId.f k t124).bind fun t134 => (facename_Parse.j0 k t124 t130 t132 (!t134))) else (facename_Parse.j0 k t124 t130 t132 true)) else (facename_Parse.j0 k t124 t130 t132 true)) else (facename_Parse.j0 k t124 t130 t132 true)) else (facename_Parse.j0 k t124 t130 t132 true)) = some (r1, r2, r3, r4, r5) := H
      have A9 := Aside0.mk A90
      clear A90
      have HC10 := Aside0.mk H
      clear H
      go_enter Tryd.func12, Tryd.ntmps12
      go_upto_region 10 with (first | ((with_reducible refine gate_callee (f := 24) rfl ?_); refine goesL_ (some 30) rfl rfl Tryd.func24 (by kernel_rfl) rfl #[.string a0] rfl (by (try simp only [List.map_toArray, List.map_cons, List.map_nil]); first | done | rfl | (simp only [List.length_drop, List.length_take]; rfl)) ?_; (with_reducible refine (facename_plain.calls k a0 t120 t121 t122 false _ A3.out).mono ?_); rintro e w11 ⟨rfl, hb⟩; refine ⟨_, rfl, ?_⟩; have n0_ := Aside0.mk (below_step (by repeat (first | (with_reducible first | exact HB.out | apply below_alloc | apply pw_below_drewN | apply below_drew1) | exact HB.out)) hb); clear HB; have HB := n0_; clear n0_; (try clear hb); (try clear hb2); (try clear hk); (try clear hi)) | ((with_reducible refine gate_callee (f := 25) rfl ?_); refine goesL_ (some 41) rfl rfl Tryd.func25 (by kernel_rfl) rfl #[.string a0, .string (⟨#[35]⟩ : ByteArray)] rfl (by (try simp only [List.map_toArray, List.map_cons, List.map_nil]); first | done | rfl | (simp only [List.length_drop, List.length_take]; rfl)) ?_; (with_reducible refine (strings_Cut.calls a0 (⟨#[35]⟩ : ByteArray) t124 t125 t126 _ A6.out).mono ?_); rintro e w' ⟨rfl, ⟨nd, rfl⟩⟩; refine ⟨_, rfl, ?_⟩) | ((with_reducible refine gate_callee (f := 25) rfl ?_); refine goesL_ (some 47) rfl rfl Tryd.func25 (by kernel_rfl) rfl #[.string t125, .string (⟨#[40]⟩ : ByteArray)] rfl (by (try simp only [List.map_toArray, List.map_cons, List.map_nil]); first | done | rfl | (simp only [List.length_drop, List.length_take]; rfl)) ?_; (with_reducible refine (strings_Cut.calls t125 (⟨#[40]⟩ : ByteArray) t127 t128 t129 _ A7.out).mono ?_); rintro e w' ⟨rfl, ⟨nd, rfl⟩⟩; refine ⟨_, rfl, ?_⟩) | ((with_reducible refine gate_callee (f := 26) rfl ?_); refine goesL_ (some 53) rfl rfl Tryd.func26 (by kernel_rfl) rfl #[.string t128, .string (⟨#[41]⟩ : ByteArray)] rfl (by (try simp only [List.map_toArray, List.map_cons, List.map_nil]); first | done | rfl | (simp only [List.length_drop, List.length_take]; rfl)) ?_; (with_reducible refine (strings_CutSuffix.calls t128 (⟨#[41]⟩ : ByteArray) t130 t131 _ A8.out).mono ?_); rintro e w' ⟨rfl, ⟨nd, rfl⟩⟩; refine ⟨_, rfl, ?_⟩) | ((with_reducible refine gate_callee (f := 27) rfl ?_); refine goesL_ (some 58) rfl rfl Tryd.func27 (by kernel_rfl) rfl #[.string t127, .int .i64 1, .int .i64 99] rfl (by (try simp only [List.map_toArray, List.map_cons, List.map_nil]); first | done | rfl | (simp only [List.length_drop, List.length_take]; rfl)) ?_; (with_reducible refine (facename_number.calls t127 1 99 t132 t133 _ A9.out).mono ?_); rintro e w12 ⟨rfl, hb⟩; refine ⟨_, rfl, ?_⟩; have n0_ := Aside0.mk (below_step (by repeat (first | (with_reducible first | exact HB.out | apply below_alloc | apply pw_below_drewN | apply below_drew1) | exact HB.out)) hb); clear HB; have HB := n0_; clear n0_; (try clear hb); (try clear hb2); (try clear hk); (try clear hi)))
      (try simp only [Act.put, List.setIfInBounds_toArray, List.set_cons_zero, List.set_cons_succ])
      go_cut [79] (fun v79 wc => ∃ (kq : Nat) (x79_9 : Bool), v79 = .bool x79_9 ∧ Aside0 (facename_Parse.j0 kq t124 t130 t132 x79_9 = some (r1, r2, r3, r4, r5)) ∧ Aside0 (kq ≤ k) ∧ Aside0 (Below w.heap.size w wc))
      case first =>
        have H := HC10.out
        clear HC10
        by_cases c13 : t126 = true
        · subst c13
          have H1 : (if t129 = true then (if t131 = true then (if t133 = true then ((facename_isId.f k t124).bind fun t134 => (facename_Parse.j0 k t124 t130 t132 (!t134))) else (facename_Parse.j0 k t124 t130 t132 true)) else (facename_Parse.j0 k t124 t130 t132 true)) else (facename_Parse.j0 k t124 t130 t132 true)) = some (r1, r2, r3, r4, r5) := by rw [if_pos rfl] at H; exact H
          clear H
          have H := H1
          clear H1
          by_cases c14 : t129 = true
          · subst c14
            have H1 : (if t131 = true then (if t133 = true then ((facename_isId.f k t124).bind fun t134 => (facename_Parse.j0 k t124 t130 t132 (!t134))) else (facename_Parse.j0 k t124 t130 t132 true)) else (facename_Parse.j0 k t124 t130 t132 true)) = some (r1, r2, r3, r4, r5) := by rw [if_pos rfl] at H; exact H
            clear H
            have H := H1
            clear H1
            by_cases c15 : t131 = true
            · subst c15
              have H1 : (if t133 = true then ((facename_isId.f k t124).bind fun t134 => (facename_Parse.j0 k t124 t130 t132 (!t134))) else (facename_Parse.j0 k t124 t130 t132 true)) = some (r1, r2, r3, r4, r5) := by rw [if_pos rfl] at H; exact H
              clear H
              have H := H1
              clear H1
              by_cases c16 : t133 = true
              · subst c16
                have H1 : ((facename_isId.f k t124).bind fun t134 => (facename_Parse.j0 k t124 t130 t132 (!t134))) = some (r1, r2, r3, r4, r5) := by rw [if_pos rfl] at H; exact H
                clear H
                have H := H1
                clear H1
                replace H := Option.bind_eq_some_iff.mp H
                obtain ⟨t134, A170, H⟩ := H
                replace H : (facename_Parse.j0 k t124 t130 t132 (!t134)) = some (r1, r2, r3, r4, r5) := H
                have A17 := Aside0.mk A170
                clear A170
                have H' := Aside0.mk H
                clear H
                go_wp2_with (first | (go_at_call 18; (with_reducible refine (facename_isId.calls k t124 t134 _ A17.out).mono ?_); rintro e w18 ⟨rfl, hb⟩; have n0_ := Aside0.mk (below_step (by repeat (first | (with_reducible first | exact HB.out | apply below_alloc | apply pw_below_drewN | apply below_drew1) | exact HB.out)) hb); clear HB; have HB := n0_; clear n0_; (try clear hb); (try clear hb2); (try clear hk); (try clear hi)))
                go_meet
                case rel => exact ⟨_, (!t134), (by first | rfl | (simp; done) | (simp [*]; done)), H', ⟨by first | omega | exact Nat.le_refl _⟩, ⟨by repeat (first | (with_reducible first | exact HB.out | apply below_alloc | apply pw_below_drewN | apply below_drew1) | exact HB.out)⟩⟩
              · replace c16 := Bool.eq_false_iff.mpr c16
                subst c16
                have H1 : (facename_Parse.j0 k t124 t130 t132 true) = some (r1, r2, r3, r4, r5) := by rw [if_neg (show ¬ (false = true) by decide)] at H; exact H
                clear H
                have H := H1
                clear H1
                have H' := Aside0.mk H
                clear H
                go_wp2
                go_meet
                case rel => exact ⟨_, (true), (by first | rfl | (simp; done) | (simp [*]; done)), H', ⟨by first | omega | exact Nat.le_refl _⟩, ⟨by repeat (first | (with_reducible first | exact HB.out | apply below_alloc | apply pw_below_drewN | apply below_drew1) | exact HB.out)⟩⟩
            · replace c15 := Bool.eq_false_iff.mpr c15
              subst c15
              have H1 : (facename_Parse.j0 k t124 t130 t132 true) = some (r1, r2, r3, r4, r5) := by rw [if_neg (show ¬ (false = true) by decide)] at H; exact H
              clear H
              have H := H1
              clear H1
              have H' := Aside0.mk H
              clear H
              go_wp2
              go_meet
              case rel => exact ⟨_, (true), (by first | rfl | (simp; done) | (simp [*]; done)), H', ⟨by first | omega | exact Nat.le_refl _⟩, ⟨by repeat (first | (with_reducible first | exact HB.out | apply below_alloc | apply pw_below_drewN | apply below_drew1) | exact HB.out)⟩⟩
          · replace c14 := Bool.eq_false_iff.mpr c14
            subst c14
            have H1 : (facename_Parse.j0 k t124 t130 t132 true) = some (r1, r2, r3, r4, r5) := by rw [if_neg (show ¬ (false = true) by decide)] at H; exact H
            clear H
            have H := H1
            clear H1
            have H' := Aside0.mk H
            clear H
            go_wp2
            go_meet
            case rel => exact ⟨_, (true), (by first | rfl | (simp; done) | (simp [*]; done)), H', ⟨by first | omega | exact Nat.le_refl _⟩, ⟨by repeat (first | (with_reducible first | exact HB.out | apply below_alloc | apply pw_below_drewN | apply below_drew1) | exact HB.out)⟩⟩
        · replace c13 := Bool.eq_false_iff.mpr c13
          subst c13
          have H1 : (facename_Parse.j0 k t124 t130 t132 true) = some (r1, r2, r3, r4, r5) := by rw [if_neg (show ¬ (false = true) by decide)] at H; exact H
          clear H
          have H := H1
          clear H1
          have H' := Aside0.mk H
          clear H
          go_wp2
          go_meet
          case rel => exact ⟨_, (true), (by first | rfl | (simp; done) | (simp [*]; done)), H', ⟨by first | omega | exact Nat.le_refl _⟩, ⟨by repeat (first | (with_reducible first | exact HB.out | apply below_alloc | apply pw_below_drewN | apply below_drew1) | exact HB.out)⟩⟩
      case rest =>
        clear HC10
        try clear c1
        try clear c2
        try clear c2b0
        try clear c2b1
        try clear p2
        try clear c4
        try clear c12
        try clear c13
        try clear c14
        try clear c15
        try clear c16
        obtain ⟨kq, x79_9, rfl, HA, HJ9, HB⟩ := hcut
        cases kq with
        | zero => exact absurd HA.out (by simp [facename_Parse.j0])
        | succ kj9 =>
          have H := HA.out
          clear HA
          simp only [facename_Parse.j0] at H
          by_cases c19 : x79_9 = true
          · subst c19
            have H1 : (some ((⟨#[]⟩ : ByteArray), (⟨#[]⟩ : ByteArray), 0, (⟨#[]⟩ : ByteArray), 3)) = some (r1, r2, r3, r4, r5) := by rw [if_pos rfl] at H; exact H
            clear H
            have H := H1
            clear H1
            simp only [Option.some.injEq, Prod.mk.injEq] at H
            obtain ⟨rfl, rfl, rfl, rfl, rfl⟩ := H
            go_wp2
            refine bodyPost_ret (results_list (rs := [.tmp 2, .tmp 3, .tmp 4, .tmp 5, .tmp 6]) rfl (by simp) (.tmp (.tmp (.tmp (.tmp (.tmp .nil)))))) rfl ?_
            exact ⟨by first | rfl | (simp [errW_none, errW_some] <;> rfl) | (simp [*, errW_none, errW_some] <;> rfl), by repeat (first | (with_reducible first | exact HB.out | apply below_alloc | apply pw_below_drewN | apply below_drew1) | exact HB.out)⟩
          · replace c19 := Bool.eq_false_iff.mpr c19
            subst c19
            have H1 : ((facename_Parse.f kj9 t130).bind fun bt135 => (if bt135.2.2.2.2 = 0 then (some (t124, (⟨#[]⟩ : ByteArray), t132, t130, 0)) else (some ((⟨#[]⟩ : ByteArray), (⟨#[]⟩ : ByteArray), 0, (⟨#[]⟩ : ByteArray), 3)))) = some (r1, r2, r3, r4, r5) := by rw [if_neg (show ¬ (false = true) by decide)] at H; exact H
            clear H
            have H := H1
            clear H1
            replace H := Option.bind_eq_some_iff.mp H
            obtain ⟨⟨t135, t136, t137, t138, t139⟩, A200, H⟩ := H
            replace H : (if t139 = 0 then (some (t124, (⟨#[]⟩ : ByteArray), t132, t130, 0)) else (some ((⟨#[]⟩ : ByteArray), (⟨#[]⟩ : ByteArray), 0, (⟨#[]⟩ : ByteArray), 3))) = some (r1, r2, r3, r4, r5) := H
            have A20 := Aside0.mk A200
            clear A200
            by_cases c21 : t139 = 0
            · rw [if_pos c21] at H
              have c21b0 : (t139 == 0) = true := beq_iff_eq.mpr c21
              have c21b1 : (t139 != 0) = false := bne_eq_false_iff_eq.mpr c21
              clear c21
              simp only [Option.some.injEq, Prod.mk.injEq] at H
              obtain ⟨rfl, rfl, rfl, rfl, rfl⟩ := H
              go_wp2_with (first | ((with_reducible refine gate_callee (f := 12) rfl ?_); refine goesL_ (some 82) rfl rfl Tryd.func12 (by kernel_rfl) rfl #[.string t130] rfl (by (try simp only [List.map_toArray, List.map_cons, List.map_nil]); first | done | rfl | (simp only [List.length_drop, List.length_take]; rfl)) ?_; (with_reducible refine (ih kj9 (by have := HJ9.out; omega) t130 t135 t136 t137 t138 t139 _ A20.out).mono ?_); rintro e w22 ⟨rfl, hb⟩; refine ⟨_, rfl, ?_⟩; have n0_ := Aside0.mk (below_step (by repeat (first | (with_reducible first | exact HB.out | apply below_alloc | apply pw_below_drewN | apply below_drew1) | exact HB.out)) hb); clear HB; have HB := n0_; clear n0_; (try clear hb); (try clear hb2); (try clear hk); (try clear hi)))
              refine bodyPost_ret (results_list (rs := [.tmp 2, .tmp 3, .tmp 4, .tmp 5, .tmp 6]) rfl (by simp) (.tmp (.tmp (.tmp (.tmp (.tmp .nil)))))) rfl ?_
              exact ⟨by first | rfl | (simp [errW_none, errW_some] <;> rfl) | (simp [*, errW_none, errW_some] <;> rfl), by repeat (first | (with_reducible first | exact HB.out | apply below_alloc | apply pw_below_drewN | apply below_drew1) | exact HB.out)⟩
            · rw [if_neg c21] at H
              have c21b0 : (t139 == 0) = false := beq_eq_false_iff_ne.mpr c21
              have c21b1 : (t139 != 0) = true := bne_iff_ne.mpr c21
              simp only [Option.some.injEq, Prod.mk.injEq] at H
              obtain ⟨rfl, rfl, rfl, rfl, rfl⟩ := H
              go_wp2_with (first | ((with_reducible refine gate_callee (f := 12) rfl ?_); refine goesL_ (some 82) rfl rfl Tryd.func12 (by kernel_rfl) rfl #[.string t130] rfl (by (try simp only [List.map_toArray, List.map_cons, List.map_nil]); first | done | rfl | (simp only [List.length_drop, List.length_take]; rfl)) ?_; (with_reducible refine (ih kj9 (by have := HJ9.out; omega) t130 t135 t136 t137 t138 t139 _ A20.out).mono ?_); rintro e w23 ⟨rfl, hb⟩; refine ⟨_, rfl, ?_⟩; have n0_ := Aside0.mk (below_step (by repeat (first | (with_reducible first | exact HB.out | apply below_alloc | apply pw_below_drewN | apply below_drew1) | exact HB.out)) hb); clear HB; have HB := n0_; clear n0_; (try clear hb); (try clear hb2); (try clear hk); (try clear hi)))
              refine bodyPost_ret (results_list (rs := [.tmp 2, .tmp 3, .tmp 4, .tmp 5, .tmp 6]) rfl (by simp) (.tmp (.tmp (.tmp (.tmp (.tmp .nil)))))) rfl ?_
              exact ⟨by first | rfl | (simp [errW_none, errW_some] <;> rfl) | (simp [*, errW_none, errW_some] <;> rfl), by repeat (first | (with_reducible first | exact HB.out | apply below_alloc | apply pw_below_drewN | apply below_drew1) | exact HB.out)⟩

/-! ### facename_Copy: function 10 -/
def facename_Copy.f (k : Nat) (a0 : ByteArray) (a1 : Int) (a2 : ByteArray) : Option (ByteArray × Int) := (facename_isId.f k a0).bind fun t140 => (if t140 = true then (if a1 < 1 then (some ((⟨#[]⟩ : ByteArray), 2)) else (if a1 > 99 then (some ((⟨#[]⟩ : ByteArray), 2)) else ((facename_Parse.f k a2).bind fun bt141 => (if bt141.2.2.2.2 = 0 then (if a0.size + 1 ≤ 9223372036854775807 then ((strconv_Itoa.f a1).bind fun t146 => (if (a0 ++ (⟨#[35]⟩ : ByteArray)).size + t146.size ≤ 9223372036854775807 then (if ((a0 ++ (⟨#[35]⟩ : ByteArray)) ++ t146).size + 1 ≤ 9223372036854775807 then (if (((a0 ++ (⟨#[35]⟩ : ByteArray)) ++ t146) ++ (⟨#[40]⟩ : ByteArray)).size + a2.size ≤ 9223372036854775807 then (if ((((a0 ++ (⟨#[35]⟩ : ByteArray)) ++ t146) ++ (⟨#[40]⟩ : ByteArray)) ++ a2).size + 1 ≤ 9223372036854775807 then (if ((((((a0 ++ (⟨#[35]⟩ : ByteArray)) ++ t146) ++ (⟨#[40]⟩ : ByteArray)) ++ a2) ++ (⟨#[41]⟩ : ByteArray)).size : Int) > 200 then (some ((⟨#[]⟩ : ByteArray), 6)) else (some (((((a0 ++ (⟨#[35]⟩ : ByteArray)) ++ t146) ++ (⟨#[40]⟩ : ByteArray)) ++ a2) ++ (⟨#[41]⟩ : ByteArray), 0))) else (none)) else (none)) else (none)) else (none))) else (none)) else (some ((⟨#[]⟩ : ByteArray), 3)))))) else (some ((⟨#[]⟩ : ByteArray), 7)))
theorem facename_Copy.mono : ∀ a0 a1 a2 k, LeO (facename_Copy.f k a0 a1 a2) (facename_Copy.f (k + 1) a0 a1 a2) := by
  intro a0 a1 a2 k
  unfold facename_Copy.f
  repeat' first
      | (with_reducible exact facename_Parse.mono _ _)
      | (with_reducible exact facename_isId.mono _ _)
      | (with_reducible exact LeO.refl _)
      | (with_reducible exact LeO.none _)
      | (with_reducible refine LeO.ite ?_ ?_)
      | (with_reducible refine LeO.bind ?_ (fun _ => ?_))
      | exact facename_Parse.mono _ _
      | exact facename_isId.mono _ _
      | exact LeO.none _
      | refine LeO.ite ?_ ?_
      | refine LeO.bind ?_ (fun _ => ?_)
set_option maxHeartbeats 8000000 in
set_option maxRecDepth 100000 in
theorem facename_Copy.calls (k : Nat) (a0 : ByteArray) (a1 : Int) (a2 : ByteArray) (r1 : ByteArray) (r2 : Int) (w : World) (h : facename_Copy.f k a0 a1 a2 = some (r1, r2)) (hG : Env w := by first | assumption | exact Env.below (by assumption) (by repeat (first | exact Below.refl _ _ | exact Aside0.out (by assumption) | apply below_alloc | apply pw_below_drewN | apply below_drew1 | exact Drawn0.below (by assumption)))) :
    Calls Tryd.prog 10 #[.string a0, .int .i64 a1, .string a2] w fun e w' => e = .returned (.tuple #[.string r1, .int .i64 r2]) ∧ Below w.heap.size w w' := by
  have HB := Aside0.mk (Below.refl w.heap.size w)
  have H : ((facename_isId.f k a0).bind fun t140 => (if t140 = true then (if a1 < 1 then (some ((⟨#[]⟩ : ByteArray), 2)) else (if a1 > 99 then (some ((⟨#[]⟩ : ByteArray), 2)) else ((facename_Parse.f k a2).bind fun bt141 => (if bt141.2.2.2.2 = 0 then (if a0.size + 1 ≤ 9223372036854775807 then ((strconv_Itoa.f a1).bind fun t146 => (if (a0 ++ (⟨#[35]⟩ : ByteArray)).size + t146.size ≤ 9223372036854775807 then (if ((a0 ++ (⟨#[35]⟩ : ByteArray)) ++ t146).size + 1 ≤ 9223372036854775807 then (if (((a0 ++ (⟨#[35]⟩ : ByteArray)) ++ t146) ++ (⟨#[40]⟩ : ByteArray)).size + a2.size ≤ 9223372036854775807 then (if ((((a0 ++ (⟨#[35]⟩ : ByteArray)) ++ t146) ++ (⟨#[40]⟩ : ByteArray)) ++ a2).size + 1 ≤ 9223372036854775807 then (if ((((((a0 ++ (⟨#[35]⟩ : ByteArray)) ++ t146) ++ (⟨#[40]⟩ : ByteArray)) ++ a2) ++ (⟨#[41]⟩ : ByteArray)).size : Int) > 200 then (some ((⟨#[]⟩ : ByteArray), 6)) else (some (((((a0 ++ (⟨#[35]⟩ : ByteArray)) ++ t146) ++ (⟨#[40]⟩ : ByteArray)) ++ a2) ++ (⟨#[41]⟩ : ByteArray), 0))) else (none)) else (none)) else (none)) else (none))) else (none)) else (some ((⟨#[]⟩ : ByteArray), 3)))))) else (some ((⟨#[]⟩ : ByteArray), 7)))) = some (r1, r2) := h
  clear h
  replace H := Option.bind_eq_some_iff.mp H
  obtain ⟨t140, A40, H⟩ := H
  replace H : (if t140 = true then (if a1 < 1 then (some ((⟨#[]⟩ : ByteArray), 2)) else (if a1 > 99 then (some ((⟨#[]⟩ : ByteArray), 2)) else ((facename_Parse.f k a2).bind fun bt141 => (if bt141.2.2.2.2 = 0 then (if a0.size + 1 ≤ 9223372036854775807 then ((strconv_Itoa.f a1).bind fun t146 => (if (a0 ++ (⟨#[35]⟩ : ByteArray)).size + t146.size ≤ 9223372036854775807 then (if ((a0 ++ (⟨#[35]⟩ : ByteArray)) ++ t146).size + 1 ≤ 9223372036854775807 then (if (((a0 ++ (⟨#[35]⟩ : ByteArray)) ++ t146) ++ (⟨#[40]⟩ : ByteArray)).size + a2.size ≤ 9223372036854775807 then (if ((((a0 ++ (⟨#[35]⟩ : ByteArray)) ++ t146) ++ (⟨#[40]⟩ : ByteArray)) ++ a2).size + 1 ≤ 9223372036854775807 then (if ((((((a0 ++ (⟨#[35]⟩ : ByteArray)) ++ t146) ++ (⟨#[40]⟩ : ByteArray)) ++ a2) ++ (⟨#[41]⟩ : ByteArray)).size : Int) > 200 then (some ((⟨#[]⟩ : ByteArray), 6)) else (some (((((a0 ++ (⟨#[35]⟩ : ByteArray)) ++ t146) ++ (⟨#[40]⟩ : ByteArray)) ++ a2) ++ (⟨#[41]⟩ : ByteArray), 0))) else (none)) else (none)) else (none)) else (none))) else (none)) else (some ((⟨#[]⟩ : ByteArray), 3)))))) else (some ((⟨#[]⟩ : ByteArray), 7))) = some (r1, r2) := H
  have A4 := Aside0.mk A40
  clear A40
  by_cases c5 : t140 = true
  · subst c5
    have H1 : (if a1 < 1 then (some ((⟨#[]⟩ : ByteArray), 2)) else (if a1 > 99 then (some ((⟨#[]⟩ : ByteArray), 2)) else ((facename_Parse.f k a2).bind fun bt141 => (if bt141.2.2.2.2 = 0 then (if a0.size + 1 ≤ 9223372036854775807 then ((strconv_Itoa.f a1).bind fun t146 => (if (a0 ++ (⟨#[35]⟩ : ByteArray)).size + t146.size ≤ 9223372036854775807 then (if ((a0 ++ (⟨#[35]⟩ : ByteArray)) ++ t146).size + 1 ≤ 9223372036854775807 then (if (((a0 ++ (⟨#[35]⟩ : ByteArray)) ++ t146) ++ (⟨#[40]⟩ : ByteArray)).size + a2.size ≤ 9223372036854775807 then (if ((((a0 ++ (⟨#[35]⟩ : ByteArray)) ++ t146) ++ (⟨#[40]⟩ : ByteArray)) ++ a2).size + 1 ≤ 9223372036854775807 then (if ((((((a0 ++ (⟨#[35]⟩ : ByteArray)) ++ t146) ++ (⟨#[40]⟩ : ByteArray)) ++ a2) ++ (⟨#[41]⟩ : ByteArray)).size : Int) > 200 then (some ((⟨#[]⟩ : ByteArray), 6)) else (some (((((a0 ++ (⟨#[35]⟩ : ByteArray)) ++ t146) ++ (⟨#[40]⟩ : ByteArray)) ++ a2) ++ (⟨#[41]⟩ : ByteArray), 0))) else (none)) else (none)) else (none)) else (none))) else (none)) else (some ((⟨#[]⟩ : ByteArray), 3)))))) = some (r1, r2) := by rw [if_pos rfl] at H; exact H
    clear H
    have H := H1
    clear H1
    by_cases c6 : a1 < 1
    · rw [if_pos c6] at H
      have c6b0 : decide (a1 < 1) = true := decide_eq_true c6
      clear c6
      simp only [Option.some.injEq, Prod.mk.injEq] at H
      obtain ⟨rfl, rfl⟩ := H
      go_enter Tryd.func10, Tryd.ntmps10
      go_wp2_with (first | ((with_reducible refine gate_callee (f := 18) rfl ?_); refine goesL_ (some 16) rfl rfl Tryd.func18 (by kernel_rfl) rfl #[.string a0] rfl (by (try simp only [List.map_toArray, List.map_cons, List.map_nil]); first | done | rfl | (simp only [List.length_drop, List.length_take]; rfl)) ?_; (with_reducible refine (facename_isId.calls k a0 true _ A4.out).mono ?_); rintro e w7 ⟨rfl, hb⟩; refine ⟨_, rfl, ?_⟩; have n0_ := Aside0.mk (below_step (by repeat (first | (with_reducible first | exact HB.out | apply below_alloc | apply pw_below_drewN | apply below_drew1) | exact HB.out)) hb); clear HB; have HB := n0_; clear n0_; (try clear hb); (try clear hb2); (try clear hk); (try clear hi)))
      go_ret2
      exact ⟨by first | rfl | (simp [errW_none, errW_some] <;> rfl) | (simp [*, errW_none, errW_some] <;> rfl), by repeat (first | (with_reducible first | exact HB.out | apply below_alloc | apply pw_below_drewN | apply below_drew1) | exact HB.out)⟩
    · rw [if_neg c6] at H
      have c6b0 : decide (a1 < 1) = false := decide_eq_false c6
      clear c6
      by_cases c8 : a1 > 99
      · rw [if_pos c8] at H
        have c8b0 : decide (99 < a1) = true := decide_eq_true c8
        clear c8
        simp only [Option.some.injEq, Prod.mk.injEq] at H
        obtain ⟨rfl, rfl⟩ := H
        go_enter Tryd.func10, Tryd.ntmps10
        go_wp2_with (first | ((with_reducible refine gate_callee (f := 18) rfl ?_); refine goesL_ (some 16) rfl rfl Tryd.func18 (by kernel_rfl) rfl #[.string a0] rfl (by (try simp only [List.map_toArray, List.map_cons, List.map_nil]); first | done | rfl | (simp only [List.length_drop, List.length_take]; rfl)) ?_; (with_reducible refine (facename_isId.calls k a0 true _ A4.out).mono ?_); rintro e w9 ⟨rfl, hb⟩; refine ⟨_, rfl, ?_⟩; have n0_ := Aside0.mk (below_step (by repeat (first | (with_reducible first | exact HB.out | apply below_alloc | apply pw_below_drewN | apply below_drew1) | exact HB.out)) hb); clear HB; have HB := n0_; clear n0_; (try clear hb); (try clear hb2); (try clear hk); (try clear hi)))
        go_ret2
        exact ⟨by first | rfl | (simp [errW_none, errW_some] <;> rfl) | (simp [*, errW_none, errW_some] <;> rfl), by repeat (first | (with_reducible first | exact HB.out | apply below_alloc | apply pw_below_drewN | apply below_drew1) | exact HB.out)⟩
      · rw [if_neg c8] at H
        have c8b0 : decide (99 < a1) = false := decide_eq_false c8
        clear c8
        replace H := Option.bind_eq_some_iff.mp H
        obtain ⟨⟨t141, t142, t143, t144, t145⟩, A100, H⟩ := H
        replace H : (if t145 = 0 then (if a0.size + 1 ≤ 9223372036854775807 then ((strconv_Itoa.f a1).bind fun t146 => (if (a0 ++ (⟨#[35]⟩ : ByteArray)).size + t146.size ≤ 9223372036854775807 then (if ((a0 ++ (⟨#[35]⟩ : ByteArray)) ++ t146).size + 1 ≤ 9223372036854775807 then (if (((a0 ++ (⟨#[35]⟩ : ByteArray)) ++ t146) ++ (⟨#[40]⟩ : ByteArray)).size + a2.size ≤ 9223372036854775807 then (if ((((a0 ++ (⟨#[35]⟩ : ByteArray)) ++ t146) ++ (⟨#[40]⟩ : ByteArray)) ++ a2).size + 1 ≤ 9223372036854775807 then (if ((((((a0 ++ (⟨#[35]⟩ : ByteArray)) ++ t146) ++ (⟨#[40]⟩ : ByteArray)) ++ a2) ++ (⟨#[41]⟩ : ByteArray)).size : Int) > 200 then (some ((⟨#[]⟩ : ByteArray), 6)) else (some (((((a0 ++ (⟨#[35]⟩ : ByteArray)) ++ t146) ++ (⟨#[40]⟩ : ByteArray)) ++ a2) ++ (⟨#[41]⟩ : ByteArray), 0))) else (none)) else (none)) else (none)) else (none))) else (none)) else (some ((⟨#[]⟩ : ByteArray), 3))) = some (r1, r2) := H
        have A10 := Aside0.mk A100
        clear A100
        by_cases c11 : t145 = 0
        · rw [if_pos c11] at H
          have c11b0 : (t145 == 0) = true := beq_iff_eq.mpr c11
          have c11b1 : (t145 != 0) = false := bne_eq_false_iff_eq.mpr c11
          clear c11
          by_cases c12 : a0.size + 1 ≤ 9223372036854775807
          · rw [if_pos c12] at H
            have c12b0 := eq_true c12
            have c12b1 : decide (a0.size + 1 ≤ 9223372036854775807) = true := decide_eq_true c12
            try have c12b2 : (9223372036854775807 < a0.size + 1) = False := eq_false (Nat.not_lt.2 c12)
            replace H := Option.bind_eq_some_iff.mp H
            obtain ⟨t146, A130, H⟩ := H
            replace H : (if (a0 ++ (⟨#[35]⟩ : ByteArray)).size + t146.size ≤ 9223372036854775807 then (if ((a0 ++ (⟨#[35]⟩ : ByteArray)) ++ t146).size + 1 ≤ 9223372036854775807 then (if (((a0 ++ (⟨#[35]⟩ : ByteArray)) ++ t146) ++ (⟨#[40]⟩ : ByteArray)).size + a2.size ≤ 9223372036854775807 then (if ((((a0 ++ (⟨#[35]⟩ : ByteArray)) ++ t146) ++ (⟨#[40]⟩ : ByteArray)) ++ a2).size + 1 ≤ 9223372036854775807 then (if ((((((a0 ++ (⟨#[35]⟩ : ByteArray)) ++ t146) ++ (⟨#[40]⟩ : ByteArray)) ++ a2) ++ (⟨#[41]⟩ : ByteArray)).size : Int) > 200 then (some ((⟨#[]⟩ : ByteArray), 6)) else (some (((((a0 ++ (⟨#[35]⟩ : ByteArray)) ++ t146) ++ (⟨#[40]⟩ : ByteArray)) ++ a2) ++ (⟨#[41]⟩ : ByteArray), 0))) else (none)) else (none)) else (none)) else (none)) = some (r1, r2) := H
            have A13 := Aside0.mk A130
            clear A130
            by_cases c14 : (a0 ++ (⟨#[35]⟩ : ByteArray)).size + t146.size ≤ 9223372036854775807
            · rw [if_pos c14] at H
              have c14b0 := eq_true c14
              have c14b1 : decide ((a0 ++ (⟨#[35]⟩ : ByteArray)).size + t146.size ≤ 9223372036854775807) = true := decide_eq_true c14
              try have c14b2 : (9223372036854775807 < (a0 ++ (⟨#[35]⟩ : ByteArray)).size + t146.size) = False := eq_false (Nat.not_lt.2 c14)
              try (have c14b3 := Nat.not_lt.2 c14; simp only [Go.ByteArray.size_append', Go.ByteArray.size_mk', List.size_toArray, List.length_cons, List.length_nil, Nat.zero_add, Nat.reduceAdd] at c14b3; replace c14b3 := eq_false c14b3)
              by_cases c15 : ((a0 ++ (⟨#[35]⟩ : ByteArray)) ++ t146).size + 1 ≤ 9223372036854775807
              · rw [if_pos c15] at H
                have c15b0 := eq_true c15
                have c15b1 : decide (((a0 ++ (⟨#[35]⟩ : ByteArray)) ++ t146).size + 1 ≤ 9223372036854775807) = true := decide_eq_true c15
                try have c15b2 : (9223372036854775807 < ((a0 ++ (⟨#[35]⟩ : ByteArray)) ++ t146).size + 1) = False := eq_false (Nat.not_lt.2 c15)
                try (have c15b3 := Nat.not_lt.2 c15; simp only [Go.ByteArray.size_append', Go.ByteArray.size_mk', List.size_toArray, List.length_cons, List.length_nil, Nat.zero_add, Nat.reduceAdd] at c15b3; replace c15b3 := eq_false c15b3)
                by_cases c16 : (((a0 ++ (⟨#[35]⟩ : ByteArray)) ++ t146) ++ (⟨#[40]⟩ : ByteArray)).size + a2.size ≤ 9223372036854775807
                · rw [if_pos c16] at H
                  have c16b0 := eq_true c16
                  have c16b1 : decide ((((a0 ++ (⟨#[35]⟩ : ByteArray)) ++ t146) ++ (⟨#[40]⟩ : ByteArray)).size + a2.size ≤ 9223372036854775807) = true := decide_eq_true c16
                  try have c16b2 : (9223372036854775807 < (((a0 ++ (⟨#[35]⟩ : ByteArray)) ++ t146) ++ (⟨#[40]⟩ : ByteArray)).size + a2.size) = False := eq_false (Nat.not_lt.2 c16)
                  try (have c16b3 := Nat.not_lt.2 c16; simp only [Go.ByteArray.size_append', Go.ByteArray.size_mk', List.size_toArray, List.length_cons, List.length_nil, Nat.zero_add, Nat.reduceAdd] at c16b3; replace c16b3 := eq_false c16b3)
                  by_cases c17 : ((((a0 ++ (⟨#[35]⟩ : ByteArray)) ++ t146) ++ (⟨#[40]⟩ : ByteArray)) ++ a2).size + 1 ≤ 9223372036854775807
                  · rw [if_pos c17] at H
                    have c17b0 := eq_true c17
                    have c17b1 : decide (((((a0 ++ (⟨#[35]⟩ : ByteArray)) ++ t146) ++ (⟨#[40]⟩ : ByteArray)) ++ a2).size + 1 ≤ 9223372036854775807) = true := decide_eq_true c17
                    try have c17b2 : (9223372036854775807 < ((((a0 ++ (⟨#[35]⟩ : ByteArray)) ++ t146) ++ (⟨#[40]⟩ : ByteArray)) ++ a2).size + 1) = False := eq_false (Nat.not_lt.2 c17)
                    try (have c17b3 := Nat.not_lt.2 c17; simp only [Go.ByteArray.size_append', Go.ByteArray.size_mk', List.size_toArray, List.length_cons, List.length_nil, Nat.zero_add, Nat.reduceAdd] at c17b3; replace c17b3 := eq_false c17b3)
                    by_cases c18 : ((((((a0 ++ (⟨#[35]⟩ : ByteArray)) ++ t146) ++ (⟨#[40]⟩ : ByteArray)) ++ a2) ++ (⟨#[41]⟩ : ByteArray)).size : Int) > 200
                    · rw [if_pos c18] at H
                      have c18b0 : decide (200 < ((((((a0 ++ (⟨#[35]⟩ : ByteArray)) ++ t146) ++ (⟨#[40]⟩ : ByteArray)) ++ a2) ++ (⟨#[41]⟩ : ByteArray)).size : Int)) = true := decide_eq_true c18
                      have c18b1 : decide (200 < (((((a0 ++ (⟨#[35]⟩ : ByteArray)) ++ t146) ++ (⟨#[40]⟩ : ByteArray)) ++ a2) ++ (⟨#[41]⟩ : ByteArray)).size) = true := decide_eq_true (by omega)
                      try (have c18b5 := c18; simp only [gt_iff_lt, ge_iff_le, Int.not_lt, Int.not_le, Go.ByteArray.size_append', Go.ByteArray.size_mk', List.size_toArray, List.length_cons, List.length_nil, Nat.zero_add, Nat.reduceAdd, Int.natCast_add, Int.cast_ofNat_Int, ByteArray.size_extract, Nat.min_self] at c18b5)
                      clear c18
                      simp only [Option.some.injEq, Prod.mk.injEq] at H
                      obtain ⟨rfl, rfl⟩ := H
                      go_enter Tryd.func10, Tryd.ntmps10
                      go_wp2_with (first | ((with_reducible refine gate_callee (f := 18) rfl ?_); refine goesL_ (some 16) rfl rfl Tryd.func18 (by kernel_rfl) rfl #[.string a0] rfl (by (try simp only [List.map_toArray, List.map_cons, List.map_nil]); first | done | rfl | (simp only [List.length_drop, List.length_take]; rfl)) ?_; (with_reducible refine (facename_isId.calls k a0 true _ A4.out).mono ?_); rintro e w19 ⟨rfl, hb⟩; refine ⟨_, rfl, ?_⟩; have n0_ := Aside0.mk (below_step (by repeat (first | (with_reducible first | exact HB.out | apply below_alloc | apply pw_below_drewN | apply below_drew1) | exact HB.out)) hb); clear HB; have HB := n0_; clear n0_; (try clear hb); (try clear hb2); (try clear hk); (try clear hi)) | ((with_reducible refine gate_callee (f := 12) rfl ?_); refine goesL_ (some 27) rfl rfl Tryd.func12 (by kernel_rfl) rfl #[.string a2] rfl (by (try simp only [List.map_toArray, List.map_cons, List.map_nil]); first | done | rfl | (simp only [List.length_drop, List.length_take]; rfl)) ?_; (with_reducible refine (facename_Parse.calls k a2 t141 t142 t143 t144 t145 _ A10.out).mono ?_); rintro e w20 ⟨rfl, hb⟩; refine ⟨_, rfl, ?_⟩; have n0_ := Aside0.mk (below_step (by repeat (first | (with_reducible first | exact HB.out | apply below_alloc | apply pw_below_drewN | apply below_drew1) | exact HB.out)) hb); clear HB; have HB := n0_; clear n0_; (try clear hb); (try clear hb2); (try clear hk); (try clear hi)) | ((with_reducible refine gate_callee (f := 20) rfl ?_); refine goesL_ (some 38) rfl rfl Tryd.func20 (by kernel_rfl) rfl #[.int .i64 a1] rfl (by (try simp only [List.map_toArray, List.map_cons, List.map_nil]); first | done | rfl | (simp only [List.length_drop, List.length_take]; rfl)) ?_; (with_reducible refine (strconv_Itoa.calls a1 t146 _ A13.out).mono ?_); rintro e w21 ⟨rfl, hb⟩; refine ⟨_, rfl, ?_⟩; have n0_ := Aside0.mk (below_step (by repeat (first | (with_reducible first | exact HB.out | apply below_alloc | apply pw_below_drewN | apply below_drew1) | exact HB.out)) hb); clear HB; have HB := n0_; clear n0_; (try clear hb); (try clear hb2); (try clear hk); (try clear hi)))
                      go_ret2
                      exact ⟨by first | rfl | (simp [errW_none, errW_some] <;> rfl) | (simp [*, errW_none, errW_some] <;> rfl), by repeat (first | (with_reducible first | exact HB.out | apply below_alloc | apply pw_below_drewN | apply below_drew1) | exact HB.out)⟩
                    · rw [if_neg c18] at H
                      have c18b0 : decide (200 < ((((((a0 ++ (⟨#[35]⟩ : ByteArray)) ++ t146) ++ (⟨#[40]⟩ : ByteArray)) ++ a2) ++ (⟨#[41]⟩ : ByteArray)).size : Int)) = false := decide_eq_false c18
                      have c18b1 : decide (200 < (((((a0 ++ (⟨#[35]⟩ : ByteArray)) ++ t146) ++ (⟨#[40]⟩ : ByteArray)) ++ a2) ++ (⟨#[41]⟩ : ByteArray)).size) = false := decide_eq_false (by omega)
                      try (have c18b5 := c18; simp only [gt_iff_lt, ge_iff_le, Int.not_lt, Int.not_le, Go.ByteArray.size_append', Go.ByteArray.size_mk', List.size_toArray, List.length_cons, List.length_nil, Nat.zero_add, Nat.reduceAdd, Int.natCast_add, Int.cast_ofNat_Int, ByteArray.size_extract, Nat.min_self] at c18b5)
                      clear c18
                      simp only [Option.some.injEq, Prod.mk.injEq] at H
                      obtain ⟨rfl, rfl⟩ := H
                      go_enter Tryd.func10, Tryd.ntmps10
                      go_wp2_with (first | ((with_reducible refine gate_callee (f := 18) rfl ?_); refine goesL_ (some 16) rfl rfl Tryd.func18 (by kernel_rfl) rfl #[.string a0] rfl (by (try simp only [List.map_toArray, List.map_cons, List.map_nil]); first | done | rfl | (simp only [List.length_drop, List.length_take]; rfl)) ?_; (with_reducible refine (facename_isId.calls k a0 true _ A4.out).mono ?_); rintro e w22 ⟨rfl, hb⟩; refine ⟨_, rfl, ?_⟩; have n0_ := Aside0.mk (below_step (by repeat (first | (with_reducible first | exact HB.out | apply below_alloc | apply pw_below_drewN | apply below_drew1) | exact HB.out)) hb); clear HB; have HB := n0_; clear n0_; (try clear hb); (try clear hb2); (try clear hk); (try clear hi)) | ((with_reducible refine gate_callee (f := 12) rfl ?_); refine goesL_ (some 27) rfl rfl Tryd.func12 (by kernel_rfl) rfl #[.string a2] rfl (by (try simp only [List.map_toArray, List.map_cons, List.map_nil]); first | done | rfl | (simp only [List.length_drop, List.length_take]; rfl)) ?_; (with_reducible refine (facename_Parse.calls k a2 t141 t142 t143 t144 t145 _ A10.out).mono ?_); rintro e w23 ⟨rfl, hb⟩; refine ⟨_, rfl, ?_⟩; have n0_ := Aside0.mk (below_step (by repeat (first | (with_reducible first | exact HB.out | apply below_alloc | apply pw_below_drewN | apply below_drew1) | exact HB.out)) hb); clear HB; have HB := n0_; clear n0_; (try clear hb); (try clear hb2); (try clear hk); (try clear hi)) | ((with_reducible refine gate_callee (f := 20) rfl ?_); refine goesL_ (some 38) rfl rfl Tryd.func20 (by kernel_rfl) rfl #[.int .i64 a1] rfl (by (try simp only [List.map_toArray, List.map_cons, List.map_nil]); first | done | rfl | (simp only [List.length_drop, List.length_take]; rfl)) ?_; (with_reducible refine (strconv_Itoa.calls a1 t146 _ A13.out).mono ?_); rintro e w24 ⟨rfl, hb⟩; refine ⟨_, rfl, ?_⟩; have n0_ := Aside0.mk (below_step (by repeat (first | (with_reducible first | exact HB.out | apply below_alloc | apply pw_below_drewN | apply below_drew1) | exact HB.out)) hb); clear HB; have HB := n0_; clear n0_; (try clear hb); (try clear hb2); (try clear hk); (try clear hi)))
                      go_ret2
                      exact ⟨by first | rfl | (simp [errW_none, errW_some] <;> rfl) | (simp [*, errW_none, errW_some] <;> rfl), by repeat (first | (with_reducible first | exact HB.out | apply below_alloc | apply pw_below_drewN | apply below_drew1) | exact HB.out)⟩
                  · rw [if_neg c17] at H
                    exact absurd H (by simp)
                · rw [if_neg c16] at H
                  exact absurd H (by simp)
              · rw [if_neg c15] at H
                exact absurd H (by simp)
            · rw [if_neg c14] at H
              exact absurd H (by simp)
          · rw [if_neg c12] at H
            exact absurd H (by simp)
        · rw [if_neg c11] at H
          have c11b0 : (t145 == 0) = false := beq_eq_false_iff_ne.mpr c11
          have c11b1 : (t145 != 0) = true := bne_iff_ne.mpr c11
          simp only [Option.some.injEq, Prod.mk.injEq] at H
          obtain ⟨rfl, rfl⟩ := H
          go_enter Tryd.func10, Tryd.ntmps10
          go_wp2_with (first | ((with_reducible refine gate_callee (f := 18) rfl ?_); refine goesL_ (some 16) rfl rfl Tryd.func18 (by kernel_rfl) rfl #[.string a0] rfl (by (try simp only [List.map_toArray, List.map_cons, List.map_nil]); first | done | rfl | (simp only [List.length_drop, List.length_take]; rfl)) ?_; (with_reducible refine (facename_isId.calls k a0 true _ A4.out).mono ?_); rintro e w25 ⟨rfl, hb⟩; refine ⟨_, rfl, ?_⟩; have n0_ := Aside0.mk (below_step (by repeat (first | (with_reducible first | exact HB.out | apply below_alloc | apply pw_below_drewN | apply below_drew1) | exact HB.out)) hb); clear HB; have HB := n0_; clear n0_; (try clear hb); (try clear hb2); (try clear hk); (try clear hi)) | ((with_reducible refine gate_callee (f := 12) rfl ?_); refine goesL_ (some 27) rfl rfl Tryd.func12 (by kernel_rfl) rfl #[.string a2] rfl (by (try simp only [List.map_toArray, List.map_cons, List.map_nil]); first | done | rfl | (simp only [List.length_drop, List.length_take]; rfl)) ?_; (with_reducible refine (facename_Parse.calls k a2 t141 t142 t143 t144 t145 _ A10.out).mono ?_); rintro e w26 ⟨rfl, hb⟩; refine ⟨_, rfl, ?_⟩; have n0_ := Aside0.mk (below_step (by repeat (first | (with_reducible first | exact HB.out | apply below_alloc | apply pw_below_drewN | apply below_drew1) | exact HB.out)) hb); clear HB; have HB := n0_; clear n0_; (try clear hb); (try clear hb2); (try clear hk); (try clear hi)))
          go_ret2
          exact ⟨by first | rfl | (simp [errW_none, errW_some] <;> rfl) | (simp [*, errW_none, errW_some] <;> rfl), by repeat (first | (with_reducible first | exact HB.out | apply below_alloc | apply pw_below_drewN | apply below_drew1) | exact HB.out)⟩
  · replace c5 := Bool.eq_false_iff.mpr c5
    subst c5
    have H1 : (some ((⟨#[]⟩ : ByteArray), 7)) = some (r1, r2) := by rw [if_neg (show ¬ (false = true) by decide)] at H; exact H
    clear H
    have H := H1
    clear H1
    simp only [Option.some.injEq, Prod.mk.injEq] at H
    obtain ⟨rfl, rfl⟩ := H
    go_enter Tryd.func10, Tryd.ntmps10
    go_wp2_with (first | ((with_reducible refine gate_callee (f := 18) rfl ?_); refine goesL_ (some 16) rfl rfl Tryd.func18 (by kernel_rfl) rfl #[.string a0] rfl (by (try simp only [List.map_toArray, List.map_cons, List.map_nil]); first | done | rfl | (simp only [List.length_drop, List.length_take]; rfl)) ?_; (with_reducible refine (facename_isId.calls k a0 false _ A4.out).mono ?_); rintro e w27 ⟨rfl, hb⟩; refine ⟨_, rfl, ?_⟩; have n0_ := Aside0.mk (below_step (by repeat (first | (with_reducible first | exact HB.out | apply below_alloc | apply pw_below_drewN | apply below_drew1) | exact HB.out)) hb); clear HB; have HB := n0_; clear n0_; (try clear hb); (try clear hb2); (try clear hk); (try clear hi)))
    go_ret2
    exact ⟨by first | rfl | (simp [errW_none, errW_some] <;> rfl) | (simp [*, errW_none, errW_some] <;> rfl), by repeat (first | (with_reducible first | exact HB.out | apply below_alloc | apply pw_below_drewN | apply below_drew1) | exact HB.out)⟩

/-! ### voussoirlaw27_termAlive: function 7 -/
def voussoirlaw27_termAlive.f (k : Nat)  : Option (Bool) := (facename_New.f k (⟨#[97, 110, 110, 46, 51]⟩ : ByteArray) (⟨#[115, 105, 100, 101]⟩ : ByteArray) 2).bind fun bt147 => ((facename_Copy.f k (⟨#[98, 111, 98, 46, 55]⟩ : ByteArray) 1 bt147.1).bind fun bt149 => (if bt147.1.toList = ([97, 110, 110, 46, 51, 58, 115, 105, 100, 101, 50] : List UInt8) then (if bt147.2 = 0 then (if bt149.1.toList = ([98, 111, 98, 46, 55, 35, 49, 40, 97, 110, 110, 46, 51, 58, 115, 105, 100, 101, 50, 41] : List UInt8) then (some (bt149.2 == 0)) else (some false)) else (some false)) else (some false)))
theorem voussoirlaw27_termAlive.mono : ∀ k, LeO (voussoirlaw27_termAlive.f k ) (voussoirlaw27_termAlive.f (k + 1) ) := by
  intro  k
  unfold voussoirlaw27_termAlive.f
  repeat' first
      | (with_reducible exact facename_Copy.mono _ _ _ _)
      | (with_reducible exact facename_New.mono _ _ _ _)
      | (with_reducible exact LeO.refl _)
      | (with_reducible exact LeO.none _)
      | (with_reducible refine LeO.ite ?_ ?_)
      | (with_reducible refine LeO.bind ?_ (fun _ => ?_))
      | exact facename_Copy.mono _ _ _ _
      | exact facename_New.mono _ _ _ _
      | exact LeO.none _
      | refine LeO.ite ?_ ?_
      | refine LeO.bind ?_ (fun _ => ?_)
set_option maxHeartbeats 8000000 in
set_option maxRecDepth 100000 in
theorem voussoirlaw27_termAlive.calls (k : Nat)  (r : Bool) (w : World) (h : voussoirlaw27_termAlive.f k  = some r) (hG : Env w := by first | assumption | exact Env.below (by assumption) (by repeat (first | exact Below.refl _ _ | exact Aside0.out (by assumption) | apply below_alloc | apply pw_below_drewN | apply below_drew1 | exact Drawn0.below (by assumption)))) :
    Calls Tryd.prog 7 #[] w fun e w' => e = .returned (.bool r) ∧ Below w.heap.size w w' := by
  have HB := Aside0.mk (Below.refl w.heap.size w)
  have H : ((facename_New.f k (⟨#[97, 110, 110, 46, 51]⟩ : ByteArray) (⟨#[115, 105, 100, 101]⟩ : ByteArray) 2).bind fun bt147 => ((facename_Copy.f k (⟨#[98, 111, 98, 46, 55]⟩ : ByteArray) 1 bt147.1).bind fun bt149 => (if bt147.1.toList = ([97, 110, 110, 46, 51, 58, 115, 105, 100, 101, 50] : List UInt8) then (if bt147.2 = 0 then (if bt149.1.toList = ([98, 111, 98, 46, 55, 35, 49, 40, 97, 110, 110, 46, 51, 58, 115, 105, 100, 101, 50, 41] : List UInt8) then (some (bt149.2 == 0)) else (some false)) else (some false)) else (some false)))) = some r := h
  clear h
  replace H := Option.bind_eq_some_iff.mp H
  obtain ⟨⟨t147, t148⟩, A10, H⟩ := H
  replace H : ((facename_Copy.f k (⟨#[98, 111, 98, 46, 55]⟩ : ByteArray) 1 t147).bind fun bt149 => (if t147.toList = ([97, 110, 110, 46, 51, 58, 115, 105, 100, 101, 50] : List UInt8) then (if t148 = 0 then (if bt149.1.toList = ([98, 111, 98, 46, 55, 35, 49, 40, 97, 110, 110, 46, 51, 58, 115, 105, 100, 101, 50, 41] : List UInt8) then (some (bt149.2 == 0)) else (some false)) else (some false)) else (some false))) = some r := H
  have A1 := Aside0.mk A10
  clear A10
  replace H := Option.bind_eq_some_iff.mp H
  obtain ⟨⟨t149, t150⟩, A20, H⟩ := H
  replace H : (if t147.toList = ([97, 110, 110, 46, 51, 58, 115, 105, 100, 101, 50] : List UInt8) then (if t148 = 0 then (if t149.toList = ([98, 111, 98, 46, 55, 35, 49, 40, 97, 110, 110, 46, 51, 58, 115, 105, 100, 101, 50, 41] : List UInt8) then (some (t150 == 0)) else (some false)) else (some false)) else (some false)) = some r := H
  have A2 := Aside0.mk A20
  clear A20
  by_cases c3 : t147.toList = ([97, 110, 110, 46, 51, 58, 115, 105, 100, 101, 50] : List UInt8)
  · rw [if_pos c3] at H
    have c3b0 : (t147.toList == ([97, 110, 110, 46, 51, 58, 115, 105, 100, 101, 50] : List UInt8)) = true := beq_iff_eq.mpr c3
    have c3b1 : (t147.toList != ([97, 110, 110, 46, 51, 58, 115, 105, 100, 101, 50] : List UInt8)) = false := bne_eq_false_iff_eq.mpr c3
    clear c3
    by_cases c4 : t148 = 0
    · rw [if_pos c4] at H
      have c4b0 : (t148 == 0) = true := beq_iff_eq.mpr c4
      have c4b1 : (t148 != 0) = false := bne_eq_false_iff_eq.mpr c4
      clear c4
      by_cases c5 : t149.toList = ([98, 111, 98, 46, 55, 35, 49, 40, 97, 110, 110, 46, 51, 58, 115, 105, 100, 101, 50, 41] : List UInt8)
      · rw [if_pos c5] at H
        have c5b0 : (t149.toList == ([98, 111, 98, 46, 55, 35, 49, 40, 97, 110, 110, 46, 51, 58, 115, 105, 100, 101, 50, 41] : List UInt8)) = true := beq_iff_eq.mpr c5
        have c5b1 : (t149.toList != ([98, 111, 98, 46, 55, 35, 49, 40, 97, 110, 110, 46, 51, 58, 115, 105, 100, 101, 50, 41] : List UInt8)) = false := bne_eq_false_iff_eq.mpr c5
        clear c5
        obtain rfl := Option.some.inj H
        go_enter Tryd.func7, Tryd.ntmps7
        go_wp2_with (first | ((with_reducible refine gate_callee (f := 8) rfl ?_); refine goesL_ (some 6) rfl rfl Tryd.func8 (by kernel_rfl) rfl #[.string (⟨#[97, 110, 110, 46, 51]⟩ : ByteArray), .string (⟨#[115, 105, 100, 101]⟩ : ByteArray), .int .i64 2] rfl (by (try simp only [List.map_toArray, List.map_cons, List.map_nil]); first | done | rfl | (simp only [List.length_drop, List.length_take]; rfl)) ?_; (with_reducible refine (facename_New.calls k (⟨#[97, 110, 110, 46, 51]⟩ : ByteArray) (⟨#[115, 105, 100, 101]⟩ : ByteArray) 2 t147 t148 _ A1.out).mono ?_); rintro e w6 ⟨rfl, hb⟩; refine ⟨_, rfl, ?_⟩; have n0_ := Aside0.mk (below_step (by repeat (first | (with_reducible first | exact HB.out | apply below_alloc | apply pw_below_drewN | apply below_drew1) | exact HB.out)) hb); clear HB; have HB := n0_; clear n0_; (try clear hb); (try clear hb2); (try clear hk); (try clear hi)) | ((with_reducible refine gate_callee (f := 10) rfl ?_); refine goesL_ (some 11) rfl rfl Tryd.func10 (by kernel_rfl) rfl #[.string (⟨#[98, 111, 98, 46, 55]⟩ : ByteArray), .int .i64 1, .string t147] rfl (by (try simp only [List.map_toArray, List.map_cons, List.map_nil]); first | done | rfl | (simp only [List.length_drop, List.length_take]; rfl)) ?_; (with_reducible refine (facename_Copy.calls k (⟨#[98, 111, 98, 46, 55]⟩ : ByteArray) 1 t147 t149 t150 _ A2.out).mono ?_); rintro e w7 ⟨rfl, hb⟩; refine ⟨_, rfl, ?_⟩; have n0_ := Aside0.mk (below_step (by repeat (first | (with_reducible first | exact HB.out | apply below_alloc | apply pw_below_drewN | apply below_drew1) | exact HB.out)) hb); clear HB; have HB := n0_; clear n0_; (try clear hb); (try clear hb2); (try clear hk); (try clear hi)))
        go_ret
        exact ⟨by first | rfl | (simp [errW_none, errW_some] <;> rfl) | (simp [*, errW_none, errW_some] <;> rfl), by repeat (first | (with_reducible first | exact HB.out | apply below_alloc | apply pw_below_drewN | apply below_drew1) | exact HB.out)⟩
      · rw [if_neg c5] at H
        have c5b0 : (t149.toList == ([98, 111, 98, 46, 55, 35, 49, 40, 97, 110, 110, 46, 51, 58, 115, 105, 100, 101, 50, 41] : List UInt8)) = false := beq_eq_false_iff_ne.mpr c5
        have c5b1 : (t149.toList != ([98, 111, 98, 46, 55, 35, 49, 40, 97, 110, 110, 46, 51, 58, 115, 105, 100, 101, 50, 41] : List UInt8)) = true := bne_iff_ne.mpr c5
        obtain rfl := Option.some.inj H
        go_enter Tryd.func7, Tryd.ntmps7
        go_wp2_with (first | ((with_reducible refine gate_callee (f := 8) rfl ?_); refine goesL_ (some 6) rfl rfl Tryd.func8 (by kernel_rfl) rfl #[.string (⟨#[97, 110, 110, 46, 51]⟩ : ByteArray), .string (⟨#[115, 105, 100, 101]⟩ : ByteArray), .int .i64 2] rfl (by (try simp only [List.map_toArray, List.map_cons, List.map_nil]); first | done | rfl | (simp only [List.length_drop, List.length_take]; rfl)) ?_; (with_reducible refine (facename_New.calls k (⟨#[97, 110, 110, 46, 51]⟩ : ByteArray) (⟨#[115, 105, 100, 101]⟩ : ByteArray) 2 t147 t148 _ A1.out).mono ?_); rintro e w8 ⟨rfl, hb⟩; refine ⟨_, rfl, ?_⟩; have n0_ := Aside0.mk (below_step (by repeat (first | (with_reducible first | exact HB.out | apply below_alloc | apply pw_below_drewN | apply below_drew1) | exact HB.out)) hb); clear HB; have HB := n0_; clear n0_; (try clear hb); (try clear hb2); (try clear hk); (try clear hi)) | ((with_reducible refine gate_callee (f := 10) rfl ?_); refine goesL_ (some 11) rfl rfl Tryd.func10 (by kernel_rfl) rfl #[.string (⟨#[98, 111, 98, 46, 55]⟩ : ByteArray), .int .i64 1, .string t147] rfl (by (try simp only [List.map_toArray, List.map_cons, List.map_nil]); first | done | rfl | (simp only [List.length_drop, List.length_take]; rfl)) ?_; (with_reducible refine (facename_Copy.calls k (⟨#[98, 111, 98, 46, 55]⟩ : ByteArray) 1 t147 t149 t150 _ A2.out).mono ?_); rintro e w9 ⟨rfl, hb⟩; refine ⟨_, rfl, ?_⟩; have n0_ := Aside0.mk (below_step (by repeat (first | (with_reducible first | exact HB.out | apply below_alloc | apply pw_below_drewN | apply below_drew1) | exact HB.out)) hb); clear HB; have HB := n0_; clear n0_; (try clear hb); (try clear hb2); (try clear hk); (try clear hi)))
        go_ret
        exact ⟨by first | rfl | (simp [errW_none, errW_some] <;> rfl) | (simp [*, errW_none, errW_some] <;> rfl), by repeat (first | (with_reducible first | exact HB.out | apply below_alloc | apply pw_below_drewN | apply below_drew1) | exact HB.out)⟩
    · rw [if_neg c4] at H
      have c4b0 : (t148 == 0) = false := beq_eq_false_iff_ne.mpr c4
      have c4b1 : (t148 != 0) = true := bne_iff_ne.mpr c4
      obtain rfl := Option.some.inj H
      go_enter Tryd.func7, Tryd.ntmps7
      go_wp2_with (first | ((with_reducible refine gate_callee (f := 8) rfl ?_); refine goesL_ (some 6) rfl rfl Tryd.func8 (by kernel_rfl) rfl #[.string (⟨#[97, 110, 110, 46, 51]⟩ : ByteArray), .string (⟨#[115, 105, 100, 101]⟩ : ByteArray), .int .i64 2] rfl (by (try simp only [List.map_toArray, List.map_cons, List.map_nil]); first | done | rfl | (simp only [List.length_drop, List.length_take]; rfl)) ?_; (with_reducible refine (facename_New.calls k (⟨#[97, 110, 110, 46, 51]⟩ : ByteArray) (⟨#[115, 105, 100, 101]⟩ : ByteArray) 2 t147 t148 _ A1.out).mono ?_); rintro e w10 ⟨rfl, hb⟩; refine ⟨_, rfl, ?_⟩; have n0_ := Aside0.mk (below_step (by repeat (first | (with_reducible first | exact HB.out | apply below_alloc | apply pw_below_drewN | apply below_drew1) | exact HB.out)) hb); clear HB; have HB := n0_; clear n0_; (try clear hb); (try clear hb2); (try clear hk); (try clear hi)) | ((with_reducible refine gate_callee (f := 10) rfl ?_); refine goesL_ (some 11) rfl rfl Tryd.func10 (by kernel_rfl) rfl #[.string (⟨#[98, 111, 98, 46, 55]⟩ : ByteArray), .int .i64 1, .string t147] rfl (by (try simp only [List.map_toArray, List.map_cons, List.map_nil]); first | done | rfl | (simp only [List.length_drop, List.length_take]; rfl)) ?_; (with_reducible refine (facename_Copy.calls k (⟨#[98, 111, 98, 46, 55]⟩ : ByteArray) 1 t147 t149 t150 _ A2.out).mono ?_); rintro e w11 ⟨rfl, hb⟩; refine ⟨_, rfl, ?_⟩; have n0_ := Aside0.mk (below_step (by repeat (first | (with_reducible first | exact HB.out | apply below_alloc | apply pw_below_drewN | apply below_drew1) | exact HB.out)) hb); clear HB; have HB := n0_; clear n0_; (try clear hb); (try clear hb2); (try clear hk); (try clear hi)))
      go_ret
      exact ⟨by first | rfl | (simp [errW_none, errW_some] <;> rfl) | (simp [*, errW_none, errW_some] <;> rfl), by repeat (first | (with_reducible first | exact HB.out | apply below_alloc | apply pw_below_drewN | apply below_drew1) | exact HB.out)⟩
  · rw [if_neg c3] at H
    have c3b0 : (t147.toList == ([97, 110, 110, 46, 51, 58, 115, 105, 100, 101, 50] : List UInt8)) = false := beq_eq_false_iff_ne.mpr c3
    have c3b1 : (t147.toList != ([97, 110, 110, 46, 51, 58, 115, 105, 100, 101, 50] : List UInt8)) = true := bne_iff_ne.mpr c3
    obtain rfl := Option.some.inj H
    go_enter Tryd.func7, Tryd.ntmps7
    go_wp2_with (first | ((with_reducible refine gate_callee (f := 8) rfl ?_); refine goesL_ (some 6) rfl rfl Tryd.func8 (by kernel_rfl) rfl #[.string (⟨#[97, 110, 110, 46, 51]⟩ : ByteArray), .string (⟨#[115, 105, 100, 101]⟩ : ByteArray), .int .i64 2] rfl (by (try simp only [List.map_toArray, List.map_cons, List.map_nil]); first | done | rfl | (simp only [List.length_drop, List.length_take]; rfl)) ?_; (with_reducible refine (facename_New.calls k (⟨#[97, 110, 110, 46, 51]⟩ : ByteArray) (⟨#[115, 105, 100, 101]⟩ : ByteArray) 2 t147 t148 _ A1.out).mono ?_); rintro e w12 ⟨rfl, hb⟩; refine ⟨_, rfl, ?_⟩; have n0_ := Aside0.mk (below_step (by repeat (first | (with_reducible first | exact HB.out | apply below_alloc | apply pw_below_drewN | apply below_drew1) | exact HB.out)) hb); clear HB; have HB := n0_; clear n0_; (try clear hb); (try clear hb2); (try clear hk); (try clear hi)) | ((with_reducible refine gate_callee (f := 10) rfl ?_); refine goesL_ (some 11) rfl rfl Tryd.func10 (by kernel_rfl) rfl #[.string (⟨#[98, 111, 98, 46, 55]⟩ : ByteArray), .int .i64 1, .string t147] rfl (by (try simp only [List.map_toArray, List.map_cons, List.map_nil]); first | done | rfl | (simp only [List.length_drop, List.length_take]; rfl)) ?_; (with_reducible refine (facename_Copy.calls k (⟨#[98, 111, 98, 46, 55]⟩ : ByteArray) 1 t147 t149 t150 _ A2.out).mono ?_); rintro e w13 ⟨rfl, hb⟩; refine ⟨_, rfl, ?_⟩; have n0_ := Aside0.mk (below_step (by repeat (first | (with_reducible first | exact HB.out | apply below_alloc | apply pw_below_drewN | apply below_drew1) | exact HB.out)) hb); clear HB; have HB := n0_; clear n0_; (try clear hb); (try clear hb2); (try clear hk); (try clear hi)))
    go_ret
    exact ⟨by first | rfl | (simp [errW_none, errW_some] <;> rfl) | (simp [*, errW_none, errW_some] <;> rfl), by repeat (first | (with_reducible first | exact HB.out | apply below_alloc | apply pw_below_drewN | apply below_drew1) | exact HB.out)⟩

/-! ### voussoirref27_first: function 28 -/
def voussoirref27_first.l0 : Nat → ByteArray → Int → Int → Option (Int)
  | 0, _, _, _ => none
  | k + 1, x0, x1, x5 => if x5 < (x0.size : Int) then (if 0 ≤ x5 then (if (bt x0 x5) = x1 then (some x5) else (voussoirref27_first.l0 k x0 x1 (wrap64 (x5 + 1)))) else (none)) else (some (-1))
def voussoirref27_first.f (k : Nat) (a0 : ByteArray) (a1 : Int) : Option (Int) := voussoirref27_first.l0 k a0 a1 0
theorem voussoirref27_first.mono_l : ∀ k, (∀ y0 y1 y2, LeO (voussoirref27_first.l0 k y0 y1 y2) (voussoirref27_first.l0 (k + 1) y0 y1 y2))
  | 0 => fun _ _ _ r h => by simp [voussoirref27_first.l0] at h
  | k + 1 => by
    have ih0 := voussoirref27_first.mono_l k
    · intro y0 y1 y2
      unfold voussoirref27_first.l0
      repeat' first
      | (with_reducible exact ih0 _ _ _)
      | (with_reducible exact LeO.refl _)
      | (with_reducible exact LeO.none _)
      | (with_reducible refine LeO.ite ?_ ?_)
      | (with_reducible refine LeO.bind ?_ (fun _ => ?_))
      | exact ih0 _ _ _
      | exact LeO.none _
      | refine LeO.ite ?_ ?_
      | refine LeO.bind ?_ (fun _ => ?_)
theorem voussoirref27_first.mono : ∀ a0 a1 k, LeO (voussoirref27_first.f k a0 a1) (voussoirref27_first.f (k + 1) a0 a1) := by
  intro a0 a1 k
  have ih0 := voussoirref27_first.mono_l k
  unfold voussoirref27_first.f
  repeat' first
      | (with_reducible exact ih0 _ _ _)
      | (with_reducible exact LeO.refl _)
      | (with_reducible exact LeO.none _)
      | (with_reducible refine LeO.ite ?_ ?_)
      | (with_reducible refine LeO.bind ?_ (fun _ => ?_))
      | exact ih0 _ _ _
      | exact LeO.none _
      | refine LeO.ite ?_ ?_
      | refine LeO.bind ?_ (fun _ => ?_)
set_option maxHeartbeats 8000000 in
set_option maxRecDepth 100000 in
theorem voussoirref27_first.calls (k : Nat) (a0 : ByteArray) (a1 : Int) (r : Int) (w : World) (h : voussoirref27_first.f k a0 a1 = some r) :
    Calls Tryd.prog 28 #[.string a0, .int .u8 a1] w fun e w' => e = .returned (.int .i64 r) ∧ Drawn0 w w' := by
  have H : (voussoirref27_first.l0 k a0 a1 0) = some r := h
  clear h
  have H' := Aside0.mk H
  clear H
  go_enter Tryd.func28, Tryd.ntmps28
  go_wp2
  go_loopg [5] k (fun kq v5 w' => ∃ (x5_1 : Int), v5 = .int .i64 x5_1 ∧ Aside0 (voussoirref27_first.l0 kq a0 a1 x5_1 = some r) ∧ Aside0 (kq ≤ k) ∧ Drawn0 w w')
  case atStart => exact ⟨(0), (by first | rfl | (simp; done) | (simp [*]; done)), H', ⟨Nat.le_refl _⟩, by repeat (first | exact Drawn0.refl _ | apply Drawn0.step)⟩
  case round =>
    clear H'
    try clear c2
    try clear p2
    obtain ⟨x5_1, rfl, HA, HK1, ⟨m1, rfl⟩⟩ := hrel
    cases gk with
    | zero => exact absurd HA.out (by simp [voussoirref27_first.l0])
    | succ k1 =>
      have H := HA.out
      clear HA
      simp only [voussoirref27_first.l0] at H
      by_cases c3 : x5_1 < (a0.size : Int)
      · rw [if_pos c3] at H
        have c3b0 : decide (x5_1 < (a0.size : Int)) = true := decide_eq_true c3
        clear c3
        by_cases c4 : 0 ≤ x5_1
        · rw [if_pos c4] at H
          have c4b0 : decide (0 ≤ x5_1) = true := decide_eq_true c4
          clear c4
          by_cases c6 : (bt a0 x5_1) = a1
          · rw [if_pos c6] at H
            have c6b0 : ((bt a0 x5_1) == a1) = true := beq_iff_eq.mpr c6
            have c6b1 : ((bt a0 x5_1) != a1) = false := bne_eq_false_iff_eq.mpr c6
            clear c6
            obtain rfl := Option.some.inj H
            have p5 : 0 ≤ (x5_1 : Int) := of_decide_eq_true (by first | (with_reducible assumption) | assumption)
            have q5 : x5_1 < (a0.size : Int) := of_decide_eq_true (by first | (with_reducible assumption) | assumption)
            have hx5 := bt_at a0 x5_1
            replace p5 := eq_true p5
            replace q5 := eq_true q5
            go_wp2
            go_ret
            exact ⟨by first | rfl | (simp; done) | (simp [*]; done), by repeat (first | exact Drawn0.refl _ | apply Drawn0.step)⟩
          · rw [if_neg c6] at H
            have c6b0 : ((bt a0 x5_1) == a1) = false := beq_eq_false_iff_ne.mpr c6
            have c6b1 : ((bt a0 x5_1) != a1) = true := bne_iff_ne.mpr c6
            have H' := Aside0.mk H
            clear H
            have p5 : 0 ≤ (x5_1 : Int) := of_decide_eq_true (by first | (with_reducible assumption) | assumption)
            have q5 : x5_1 < (a0.size : Int) := of_decide_eq_true (by first | (with_reducible assumption) | assumption)
            have hx5 := bt_at a0 x5_1
            replace p5 := eq_true p5
            replace q5 := eq_true q5
            go_wp2
            go_roundg k1
            case measure => have := HK1.out; omega
            case rel => exact ⟨(wrap64 (x5_1 + 1)), (by first | rfl | (simp; done) | (simp [*]; done)), H', ⟨by have := HK1.out; omega⟩, by repeat (first | exact Drawn0.refl _ | apply Drawn0.step)⟩
        · rw [if_neg c4] at H
          exact absurd H (by simp)
      · rw [if_neg c3] at H
        have c3b0 : decide (x5_1 < (a0.size : Int)) = false := decide_eq_false c3
        clear c3
        obtain rfl := Option.some.inj H
        go_wp2
        go_ret
        exact ⟨by first | rfl | (simp; done) | (simp [*]; done), by repeat (first | exact Drawn0.refl _ | apply Drawn0.step)⟩

end Go.Proofs.YtkkndcfflmealaaDoor.X27
