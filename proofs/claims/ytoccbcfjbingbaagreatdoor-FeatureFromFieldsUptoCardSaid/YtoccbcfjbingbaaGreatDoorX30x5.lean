import Derived.Test.YtoccbcfjbingbaaGreatDoorX30x0
import Derived.Test.YtoccbcfjbingbaaGreatDoorX30x4
namespace Go.Proofs.YtoccbcfjbingbaaGreatDoor.X30
open Go.RowKit Go.Proofs.YtoccbcfjbingbaaGreatDoorW.PrintWords Go.Proofs.YtoccbcfjbingbaaGreatDoorW.PrintLast Go.Proofs.YtoccbcfjbingbaaGreatDoorW.PrintMore
attribute [local go_sem] max2_int min2_int max_two min_two max_three min_three max_four min_four   -- for this text's walks alone
set_option linter.unusedVariables false
set_option linter.unusedSimpArgs false
mutual
def facename_Parse.j0 : Nat → ByteArray → ByteArray → Int → Bool → Option (ByteArray × ByteArray × Int × ByteArray × Int)
 | 0, _, _, _, _ => none
 | k + 1, x11, x15, x18, x79 => if x79 = true then (some ((⟨#[]⟩ : ByteArray), (⟨#[]⟩ : ByteArray), 0, (⟨#[]⟩ : ByteArray), 3)) else ((facename_Parse.f k x15).bind fun bt137 => (if bt137.2.2.2.2 = 0 then (some (x11, (⟨#[]⟩ : ByteArray), x18, x15, 0)) else (some ((⟨#[]⟩ : ByteArray), (⟨#[]⟩ : ByteArray), 0, (⟨#[]⟩ : ByteArray), 3))))
def facename_Parse.f : Nat → ByteArray → Option (ByteArray × ByteArray × Int × ByteArray × Int)
 | 0, _ => none
 | k + 1, a0 => if (a0.size : Int) > 200 then (some ((⟨#[]⟩ : ByteArray), (⟨#[]⟩ : ByteArray), 0, (⟨#[]⟩ : ByteArray), 3)) else ((facename_plain.f k a0).bind fun bt122 => (if bt122.2.2.2 = true then (some (bt122.1, bt122.2.1, bt122.2.2.1, (⟨#[]⟩ : ByteArray), 0)) else ((strings_Cut.f a0 (⟨#[35]⟩ : ByteArray)).bind fun bt126 => ((strings_Cut.f bt126.2.1 (⟨#[40]⟩ : ByteArray)).bind fun bt129 => ((strings_CutSuffix.f bt129.2.1 (⟨#[41]⟩ : ByteArray)).bind fun bt132 => ((facename_number.f bt129.1 1 99).bind fun bt134 => (if bt126.2.2 = true then (if bt129.2.2 = true then (if bt132.2 = true then (if bt134.2 = true then ((facename_isId.f k bt126.1).bind fun t136 => (facename_Parse.j0 k bt126.1 bt132.1 bt134.1 (!t136))) else (facename_Parse.j0 k bt126.1 bt132.1 bt134.1 true)) else (facename_Parse.j0 k bt126.1 bt132.1 bt134.1 true)) else (facename_Parse.j0 k bt126.1 bt132.1 bt134.1 true)) else (facename_Parse.j0 k bt126.1 bt132.1 bt134.1 true))))))))
end
theorem facename_Parse.mono_l : ∀ k, (∀ y0, LeO (facename_Parse.f k y0) (facename_Parse.f (k + 1) y0)) ∧ (∀ y0 y1 y2 y3, LeO (facename_Parse.j0 k y0 y1 y2 y3) (facename_Parse.j0 (k + 1) y0 y1 y2 y3))
 | 0 => ⟨fun _ r h => by simp [facename_Parse.f] at h, fun _ _ _ _ r h => by simp [facename_Parse.j0] at h⟩
 | k + 1 => by
  obtain ⟨ih0, ih1⟩ := facename_Parse.mono_l k
  refine ⟨?_, ?_⟩
  · intro y0
    unfold facename_Parse.f
    repeat' first
    | (with_reducible exact ih0 _)
    | (with_reducible exact ih1 _ _ _ _)
    | (with_reducible exact facename_isId.mono _ _)
    | (with_reducible exact facename_plain.mono _ _)
    | (with_reducible exact LeO.refl _)
    | (with_reducible exact LeO.none _)
    | (with_reducible refine LeO.ite ?_ ?_)
    | (with_reducible refine LeO.bind ?_ (fun _ => ?_))
    | exact ih0 _
    | exact ih1 _ _ _ _
    | exact facename_isId.mono _ _
    | exact facename_plain.mono _ _
    | exact LeO.none _
    | refine LeO.ite ?_ ?_
    | refine LeO.bind ?_ (fun _ => ?_)
  · intro y0 y1 y2 y3
    unfold facename_Parse.j0
    repeat' first
    | (with_reducible exact ih0 _)
    | (with_reducible exact ih1 _ _ _ _)
    | (with_reducible exact facename_isId.mono _ _)
    | (with_reducible exact facename_plain.mono _ _)
    | (with_reducible exact LeO.refl _)
    | (with_reducible exact LeO.none _)
    | (with_reducible refine LeO.ite ?_ ?_)
    | (with_reducible refine LeO.bind ?_ (fun _ => ?_))
    | exact ih0 _
    | exact ih1 _ _ _ _
    | exact facename_isId.mono _ _
    | exact facename_plain.mono _ _
    | exact LeO.none _
    | refine LeO.ite ?_ ?_
    | refine LeO.bind ?_ (fun _ => ?_)
theorem facename_Parse.mono : ∀ a0 k, LeO (facename_Parse.f k a0) (facename_Parse.f (k + 1) a0) := by
 intro a0 k
 obtain ⟨ih0, ih1⟩ := facename_Parse.mono_l k
 exact ih0 a0
set_option maxHeartbeats 8000000 in
set_option maxRecDepth 100000 in
theorem facename_Parse.calls (k : Nat) : ∀ (a0 : ByteArray) (r1 : ByteArray) (r2 : ByteArray) (r3 : Int) (r4 : ByteArray) (r5 : Int) (w : World) (h : facename_Parse.f k a0 = some (r1, r2, r3, r4, r5)) (hG : Env w := by first | assumption | exact Env.below (by assumption) (by repeat (first | exact Below.refl _ _ | exact Aside0.out (by assumption) | apply below_alloc | apply pw_below_drewN | apply below_drew1 | exact Drawn0.below (by assumption)))),
 Calls Tryz.prog 83 #[.string a0] w fun e w' => e = .returned (.tuple #[.string r1, .string r2, .int .i64 r3, .string r4, .int .i64 r5]) ∧ Below w.heap.size w w' := by
 induction k using Nat.strongRecOn with
 | _ k ih =>
 intro a0 r1 r2 r3 r4 r5 w h hG
 cases k with
 | zero => exact absurd h (by simp [facename_Parse.f])
 | succ k =>
 simp only [facename_Parse.f] at h
 have HB := Aside0.mk (Below.refl w.heap.size w)
 have H : (if (a0.size : Int) > 200 then (some ((⟨#[]⟩ : ByteArray), (⟨#[]⟩ : ByteArray), 0, (⟨#[]⟩ : ByteArray), 3)) else ((facename_plain.f k a0).bind fun bt122 => (if bt122.2.2.2 = true then (some (bt122.1, bt122.2.1, bt122.2.2.1, (⟨#[]⟩ : ByteArray), 0)) else ((strings_Cut.f a0 (⟨#[35]⟩ : ByteArray)).bind fun bt126 => ((strings_Cut.f bt126.2.1 (⟨#[40]⟩ : ByteArray)).bind fun bt129 => ((strings_CutSuffix.f bt129.2.1 (⟨#[41]⟩ : ByteArray)).bind fun bt132 => ((facename_number.f bt129.1 1 99).bind fun bt134 => (if bt126.2.2 = true then (if bt129.2.2 = true then (if bt132.2 = true then (if bt134.2 = true then ((facename_isId.f k bt126.1).bind fun t136 => (facename_Parse.j0 k bt126.1 bt132.1 bt134.1 (!t136))) else (facename_Parse.j0 k bt126.1 bt132.1 bt134.1 true)) else (facename_Parse.j0 k bt126.1 bt132.1 bt134.1 true)) else (facename_Parse.j0 k bt126.1 bt132.1 bt134.1 true)) else (facename_Parse.j0 k bt126.1 bt132.1 bt134.1 true))))))))) = some (r1, r2, r3, r4, r5) := h
 clear h
 by_cases c2 : (a0.size : Int) > 200
 · rw [if_pos c2] at H
   have c2b0 : decide (200 < (a0.size : Int)) = true := decide_eq_true c2
   have c2b1 : decide (200 < a0.size) = true := decide_eq_true (by omega)
   clear c2
   simp only [Option.some.injEq, Prod.mk.injEq] at H
   obtain ⟨rfl, rfl, rfl, rfl, rfl⟩ := H
   go_enter Tryz.func83, Tryz.ntmps83
   go_wp2
   refine bodyPost_ret (results_list (rs := [.tmp 2, .tmp 3, .tmp 4, .tmp 5, .tmp 6]) rfl (by simp) (.tmp (.tmp (.tmp (.tmp (.tmp .nil)))))) rfl ?_
   exact ⟨by first | rfl | (simp [*, errW_none, errW_some] <;> rfl), by repeat (first | with_reducible exact HB.out | apply below_alloc | apply pw_below_drewN | apply below_drew1)⟩
 · rw [if_neg c2] at H
   have c2b0 : decide (200 < (a0.size : Int)) = false := decide_eq_false c2
   have c2b1 : decide (200 < a0.size) = false := decide_eq_false (by omega)
   clear c2
   replace H := Option.bind_eq_some_iff.mp H
   obtain ⟨⟨t122, t123, t124, t125⟩, A30, H⟩ := H
   replace H : (if t125 = true then (some (t122, t123, t124, (⟨#[]⟩ : ByteArray), 0)) else ((strings_Cut.f a0 (⟨#[35]⟩ : ByteArray)).bind fun bt126 => ((strings_Cut.f bt126.2.1 (⟨#[40]⟩ : ByteArray)).bind fun bt129 => ((strings_CutSuffix.f bt129.2.1 (⟨#[41]⟩ : ByteArray)).bind fun bt132 => ((facename_number.f bt129.1 1 99).bind fun bt134 => (if bt126.2.2 = true then (if bt129.2.2 = true then (if bt132.2 = true then (if bt134.2 = true then ((facename_isId.f k bt126.1).bind fun t136 => (facename_Parse.j0 k bt126.1 bt132.1 bt134.1 (!t136))) else (facename_Parse.j0 k bt126.1 bt132.1 bt134.1 true)) else (facename_Parse.j0 k bt126.1 bt132.1 bt134.1 true)) else (facename_Parse.j0 k bt126.1 bt132.1 bt134.1 true)) else (facename_Parse.j0 k bt126.1 bt132.1 bt134.1 true))))))) = some (r1, r2, r3, r4, r5) := H
   have A3 := Aside0.mk A30
   clear A30
   by_cases c4 : t125 = true
   · subst c4
     have H1 : (some (t122, t123, t124, (⟨#[]⟩ : ByteArray), 0)) = some (r1, r2, r3, r4, r5) := by rw [if_pos rfl] at H; exact H
     clear H
     have H := H1
     clear H1
     simp only [Option.some.injEq, Prod.mk.injEq] at H
     obtain ⟨rfl, rfl, rfl, rfl, rfl⟩ := H
     go_enter Tryz.func83, Tryz.ntmps83
     go_wp2_with (first | ((with_reducible refine gate_callee (f := 99) rfl ?_); refine goesL_ (some 30) rfl rfl Tryz.func99 (by kernel_rfl) rfl #[.string a0] rfl (by first | rfl | (simp only [List.map_toArray, List.map_cons, List.map_nil, List.length_drop, List.length_take]; try rfl)) ?_; (with_reducible refine (facename_plain.calls k a0 t122 t123 t124 true _ A3.out).mono ?_); rintro e w5 ⟨rfl, hb⟩; refine ⟨_, rfl, ?_⟩; have n0_ := Aside0.mk (below_step (by repeat (first | with_reducible exact HB.out | apply below_alloc | apply pw_below_drewN | apply below_drew1)) hb); clear HB; have HB := n0_; clear n0_; (try clear hb); (try clear hb2); (try clear hk); (try clear hi)))
     refine bodyPost_ret (results_list (rs := [.tmp 2, .tmp 3, .tmp 4, .tmp 5, .tmp 6]) rfl (by simp) (.tmp (.tmp (.tmp (.tmp (.tmp .nil)))))) rfl ?_
     exact ⟨by first | rfl | (simp [*, errW_none, errW_some] <;> rfl), by repeat (first | with_reducible exact HB.out | apply below_alloc | apply pw_below_drewN | apply below_drew1)⟩
   · replace c4 := Bool.eq_false_iff.mpr c4
     subst c4
     have H1 : ((strings_Cut.f a0 (⟨#[35]⟩ : ByteArray)).bind fun bt126 => ((strings_Cut.f bt126.2.1 (⟨#[40]⟩ : ByteArray)).bind fun bt129 => ((strings_CutSuffix.f bt129.2.1 (⟨#[41]⟩ : ByteArray)).bind fun bt132 => ((facename_number.f bt129.1 1 99).bind fun bt134 => (if bt126.2.2 = true then (if bt129.2.2 = true then (if bt132.2 = true then (if bt134.2 = true then ((facename_isId.f k bt126.1).bind fun t136 => (facename_Parse.j0 k bt126.1 bt132.1 bt134.1 (!t136))) else (facename_Parse.j0 k bt126.1 bt132.1 bt134.1 true)) else (facename_Parse.j0 k bt126.1 bt132.1 bt134.1 true)) else (facename_Parse.j0 k bt126.1 bt132.1 bt134.1 true)) else (facename_Parse.j0 k bt126.1 bt132.1 bt134.1 true)))))) = some (r1, r2, r3, r4, r5) := by rw [if_neg (show ¬ (false = true) by decide)] at H; exact H
     clear H
     have H := H1
     clear H1
     replace H := Option.bind_eq_some_iff.mp H
     obtain ⟨⟨t126, t127, t128⟩, A60, H⟩ := H
     replace H : ((strings_Cut.f t127 (⟨#[40]⟩ : ByteArray)).bind fun bt129 => ((strings_CutSuffix.f bt129.2.1 (⟨#[41]⟩ : ByteArray)).bind fun bt132 => ((facename_number.f bt129.1 1 99).bind fun bt134 => (if t128 = true then (if bt129.2.2 = true then (if bt132.2 = true then (if bt134.2 = true then ((facename_isId.f k t126).bind fun t136 => (facename_Parse.j0 k t126 bt132.1 bt134.1 (!t136))) else (facename_Parse.j0 k t126 bt132.1 bt134.1 true)) else (facename_Parse.j0 k t126 bt132.1 bt134.1 true)) else (facename_Parse.j0 k t126 bt132.1 bt134.1 true)) else (facename_Parse.j0 k t126 bt132.1 bt134.1 true))))) = some (r1, r2, r3, r4, r5) := H
     have A6 := Aside0.mk A60
     clear A60
     replace H := Option.bind_eq_some_iff.mp H
     obtain ⟨⟨t129, t130, t131⟩, A70, H⟩ := H
     replace H : ((strings_CutSuffix.f t130 (⟨#[41]⟩ : ByteArray)).bind fun bt132 => ((facename_number.f t129 1 99).bind fun bt134 => (if t128 = true then (if t131 = true then (if bt132.2 = true then (if bt134.2 = true then ((facename_isId.f k t126).bind fun t136 => (facename_Parse.j0 k t126 bt132.1 bt134.1 (!t136))) else (facename_Parse.j0 k t126 bt132.1 bt134.1 true)) else (facename_Parse.j0 k t126 bt132.1 bt134.1 true)) else (facename_Parse.j0 k t126 bt132.1 bt134.1 true)) else (facename_Parse.j0 k t126 bt132.1 bt134.1 true)))) = some (r1, r2, r3, r4, r5) := H
     have A7 := Aside0.mk A70
     clear A70
     replace H := Option.bind_eq_some_iff.mp H
     obtain ⟨⟨t132, t133⟩, A80, H⟩ := H
     replace H : ((facename_number.f t129 1 99).bind fun bt134 => (if t128 = true then (if t131 = true then (if t133 = true then (if bt134.2 = true then ((facename_isId.f k t126).bind fun t136 => (facename_Parse.j0 k t126 t132 bt134.1 (!t136))) else (facename_Parse.j0 k t126 t132 bt134.1 true)) else (facename_Parse.j0 k t126 t132 bt134.1 true)) else (facename_Parse.j0 k t126 t132 bt134.1 true)) else (facename_Parse.j0 k t126 t132 bt134.1 true))) = some (r1, r2, r3, r4, r5) := H
     have A8 := Aside0.mk A80
     clear A80
     replace H := Option.bind_eq_some_iff.mp H
     obtain ⟨⟨t134, t135⟩, A90, H⟩ := H
     replace H : (if t128 = true then (if t131 = true then (if t133 = true then (if t135 = true then ((facename_isId.f k t126).bind fun t136 => (facename_Parse.j0 k t126 t132 t134 (!t136))) else (facename_Parse.j0 k t126 t132 t134 true)) else (facename_Parse.j0 k t126 t132 t134 true)) else (facename_Parse.j0 k t126 t132 t134 true)) else (facename_Parse.j0 k t126 t132 t134 true)) = some (r1, r2, r3, r4, r5) := H
     have A9 := Aside0.mk A90
     clear A90
     have HC10 := Aside0.mk H
     clear H
     go_enter Tryz.func83, Tryz.ntmps83
     go_upto_region 10 with (first | ((with_reducible refine gate_callee (f := 99) rfl ?_); refine goesL_ (some 30) rfl rfl Tryz.func99 (by kernel_rfl) rfl #[.string a0] rfl (by first | rfl | (simp only [List.map_toArray, List.map_cons, List.map_nil, List.length_drop, List.length_take]; try rfl)) ?_; (with_reducible refine (facename_plain.calls k a0 t122 t123 t124 false _ A3.out).mono ?_); rintro e w11 ⟨rfl, hb⟩; refine ⟨_, rfl, ?_⟩; have n0_ := Aside0.mk (below_step (by repeat (first | with_reducible exact HB.out | apply below_alloc | apply pw_below_drewN | apply below_drew1)) hb); clear HB; have HB := n0_; clear n0_; (try clear hb); (try clear hb2); (try clear hk); (try clear hi)) | ((with_reducible refine gate_callee (f := 55) rfl ?_); refine goesL_ (some 41) rfl rfl Tryz.func55 (by kernel_rfl) rfl #[.string a0, .string (⟨#[35]⟩ : ByteArray)] rfl (by first | rfl | (simp only [List.map_toArray, List.map_cons, List.map_nil, List.length_drop, List.length_take]; try rfl)) ?_; (with_reducible refine (strings_Cut.calls a0 (⟨#[35]⟩ : ByteArray) t126 t127 t128 _ A6.out).mono ?_); rintro e w' ⟨rfl, ⟨nd, rfl⟩⟩; refine ⟨_, rfl, ?_⟩) | ((with_reducible refine gate_callee (f := 55) rfl ?_); refine goesL_ (some 47) rfl rfl Tryz.func55 (by kernel_rfl) rfl #[.string t127, .string (⟨#[40]⟩ : ByteArray)] rfl (by first | rfl | (simp only [List.map_toArray, List.map_cons, List.map_nil, List.length_drop, List.length_take]; try rfl)) ?_; (with_reducible refine (strings_Cut.calls t127 (⟨#[40]⟩ : ByteArray) t129 t130 t131 _ A7.out).mono ?_); rintro e w' ⟨rfl, ⟨nd, rfl⟩⟩; refine ⟨_, rfl, ?_⟩) | ((with_reducible refine gate_callee (f := 100) rfl ?_); refine goesL_ (some 53) rfl rfl Tryz.func100 (by kernel_rfl) rfl #[.string t130, .string (⟨#[41]⟩ : ByteArray)] rfl (by first | rfl | (simp only [List.map_toArray, List.map_cons, List.map_nil, List.length_drop, List.length_take]; try rfl)) ?_; (with_reducible refine (strings_CutSuffix.calls t130 (⟨#[41]⟩ : ByteArray) t132 t133 _ A8.out).mono ?_); rintro e w' ⟨rfl, ⟨nd, rfl⟩⟩; refine ⟨_, rfl, ?_⟩) | ((with_reducible refine gate_callee (f := 58) rfl ?_); refine goesL_ (some 58) rfl rfl Tryz.func58 (by kernel_rfl) rfl #[.string t129, .int .i64 1, .int .i64 99] rfl (by first | rfl | (simp only [List.map_toArray, List.map_cons, List.map_nil, List.length_drop, List.length_take]; try rfl)) ?_; (with_reducible refine (facename_number.calls t129 1 99 t134 t135 _ A9.out).mono ?_); rintro e w12 ⟨rfl, hb⟩; refine ⟨_, rfl, ?_⟩; have n0_ := Aside0.mk (below_step (by repeat (first | with_reducible exact HB.out | apply below_alloc | apply pw_below_drewN | apply below_drew1)) hb); clear HB; have HB := n0_; clear n0_; (try clear hb); (try clear hb2); (try clear hk); (try clear hi)))
     (try simp only [Act.put, List.setIfInBounds_toArray, List.set_cons_zero, List.set_cons_succ])
     go_cut [79] (fun v79 wc => ∃ (kq : Nat) (x79_9 : Bool), v79 = .bool x79_9 ∧ Aside0 (facename_Parse.j0 kq t126 t132 t134 x79_9 = some (r1, r2, r3, r4, r5)) ∧ Aside0 (kq ≤ k) ∧ Aside0 (Below w.heap.size w wc))
     case first =>
      have H := HC10.out
      clear HC10
      by_cases c13 : t128 = true
      · subst c13
        have H1 : (if t131 = true then (if t133 = true then (if t135 = true then ((facename_isId.f k t126).bind fun t136 => (facename_Parse.j0 k t126 t132 t134 (!t136))) else (facename_Parse.j0 k t126 t132 t134 true)) else (facename_Parse.j0 k t126 t132 t134 true)) else (facename_Parse.j0 k t126 t132 t134 true)) = some (r1, r2, r3, r4, r5) := by rw [if_pos rfl] at H; exact H
        clear H
        have H := H1
        clear H1
        by_cases c14 : t131 = true
        · subst c14
          have H1 : (if t133 = true then (if t135 = true then ((facename_isId.f k t126).bind fun t136 => (facename_Parse.j0 k t126 t132 t134 (!t136))) else (facename_Parse.j0 k t126 t132 t134 true)) else (facename_Parse.j0 k t126 t132 t134 true)) = some (r1, r2, r3, r4, r5) := by rw [if_pos rfl] at H; exact H
          clear H
          have H := H1
          clear H1
          by_cases c15 : t133 = true
          · subst c15
            have H1 : (if t135 = true then ((facename_isId.f k t126).bind fun t136 => (facename_Parse.j0 k t126 t132 t134 (!t136))) else (facename_Parse.j0 k t126 t132 t134 true)) = some (r1, r2, r3, r4, r5) := by rw [if_pos rfl] at H; exact H
            clear H
            have H := H1
            clear H1
            by_cases c16 : t135 = true
            · subst c16
              have H1 : ((facename_isId.f k t126).bind fun t136 => (facename_Parse.j0 k t126 t132 t134 (!t136))) = some (r1, r2, r3, r4, r5) := by rw [if_pos rfl] at H; exact H
              clear H
              have H := H1
              clear H1
              replace H := Option.bind_eq_some_iff.mp H
              obtain ⟨t136, A170, H⟩ := H
              replace H : (facename_Parse.j0 k t126 t132 t134 (!t136)) = some (r1, r2, r3, r4, r5) := H
              have A17 := Aside0.mk A170
              clear A170
              have H' := Aside0.mk H
              clear H
              go_wp2_with (first | (go_at_call 44; (with_reducible refine (facename_isId.calls k t126 t136 _ A17.out).mono ?_); rintro e w18 ⟨rfl, hb⟩; have n0_ := Aside0.mk (below_step (by repeat (first | with_reducible exact HB.out | apply below_alloc | apply pw_below_drewN | apply below_drew1)) hb); clear HB; have HB := n0_; clear n0_; (try clear hb); (try clear hb2); (try clear hk); (try clear hi)))
              go_meet
              case rel => exact ⟨_, (!t136), (by first | rfl | (simp; done) | (simp [*]; done)), H', ⟨by first | omega | exact Nat.le_refl _⟩, ⟨by repeat (first | with_reducible exact HB.out | apply below_alloc | apply pw_below_drewN | apply below_drew1)⟩⟩
            · replace c16 := Bool.eq_false_iff.mpr c16
              subst c16
              have H1 : (facename_Parse.j0 k t126 t132 t134 true) = some (r1, r2, r3, r4, r5) := by rw [if_neg (show ¬ (false = true) by decide)] at H; exact H
              clear H
              have H := H1
              clear H1
              have H' := Aside0.mk H
              clear H
              go_wp2
              go_meet
              case rel => exact ⟨_, (true), (by first | rfl | (simp; done) | (simp [*]; done)), H', ⟨by first | omega | exact Nat.le_refl _⟩, ⟨by repeat (first | with_reducible exact HB.out | apply below_alloc | apply pw_below_drewN | apply below_drew1)⟩⟩
          · replace c15 := Bool.eq_false_iff.mpr c15
            subst c15
            have H1 : (facename_Parse.j0 k t126 t132 t134 true) = some (r1, r2, r3, r4, r5) := by rw [if_neg (show ¬ (false = true) by decide)] at H; exact H
            clear H
            have H := H1
            clear H1
            have H' := Aside0.mk H
            clear H
            go_wp2
            go_meet
            case rel => exact ⟨_, (true), (by first | rfl | (simp; done) | (simp [*]; done)), H', ⟨by first | omega | exact Nat.le_refl _⟩, ⟨by repeat (first | with_reducible exact HB.out | apply below_alloc | apply pw_below_drewN | apply below_drew1)⟩⟩
        · replace c14 := Bool.eq_false_iff.mpr c14
          subst c14
          have H1 : (facename_Parse.j0 k t126 t132 t134 true) = some (r1, r2, r3, r4, r5) := by rw [if_neg (show ¬ (false = true) by decide)] at H; exact H
          clear H
          have H := H1
          clear H1
          have H' := Aside0.mk H
          clear H
          go_wp2
          go_meet
          case rel => exact ⟨_, (true), (by first | rfl | (simp; done) | (simp [*]; done)), H', ⟨by first | omega | exact Nat.le_refl _⟩, ⟨by repeat (first | with_reducible exact HB.out | apply below_alloc | apply pw_below_drewN | apply below_drew1)⟩⟩
      · replace c13 := Bool.eq_false_iff.mpr c13
        subst c13
        have H1 : (facename_Parse.j0 k t126 t132 t134 true) = some (r1, r2, r3, r4, r5) := by rw [if_neg (show ¬ (false = true) by decide)] at H; exact H
        clear H
        have H := H1
        clear H1
        have H' := Aside0.mk H
        clear H
        go_wp2
        go_meet
        case rel => exact ⟨_, (true), (by first | rfl | (simp; done) | (simp [*]; done)), H', ⟨by first | omega | exact Nat.le_refl _⟩, ⟨by repeat (first | with_reducible exact HB.out | apply below_alloc | apply pw_below_drewN | apply below_drew1)⟩⟩
     case rest =>
      clear HC10
      try clear c1
      try clear c2
      try clear c2b0
      try clear c2b1
      try clear p2
      try clear c4
      try clear c5
      try clear c8
      try clear c9
      try clear c10
      try clear c13
      try clear c14
      try clear c15
      try clear c16
      obtain ⟨kq, x79_9, rfl, HA, HJ9, HB⟩ := hcut
      cases kq with
      | zero => exact absurd HA.out (by simp [facename_Parse.j0])
      | succ kj9 =>
       have H := HA.out
       clear HA
       simp only [facename_Parse.j0] at H
       by_cases c19 : x79_9 = true
       · subst c19
         have H1 : (some ((⟨#[]⟩ : ByteArray), (⟨#[]⟩ : ByteArray), 0, (⟨#[]⟩ : ByteArray), 3)) = some (r1, r2, r3, r4, r5) := by rw [if_pos rfl] at H; exact H
         clear H
         have H := H1
         clear H1
         simp only [Option.some.injEq, Prod.mk.injEq] at H
         obtain ⟨rfl, rfl, rfl, rfl, rfl⟩ := H
         go_wp2
         refine bodyPost_ret (results_list (rs := [.tmp 2, .tmp 3, .tmp 4, .tmp 5, .tmp 6]) rfl (by simp) (.tmp (.tmp (.tmp (.tmp (.tmp .nil)))))) rfl ?_
         exact ⟨by first | rfl | (simp [*, errW_none, errW_some] <;> rfl), by repeat (first | with_reducible exact HB.out | apply below_alloc | apply pw_below_drewN | apply below_drew1)⟩
       · replace c19 := Bool.eq_false_iff.mpr c19
         subst c19
         have H1 : ((facename_Parse.f kj9 t132).bind fun bt137 => (if bt137.2.2.2.2 = 0 then (some (t126, (⟨#[]⟩ : ByteArray), t134, t132, 0)) else (some ((⟨#[]⟩ : ByteArray), (⟨#[]⟩ : ByteArray), 0, (⟨#[]⟩ : ByteArray), 3)))) = some (r1, r2, r3, r4, r5) := by rw [if_neg (show ¬ (false = true) by decide)] at H; exact H
         clear H
         have H := H1
         clear H1
         replace H := Option.bind_eq_some_iff.mp H
         obtain ⟨⟨t137, t138, t139, t140, t141⟩, A200, H⟩ := H
         replace H : (if t141 = 0 then (some (t126, (⟨#[]⟩ : ByteArray), t134, t132, 0)) else (some ((⟨#[]⟩ : ByteArray), (⟨#[]⟩ : ByteArray), 0, (⟨#[]⟩ : ByteArray), 3))) = some (r1, r2, r3, r4, r5) := H
         have A20 := Aside0.mk A200
         clear A200
         by_cases c21 : t141 = 0
         · rw [if_pos c21] at H
           have c21b0 : (t141 == 0) = true := beq_iff_eq.mpr c21
           have c21b1 : (t141 != 0) = false := bne_eq_false_iff_eq.mpr c21
           clear c21
           simp only [Option.some.injEq, Prod.mk.injEq] at H
           obtain ⟨rfl, rfl, rfl, rfl, rfl⟩ := H
           go_wp2_with (first | ((with_reducible refine gate_callee (f := 83) rfl ?_); refine goesL_ (some 82) rfl rfl Tryz.func83 (by kernel_rfl) rfl #[.string t132] rfl (by first | rfl | (simp only [List.map_toArray, List.map_cons, List.map_nil, List.length_drop, List.length_take]; try rfl)) ?_; (with_reducible refine (ih kj9 (by have := HJ9.out; omega) t132 t137 t138 t139 t140 t141 _ A20.out).mono ?_); rintro e w22 ⟨rfl, hb⟩; refine ⟨_, rfl, ?_⟩; have n0_ := Aside0.mk (below_step (by repeat (first | with_reducible exact HB.out | apply below_alloc | apply pw_below_drewN | apply below_drew1)) hb); clear HB; have HB := n0_; clear n0_; (try clear hb); (try clear hb2); (try clear hk); (try clear hi)))
           refine bodyPost_ret (results_list (rs := [.tmp 2, .tmp 3, .tmp 4, .tmp 5, .tmp 6]) rfl (by simp) (.tmp (.tmp (.tmp (.tmp (.tmp .nil)))))) rfl ?_
           exact ⟨by first | rfl | (simp [*, errW_none, errW_some] <;> rfl), by repeat (first | with_reducible exact HB.out | apply below_alloc | apply pw_below_drewN | apply below_drew1)⟩
         · rw [if_neg c21] at H
           have c21b0 : (t141 == 0) = false := beq_eq_false_iff_ne.mpr c21
           have c21b1 : (t141 != 0) = true := bne_iff_ne.mpr c21
           simp only [Option.some.injEq, Prod.mk.injEq] at H
           obtain ⟨rfl, rfl, rfl, rfl, rfl⟩ := H
           go_wp2_with (first | ((with_reducible refine gate_callee (f := 83) rfl ?_); refine goesL_ (some 82) rfl rfl Tryz.func83 (by kernel_rfl) rfl #[.string t132] rfl (by first | rfl | (simp only [List.map_toArray, List.map_cons, List.map_nil, List.length_drop, List.length_take]; try rfl)) ?_; (with_reducible refine (ih kj9 (by have := HJ9.out; omega) t132 t137 t138 t139 t140 t141 _ A20.out).mono ?_); rintro e w23 ⟨rfl, hb⟩; refine ⟨_, rfl, ?_⟩; have n0_ := Aside0.mk (below_step (by repeat (first | with_reducible exact HB.out | apply below_alloc | apply pw_below_drewN | apply below_drew1)) hb); clear HB; have HB := n0_; clear n0_; (try clear hb); (try clear hb2); (try clear hk); (try clear hi)))
           refine bodyPost_ret (results_list (rs := [.tmp 2, .tmp 3, .tmp 4, .tmp 5, .tmp 6]) rfl (by simp) (.tmp (.tmp (.tmp (.tmp (.tmp .nil)))))) rfl ?_
           exact ⟨by first | rfl | (simp [*, errW_none, errW_some] <;> rfl), by repeat (first | with_reducible exact HB.out | apply below_alloc | apply pw_below_drewN | apply below_drew1)⟩
def resolve_isTerm.f (k : Nat) (a0 : ByteArray) : Option (Bool) := (facename_Parse.f k a0).bind fun bt142 => (some (bt142.2.2.2.2 == 0))
theorem resolve_isTerm.mono : ∀ a0 k, LeO (resolve_isTerm.f k a0) (resolve_isTerm.f (k + 1) a0) := by
 intro a0 k
 unfold resolve_isTerm.f
 repeat' first
  | (with_reducible exact facename_Parse.mono _ _)
  | (with_reducible exact LeO.refl _)
  | (with_reducible exact LeO.none _)
  | (with_reducible refine LeO.ite ?_ ?_)
  | (with_reducible refine LeO.bind ?_ (fun _ => ?_))
  | exact facename_Parse.mono _ _
  | exact LeO.none _
  | refine LeO.ite ?_ ?_
  | refine LeO.bind ?_ (fun _ => ?_)
set_option maxHeartbeats 8000000 in
set_option maxRecDepth 100000 in
theorem resolve_isTerm.calls (k : Nat) (a0 : ByteArray) (r : Bool) (w : World) (h : resolve_isTerm.f k a0 = some r) (hG : Env w := by first | assumption | exact Env.below (by assumption) (by repeat (first | exact Below.refl _ _ | exact Aside0.out (by assumption) | apply below_alloc | apply pw_below_drewN | apply below_drew1 | exact Drawn0.below (by assumption)))) :
 Calls Tryz.prog 65 #[.string a0] w fun e w' => e = .returned (.bool r) ∧ Below w.heap.size w w' := by
 have HB := Aside0.mk (Below.refl w.heap.size w)
 have H : ((facename_Parse.f k a0).bind fun bt142 => (some (bt142.2.2.2.2 == 0))) = some r := h
 clear h
 replace H := Option.bind_eq_some_iff.mp H
 obtain ⟨⟨t142, t143, t144, t145, t146⟩, A20, H⟩ := H
 replace H : (some (t146 == 0)) = some r := H
 have A2 := Aside0.mk A20
 clear A20
 obtain rfl := Option.some.inj H
 go_enter Tryz.func65, Tryz.ntmps65
 go_wp2_with (first | ((with_reducible refine gate_callee (f := 83) rfl ?_); refine goesL_ (some 10) rfl rfl Tryz.func83 (by kernel_rfl) rfl #[.string a0] rfl (by first | rfl | (simp only [List.map_toArray, List.map_cons, List.map_nil, List.length_drop, List.length_take]; try rfl)) ?_; (with_reducible refine (facename_Parse.calls k a0 t142 t143 t144 t145 t146 _ A2.out).mono ?_); rintro e w3 ⟨rfl, hb⟩; refine ⟨_, rfl, ?_⟩; have n0_ := Aside0.mk (below_step (by repeat (first | with_reducible exact HB.out | apply below_alloc | apply pw_below_drewN | apply below_drew1)) hb); clear HB; have HB := n0_; clear n0_; (try clear hb); (try clear hb2); (try clear hk); (try clear hi)))
 go_ret
 exact ⟨by first | rfl | (simp [*, errW_none, errW_some] <;> rfl), by repeat (first | with_reducible exact HB.out | apply below_alloc | apply pw_below_drewN | apply below_drew1)⟩
mutual
def resolve_Check.j0 : Nat → Bool → ByteArray → List ByteArray → Option (Int)
 | 0, _, _, _ => none
 | k + 1, x13, x148000, x148001 => if x13 = true then (some 3) else (resolve_Check.l0 k x148001 (x148001.length : Int) 0 x148000 x148001)
def resolve_Check.l0 : Nat → List ByteArray → Int → Int → ByteArray → List ByteArray → Option (Int)
 | 0, _, _, _, _, _ => none
 | k + 1, x15, x16, x17, x148000, x148001 => if x17 < x16 then (if 0 ≤ x17 then (if x17 < (x15.length : Int) then ((resolve_isTerm.f k (rdOf ByteArray.empty x15 x17)).bind fun t150 => (if t150 = true then (if x17 > 0 then (if 0 ≤ (wrap64 (x17 - 1)) then (if (wrap64 (x17 - 1)) < (x148001.length : Int) then (if ((Op.bytesLess ((rdOf ByteArray.empty x148001 (wrap64 (x17 - 1))).toList) ((rdOf ByteArray.empty x15 x17).toList)) = true) then (resolve_Check.l0 k x15 x16 (wrap64 (x17 + 1)) x148000 x148001) else (some 3)) else (none)) else (none)) else (resolve_Check.l0 k x15 x16 (wrap64 (x17 + 1)) x148000 x148001)) else (some 3))) else (none)) else (none)) else (some 0)
end
def resolve_Check.f (k : Nat) (a0_0 : ByteArray) (l0_1 : List ByteArray) : Option (Int) := if a0_0.toList = ([103, 114, 111, 117, 110, 100] : List UInt8) then (resolve_Check.j0 k false a0_0 l0_1) else ((resolve_isTerm.f k a0_0).bind fun t148 => (resolve_Check.j0 k (!t148) a0_0 l0_1))
theorem resolve_Check.mono_l : ∀ k, (∀ y0 y1 y2, LeO (resolve_Check.j0 k y0 y1 y2) (resolve_Check.j0 (k + 1) y0 y1 y2)) ∧ (∀ y0 y1 y2 y3 y4, LeO (resolve_Check.l0 k y0 y1 y2 y3 y4) (resolve_Check.l0 (k + 1) y0 y1 y2 y3 y4))
 | 0 => ⟨fun _ _ _ r h => by simp [resolve_Check.j0] at h, fun _ _ _ _ _ r h => by simp [resolve_Check.l0] at h⟩
 | k + 1 => by
  obtain ⟨ih0, ih1⟩ := resolve_Check.mono_l k
  refine ⟨?_, ?_⟩
  · intro y0 y1 y2
    unfold resolve_Check.j0
    repeat' first
    | (with_reducible exact ih0 _ _ _)
    | (with_reducible exact ih1 _ _ _ _ _)
    | (with_reducible exact resolve_isTerm.mono _ _)
    | (with_reducible exact LeO.refl _)
    | (with_reducible exact LeO.none _)
    | (with_reducible refine LeO.ite ?_ ?_)
    | (with_reducible refine LeO.bind ?_ (fun _ => ?_))
    | exact ih0 _ _ _
    | exact ih1 _ _ _ _ _
    | exact resolve_isTerm.mono _ _
    | exact LeO.none _
    | refine LeO.ite ?_ ?_
    | refine LeO.bind ?_ (fun _ => ?_)
  · intro y0 y1 y2 y3 y4
    unfold resolve_Check.l0
    repeat' first
    | (with_reducible exact ih0 _ _ _)
    | (with_reducible exact ih1 _ _ _ _ _)
    | (with_reducible exact resolve_isTerm.mono _ _)
    | (with_reducible exact LeO.refl _)
    | (with_reducible exact LeO.none _)
    | (with_reducible refine LeO.ite ?_ ?_)
    | (with_reducible refine LeO.bind ?_ (fun _ => ?_))
    | exact ih0 _ _ _
    | exact ih1 _ _ _ _ _
    | exact resolve_isTerm.mono _ _
    | exact LeO.none _
    | refine LeO.ite ?_ ?_
    | refine LeO.bind ?_ (fun _ => ?_)
theorem resolve_Check.mono : ∀ a0 a1 k, LeO (resolve_Check.f k a0 a1) (resolve_Check.f (k + 1) a0 a1) := by
 intro a0 a1 k
 obtain ⟨ih0, ih1⟩ := resolve_Check.mono_l k
 unfold resolve_Check.f
 repeat' first
  | (with_reducible exact ih0 _ _ _)
  | (with_reducible exact ih1 _ _ _ _ _)
  | (with_reducible exact resolve_isTerm.mono _ _)
  | (with_reducible exact LeO.refl _)
  | (with_reducible exact LeO.none _)
  | (with_reducible refine LeO.ite ?_ ?_)
  | (with_reducible refine LeO.bind ?_ (fun _ => ?_))
  | exact ih0 _ _ _
  | exact ih1 _ _ _ _ _
  | exact resolve_isTerm.mono _ _
  | exact LeO.none _
  | refine LeO.ite ?_ ?_
  | refine LeO.bind ?_ (fun _ => ?_)
set_option maxHeartbeats 8000000 in
set_option maxRecDepth 100000 in
theorem resolve_Check.calls (k : Nat) (a0_0 : ByteArray) (A0_1 : Option Addr) (c0_1 : Nat) (l0_1 : List ByteArray) (r : Int) (w : World) (hr0_1 : Kd.C Kd.string w A0_1 l0_1.length l0_1) (hc0_1 : l0_1.length ≤ c0_1) (h : resolve_Check.f k a0_0 l0_1 = some r) (hG : Env w := by first | assumption | exact Env.below (by assumption) (by repeat (first | exact Below.refl _ _ | exact Aside0.out (by assumption) | apply below_alloc | apply pw_below_drewN | apply below_drew1 | exact Drawn0.below (by assumption)))) :
 Calls Tryz.prog 53 #[.agg #[.string a0_0, .slice A0_1 l0_1.length c0_1]] w fun e w' => e = .returned (.int .i64 r) ∧ Below w.heap.size w w' := by
 have hu27 := Tryz.underlying27
 have HR0_1 := Aside0.mk hr0_1
 have HC0_1 := Aside0.mk hc0_1
 clear hr0_1 hc0_1
 have HB := Aside0.mk (Below.refl w.heap.size w)
 have H : (if a0_0.toList = ([103, 114, 111, 117, 110, 100] : List UInt8) then (resolve_Check.j0 k false a0_0 l0_1) else ((resolve_isTerm.f k a0_0).bind fun t148 => (resolve_Check.j0 k (!t148) a0_0 l0_1))) = some r := h
 clear h
 have HC2 := Aside0.mk H
 clear H
 go_enter Tryz.func53, Tryz.ntmps53
 go_upto_region 1 with (first | ((with_reducible refine gate_dst (N := 1) rfl ?_); refine box_event ?hg (N := 1) ?hd (cs := #[.string a0_0, .slice A0_1 l0_1.length c0_1]) (t := 27) ?hr ?_; (case hd => rfl); (case hg => rfl); (case hr => first | (go_simp; done) | (go_simp; rfl)); intro gb147 hg w3 hbox hb; have n0_ := Aside0.mk (below_step (by repeat (first | with_reducible exact HB.out | apply below_alloc | apply pw_below_drewN | apply below_drew1)) hb); have n1_ := Aside0.mk (hbox); have n2_ := Aside0.mk ((by rw [hg]; exact (below_size (by repeat (first | with_reducible exact HB.out | apply below_alloc | apply pw_below_drewN | apply below_drew1))) : w.heap.size ≤ gb147)); have n3_ := Aside0.mk ((by rw [hg]; exact (below_size (by repeat (first | with_reducible exact HB.out | apply below_alloc | apply pw_below_drewN | apply below_drew1))) : w.heap.size ≤ gb147)); clear HB; have HB := n0_; have BK147 := n1_; have GW147 := n2_; have GE147 := n3_; clear n0_ n1_ n2_ n3_; clear hb hbox hg))
 (try simp only [Act.put, List.setIfInBounds_toArray, List.set_cons_zero, List.set_cons_succ])
 go_cut [13] (fun v13 wc => ∃ (kq : Nat) (x13_1 : Bool), v13 = .bool x13_1 ∧ Aside0 (resolve_Check.j0 kq x13_1 a0_0 l0_1 = some r) ∧ Aside0 (kq ≤ k) ∧ Aside0 (wc.heap[gb147]? = some (.cells #[.string a0_0, (.slice A0_1 l0_1.length c0_1)] 27 (0, 0))) ∧ Aside0 (Below w.heap.size w wc))
 case first =>
  have H := HC2.out
  clear HC2
  by_cases c4 : a0_0.toList = ([103, 114, 111, 117, 110, 100] : List UInt8)
  · rw [if_pos c4] at H
    have c4b0 : (a0_0.toList == ([103, 114, 111, 117, 110, 100] : List UInt8)) = true := beq_iff_eq.mpr c4
    have c4b1 : (a0_0.toList != ([103, 114, 111, 117, 110, 100] : List UInt8)) = false := bne_eq_false_iff_eq.mpr c4
    clear c4
    (first | rw [c4b0] | (simp only [i64_w, i32_w]; rw [c4b0]) | skip)
    have H' := Aside0.mk H
    clear H
    have hcz5_0 : w3.cell? ⟨gb147, 0, none⟩ = some (.string a0_0) := (blk_cell BK147.out 0).trans rfl
    have hcz5_1 : w3.cell? ⟨gb147, 1, none⟩ = some (.slice A0_1 l0_1.length c0_1) := (blk_cell BK147.out 1).trans rfl
    have hfz5_0 := blk_frozen BK147.out 0
    have hfz5_1 := blk_frozen BK147.out 1
    go_wp2
    go_meet
    case rel => exact ⟨_, (false), (by first | rfl | (simp; done) | (simp [*]; done)), H', ⟨by first | omega | exact Nat.le_refl _⟩, ⟨by (with_reducible repeat (first | refine blk_drewN ?_ _ | refine blk_drew ?_ | refine blk_alloc ?_ _)); exact BK147.out⟩, ⟨by repeat (first | with_reducible exact HB.out | apply below_alloc | apply pw_below_drewN | apply below_drew1 | refine below_set ?_ GE147.out)⟩⟩
  · rw [if_neg c4] at H
    have c4b0 : (a0_0.toList == ([103, 114, 111, 117, 110, 100] : List UInt8)) = false := beq_eq_false_iff_ne.mpr c4
    have c4b1 : (a0_0.toList != ([103, 114, 111, 117, 110, 100] : List UInt8)) = true := bne_iff_ne.mpr c4
    (first | rw [c4b0] | (simp only [i64_w, i32_w]; rw [c4b0]) | skip)
    replace H := Option.bind_eq_some_iff.mp H
    obtain ⟨t148, A60, H⟩ := H
    replace H : (resolve_Check.j0 k (!t148) a0_0 l0_1) = some r := H
    have A6 := Aside0.mk A60
    clear A60
    have H' := Aside0.mk H
    clear H
    have hcz7_0 : w3.cell? ⟨gb147, 0, none⟩ = some (.string a0_0) := (blk_cell BK147.out 0).trans rfl
    have hcz7_1 : w3.cell? ⟨gb147, 1, none⟩ = some (.slice A0_1 l0_1.length c0_1) := (blk_cell BK147.out 1).trans rfl
    have hfz7_0 := blk_frozen BK147.out 0
    have hfz7_1 := blk_frozen BK147.out 1
    go_wp2_with (first | (go_at_call 65; (with_reducible refine (resolve_isTerm.calls k a0_0 t148 _ A6.out).mono ?_); rintro e w8 ⟨rfl, hb⟩; have n0_ := Aside0.mk (blk_below (g := gb147) (o := .cells #[.string a0_0, .slice A0_1 l0_1.length c0_1] 27 (0, 0)) (by (with_reducible repeat (first | refine blk_drewN ?_ _ | refine blk_drew ?_ | refine blk_alloc ?_ _)); exact BK147.out) hb); have n1_ := Aside0.mk (below_step (by repeat (first | with_reducible exact HB.out | apply below_alloc | apply pw_below_drewN | apply below_drew1 | refine below_set ?_ GE147.out)) hb); clear BK147; clear HB; have BK147 := n0_; have HB := n1_; clear n0_ n1_; (try clear hb); (try clear hb2); (try clear hk); (try clear hi)))
    go_meet
    case rel => exact ⟨_, (!t148), (by first | rfl | (simp; done) | (simp [*]; done)), H', ⟨by first | omega | exact Nat.le_refl _⟩, ⟨by (with_reducible repeat (first | refine blk_drewN ?_ _ | refine blk_drew ?_ | refine blk_alloc ?_ _)); exact BK147.out⟩, ⟨by repeat (first | with_reducible exact HB.out | apply below_alloc | apply pw_below_drewN | apply below_drew1 | refine below_set ?_ GE147.out)⟩⟩
 case rest =>
  clear HC2
  try clear p2
  try clear c4
  try clear c4b0
  try clear c4b1
  try clear c5
  try clear hcz5_0
  try clear hcz5_1
  try clear hcz7_0
  try clear hcz7_1
  try clear hfz5_0
  try clear hfz5_1
  try clear hfz7_0
  try clear hfz7_1
  obtain ⟨kq, x13_1, rfl, HA, HJ1, BK147, HB⟩ := hcut
  cases kq with
  | zero => exact absurd HA.out (by simp [resolve_Check.j0])
  | succ kj1 =>
   have H := HA.out
   clear HA
   simp only [resolve_Check.j0] at H
   by_cases c9 : x13_1 = true
   · subst c9
     have H1 : (some 3) = some r := by rw [if_pos rfl] at H; exact H
     clear H
     have H := H1
     clear H1
     obtain rfl := Option.some.inj H
     go_wp2
     go_ret
     exact ⟨by first | rfl | (simp [*, errW_none, errW_some] <;> rfl), by repeat (first | with_reducible exact HB.out | apply below_alloc | apply pw_below_drewN | apply below_drew1 | refine below_set ?_ GE147.out)⟩
   · replace c9 := Bool.eq_false_iff.mpr c9
     subst c9
     have H1 : (resolve_Check.l0 kj1 l0_1 (l0_1.length : Int) 0 a0_0 l0_1) = some r := by rw [if_neg (show ¬ (false = true) by decide)] at H; exact H
     clear H
     have H := H1
     clear H1
     have H' := Aside0.mk H
     clear H
     have hcz10_0 : wc.cell? ⟨gb147, 0, none⟩ = some (.string a0_0) := (blk_cell BK147.out 0).trans rfl
     have hcz10_1 : wc.cell? ⟨gb147, 1, none⟩ = some (.slice A0_1 l0_1.length c0_1) := (blk_cell BK147.out 1).trans rfl
     have hfz10_0 := blk_frozen BK147.out 0
     have hfz10_1 := blk_frozen BK147.out 1
     go_wp2
     go_loopg [17] kj1 (fun kq v17 w' => ∃ (x17_2 : Int), v17 = .int .i64 x17_2 ∧ Aside0 (resolve_Check.l0 kq l0_1 (l0_1.length : Int) x17_2 a0_0 l0_1 = some r) ∧ Aside0 (kq ≤ kj1) ∧ Aside0 (w'.heap[gb147]? = some (.cells #[.string a0_0, (.slice A0_1 l0_1.length c0_1)] 27 (0, 0))) ∧ Aside0 (Below w.heap.size w w'))
     case atStart => exact ⟨(0), (by first | rfl | (simp; done) | (simp [*]; done)), H', ⟨Nat.le_refl _⟩, ⟨by (with_reducible repeat (first | refine blk_drewN ?_ _ | refine blk_drew ?_ | refine blk_alloc ?_ _)); exact BK147.out⟩, ⟨by repeat (first | with_reducible exact HB.out | apply below_alloc | apply pw_below_drewN | apply below_drew1 | refine below_set ?_ GE147.out)⟩⟩
     case round =>
      clear H'
      try clear p2
      try clear c4
      try clear c4b0
      try clear c4b1
      try clear c5
      try clear c9
      try clear hcz10_0
      try clear hcz10_1
      try clear hcz5_0
      try clear hcz5_1
      try clear hcz7_0
      try clear hcz7_1
      try clear hfz10_0
      try clear hfz10_1
      try clear hfz5_0
      try clear hfz5_1
      try clear hfz7_0
      try clear hfz7_1
      try clear p2
      obtain ⟨x17_2, rfl, HA, HK2, BK147, HB⟩ := hrel
      cases gk with
      | zero => exact absurd HA.out (by simp [resolve_Check.l0])
      | succ k2 =>
       have H := HA.out
       clear HA
       simp only [resolve_Check.l0] at H
       by_cases c11 : x17_2 < (l0_1.length : Int)
       · rw [if_pos c11] at H
         have c11b0 : decide (x17_2 < (l0_1.length : Int)) = true := decide_eq_true c11
         clear c11
         by_cases c12 : 0 ≤ x17_2
         · rw [if_pos c12] at H
           have c12b0 : decide (0 ≤ x17_2) = true := decide_eq_true c12
           clear c12
           by_cases c13 : x17_2 < (l0_1.length : Int)
           · rw [if_pos c13] at H
             have c13b0 : decide (x17_2 < (l0_1.length : Int)) = true := decide_eq_true c13
             clear c13
             replace H := Option.bind_eq_some_iff.mp H
             obtain ⟨t150, A140, H⟩ := H
             replace H : (if t150 = true then (if x17_2 > 0 then (if 0 ≤ (wrap64 (x17_2 - 1)) then (if (wrap64 (x17_2 - 1)) < (l0_1.length : Int) then (if ((Op.bytesLess ((rdOf ByteArray.empty l0_1 (wrap64 (x17_2 - 1))).toList) ((rdOf ByteArray.empty l0_1 x17_2).toList)) = true) then (resolve_Check.l0 k2 l0_1 (l0_1.length : Int) (wrap64 (x17_2 + 1)) a0_0 l0_1) else (some 3)) else (none)) else (none)) else (resolve_Check.l0 k2 l0_1 (l0_1.length : Int) (wrap64 (x17_2 + 1)) a0_0 l0_1)) else (some 3)) = some r := H
             have A14 := Aside0.mk A140
             clear A140
             by_cases c15 : t150 = true
             · subst c15
               have H1 : (if x17_2 > 0 then (if 0 ≤ (wrap64 (x17_2 - 1)) then (if (wrap64 (x17_2 - 1)) < (l0_1.length : Int) then (if ((Op.bytesLess ((rdOf ByteArray.empty l0_1 (wrap64 (x17_2 - 1))).toList) ((rdOf ByteArray.empty l0_1 x17_2).toList)) = true) then (resolve_Check.l0 k2 l0_1 (l0_1.length : Int) (wrap64 (x17_2 + 1)) a0_0 l0_1) else (some 3)) else (none)) else (none)) else (resolve_Check.l0 k2 l0_1 (l0_1.length : Int) (wrap64 (x17_2 + 1)) a0_0 l0_1)) = some r := by rw [if_pos rfl] at H; exact H
               clear H
               have H := H1
               clear H1
               by_cases c16 : x17_2 > 0
               · rw [if_pos c16] at H
                 have c16b0 : decide (0 < x17_2) = true := decide_eq_true c16
                 clear c16
                 obtain ⟨ji17, hji17⟩ : ∃ j_ : Int, (wrap64 (x17_2 - 1)) = j_ := ⟨_, rfl⟩
                 replace H : (if 0 ≤ (ji17) then (if (ji17) < (l0_1.length : Int) then (if ((Op.bytesLess ((rdOf ByteArray.empty l0_1 (ji17)).toList) ((rdOf ByteArray.empty l0_1 x17_2).toList)) = true) then (resolve_Check.l0 k2 l0_1 (l0_1.length : Int) (wrap64 (x17_2 + 1)) a0_0 l0_1) else (some 3)) else (none)) else (none)) = some r := by first | (rw [hji17] at H; exact H) | (simp only [hji17] at H ⊢; exact H)
                 (try rw [hji17] at A14)
                 have hji17w : (IntKind.i64.wrap (x17_2 - 1)) = ji17 := (i64_w _).trans hji17
                 by_cases c18 : 0 ≤ (ji17)
                 · rw [if_pos c18] at H
                   have c18b0 : decide (0 ≤ (ji17)) = true := decide_eq_true c18
                   clear c18
                   by_cases c19 : (ji17) < (l0_1.length : Int)
                   · rw [if_pos c19] at H
                     have c19b0 : decide ((ji17) < (l0_1.length : Int)) = true := decide_eq_true c19
                     clear c19
                     by_cases c20 : ((Op.bytesLess ((rdOf ByteArray.empty l0_1 (ji17)).toList) ((rdOf ByteArray.empty l0_1 x17_2).toList)) = true)
                     · rw [if_pos c20] at H
                       have c20b0 : (Op.bytesLess ((rdOf ByteArray.empty l0_1 (ji17)).toList) ((rdOf ByteArray.empty l0_1 x17_2).toList)) = true := c20
                       clear c20
                       have H' := Aside0.mk H
                       clear H
                       have p149 : 0 ≤ (x17_2 : Int) := of_decide_eq_true (by assumption)
                       have q149 : x17_2 < (l0_1.length : Int) := of_decide_eq_true (by assumption)
                       obtain ⟨ad149, e149, hx149_0⟩ := Kd.at_string HR0_1.out x17_2 p149 q149
                       cases e149
                       replace hx149_0 := (HB.out.cell (World.block_lt_of_cell? w _ hx149_0)).trans hx149_0
                       replace p149 := eq_true p149
                       replace q149 := eq_true q149
                       go_wp2_with (first | ((with_reducible refine gate_callee (f := 65) rfl ?_); refine goesL_ (some 23) rfl rfl Tryz.func65 (by kernel_rfl) rfl #[.string (rdOf ByteArray.empty l0_1 x17_2)] rfl (by first | rfl | (simp only [List.map_toArray, List.map_cons, List.map_nil, List.length_drop, List.length_take]; try rfl)) ?_; (with_reducible refine (resolve_isTerm.calls k2 (rdOf ByteArray.empty l0_1 x17_2) true _ A14.out).mono ?_); rintro e w21 ⟨rfl, hb⟩; refine ⟨_, rfl, ?_⟩; have n0_ := Aside0.mk (blk_below (g := gb147) (o := .cells #[.string a0_0, .slice (some ad149) l0_1.length c0_1] 27 (0, 0)) (by (with_reducible repeat (first | refine blk_drewN ?_ _ | refine blk_drew ?_ | refine blk_alloc ?_ _)); exact BK147.out) hb); have n1_ := Aside0.mk (below_step (by repeat (first | with_reducible exact HB.out | apply below_alloc | apply pw_below_drewN | apply below_drew1 | refine below_set ?_ GE147.out)) hb); clear BK147; clear HB; have BK147 := n0_; have HB := n1_; clear n0_ n1_; (try clear hb); (try clear hb2); (try clear hk); (try clear hi); have hcz22_0 : w21.cell? ⟨gb147, 0, none⟩ = some (.string a0_0) := (blk_cell BK147.out 0).trans rfl; have hcz22_1 : w21.cell? ⟨gb147, 1, none⟩ = some (.slice (some ad149) l0_1.length c0_1) := (blk_cell BK147.out 1).trans rfl; have hfz22_0 := blk_frozen BK147.out 0; have hfz22_1 := blk_frozen BK147.out 1; have p151 : 0 ≤ ((ji17) : Int) := of_decide_eq_true (by assumption); have q151 : (ji17) < (l0_1.length : Int) := of_decide_eq_true (by assumption); obtain ⟨ad151, e151, hx151_0⟩ := Kd.at_string HR0_1.out (ji17) p151 q151; obtain rfl : ad149 = ad151 := (by injection e151); replace hx151_0 := (HB.out.cell (World.block_lt_of_cell? w _ hx151_0)).trans hx151_0; replace p151 := eq_true p151; replace q151 := eq_true q151))
                       go_roundg k2
                       case measure => have := HJ1.out; have := HK2.out; omega
                       case rel => exact ⟨(wrap64 (x17_2 + 1)), (by first | rfl | (simp; done) | (simp [*]; done)), H', ⟨by have := HJ1.out; have := HK2.out; omega⟩, ⟨by (with_reducible repeat (first | refine blk_drewN ?_ _ | refine blk_drew ?_ | refine blk_alloc ?_ _)); exact BK147.out⟩, ⟨by repeat (first | with_reducible exact HB.out | apply below_alloc | apply pw_below_drewN | apply below_drew1 | refine below_set ?_ GE147.out)⟩⟩
                     · rw [if_neg c20] at H
                       have c20b0 : (Op.bytesLess ((rdOf ByteArray.empty l0_1 (ji17)).toList) ((rdOf ByteArray.empty l0_1 x17_2).toList)) = false := by simpa using c20
                       clear c20
                       obtain rfl := Option.some.inj H
                       have p149 : 0 ≤ (x17_2 : Int) := of_decide_eq_true (by assumption)
                       have q149 : x17_2 < (l0_1.length : Int) := of_decide_eq_true (by assumption)
                       obtain ⟨ad149, e149, hx149_0⟩ := Kd.at_string HR0_1.out x17_2 p149 q149
                       cases e149
                       replace hx149_0 := (HB.out.cell (World.block_lt_of_cell? w _ hx149_0)).trans hx149_0
                       replace p149 := eq_true p149
                       replace q149 := eq_true q149
                       go_wp2_with (first | ((with_reducible refine gate_callee (f := 65) rfl ?_); refine goesL_ (some 23) rfl rfl Tryz.func65 (by kernel_rfl) rfl #[.string (rdOf ByteArray.empty l0_1 x17_2)] rfl (by first | rfl | (simp only [List.map_toArray, List.map_cons, List.map_nil, List.length_drop, List.length_take]; try rfl)) ?_; (with_reducible refine (resolve_isTerm.calls k2 (rdOf ByteArray.empty l0_1 x17_2) true _ A14.out).mono ?_); rintro e w23 ⟨rfl, hb⟩; refine ⟨_, rfl, ?_⟩; have n0_ := Aside0.mk (blk_below (g := gb147) (o := .cells #[.string a0_0, .slice (some ad149) l0_1.length c0_1] 27 (0, 0)) (by (with_reducible repeat (first | refine blk_drewN ?_ _ | refine blk_drew ?_ | refine blk_alloc ?_ _)); exact BK147.out) hb); have n1_ := Aside0.mk (below_step (by repeat (first | with_reducible exact HB.out | apply below_alloc | apply pw_below_drewN | apply below_drew1 | refine below_set ?_ GE147.out)) hb); clear BK147; clear HB; have BK147 := n0_; have HB := n1_; clear n0_ n1_; (try clear hb); (try clear hb2); (try clear hk); (try clear hi); have hcz24_0 : w23.cell? ⟨gb147, 0, none⟩ = some (.string a0_0) := (blk_cell BK147.out 0).trans rfl; have hcz24_1 : w23.cell? ⟨gb147, 1, none⟩ = some (.slice (some ad149) l0_1.length c0_1) := (blk_cell BK147.out 1).trans rfl; have hfz24_0 := blk_frozen BK147.out 0; have hfz24_1 := blk_frozen BK147.out 1; have p151 : 0 ≤ ((ji17) : Int) := of_decide_eq_true (by assumption); have q151 : (ji17) < (l0_1.length : Int) := of_decide_eq_true (by assumption); obtain ⟨ad151, e151, hx151_0⟩ := Kd.at_string HR0_1.out (ji17) p151 q151; obtain rfl : ad149 = ad151 := (by injection e151); replace hx151_0 := (HB.out.cell (World.block_lt_of_cell? w _ hx151_0)).trans hx151_0; replace p151 := eq_true p151; replace q151 := eq_true q151))
                       go_ret
                       exact ⟨by first | rfl | (simp [errW_none, errW_some] <;> rfl) | (simp only [← hji17]; first | rfl | (simp [errW_none, errW_some] <;> rfl)) | (simp [*, errW_none, errW_some] <;> rfl), by repeat (first | with_reducible exact HB.out | apply below_alloc | apply pw_below_drewN | apply below_drew1 | refine below_set ?_ GE147.out)⟩
                   · rw [if_neg c19] at H
                     exact absurd H (by simp)
                 · rw [if_neg c18] at H
                   exact absurd H (by simp)
               · rw [if_neg c16] at H
                 have c16b0 : decide (0 < x17_2) = false := decide_eq_false c16
                 clear c16
                 have H' := Aside0.mk H
                 clear H
                 have p149 : 0 ≤ (x17_2 : Int) := of_decide_eq_true (by assumption)
                 have q149 : x17_2 < (l0_1.length : Int) := of_decide_eq_true (by assumption)
                 obtain ⟨ad149, e149, hx149_0⟩ := Kd.at_string HR0_1.out x17_2 p149 q149
                 cases e149
                 replace hx149_0 := (HB.out.cell (World.block_lt_of_cell? w _ hx149_0)).trans hx149_0
                 replace p149 := eq_true p149
                 replace q149 := eq_true q149
                 go_wp2_with (first | ((with_reducible refine gate_callee (f := 65) rfl ?_); refine goesL_ (some 23) rfl rfl Tryz.func65 (by kernel_rfl) rfl #[.string (rdOf ByteArray.empty l0_1 x17_2)] rfl (by first | rfl | (simp only [List.map_toArray, List.map_cons, List.map_nil, List.length_drop, List.length_take]; try rfl)) ?_; (with_reducible refine (resolve_isTerm.calls k2 (rdOf ByteArray.empty l0_1 x17_2) true _ A14.out).mono ?_); rintro e w25 ⟨rfl, hb⟩; refine ⟨_, rfl, ?_⟩; have n0_ := Aside0.mk (blk_below (g := gb147) (o := .cells #[.string a0_0, .slice (some ad149) l0_1.length c0_1] 27 (0, 0)) (by (with_reducible repeat (first | refine blk_drewN ?_ _ | refine blk_drew ?_ | refine blk_alloc ?_ _)); exact BK147.out) hb); have n1_ := Aside0.mk (below_step (by repeat (first | with_reducible exact HB.out | apply below_alloc | apply pw_below_drewN | apply below_drew1 | refine below_set ?_ GE147.out)) hb); clear BK147; clear HB; have BK147 := n0_; have HB := n1_; clear n0_ n1_; (try clear hb); (try clear hb2); (try clear hk); (try clear hi)))
                 go_roundg k2
                 case measure => have := HJ1.out; have := HK2.out; omega
                 case rel => exact ⟨(wrap64 (x17_2 + 1)), (by first | rfl | (simp; done) | (simp [*]; done)), H', ⟨by have := HJ1.out; have := HK2.out; omega⟩, ⟨by (with_reducible repeat (first | refine blk_drewN ?_ _ | refine blk_drew ?_ | refine blk_alloc ?_ _)); exact BK147.out⟩, ⟨by repeat (first | with_reducible exact HB.out | apply below_alloc | apply pw_below_drewN | apply below_drew1 | refine below_set ?_ GE147.out)⟩⟩
             · replace c15 := Bool.eq_false_iff.mpr c15
               subst c15
               have H1 : (some 3) = some r := by rw [if_neg (show ¬ (false = true) by decide)] at H; exact H
               clear H
               have H := H1
               clear H1
               obtain rfl := Option.some.inj H
               have p149 : 0 ≤ (x17_2 : Int) := of_decide_eq_true (by assumption)
               have q149 : x17_2 < (l0_1.length : Int) := of_decide_eq_true (by assumption)
               obtain ⟨ad149, e149, hx149_0⟩ := Kd.at_string HR0_1.out x17_2 p149 q149
               cases e149
               replace hx149_0 := (HB.out.cell (World.block_lt_of_cell? w _ hx149_0)).trans hx149_0
               replace p149 := eq_true p149
               replace q149 := eq_true q149
               go_wp2_with (first | ((with_reducible refine gate_callee (f := 65) rfl ?_); refine goesL_ (some 23) rfl rfl Tryz.func65 (by kernel_rfl) rfl #[.string (rdOf ByteArray.empty l0_1 x17_2)] rfl (by first | rfl | (simp only [List.map_toArray, List.map_cons, List.map_nil, List.length_drop, List.length_take]; try rfl)) ?_; (with_reducible refine (resolve_isTerm.calls k2 (rdOf ByteArray.empty l0_1 x17_2) false _ A14.out).mono ?_); rintro e w26 ⟨rfl, hb⟩; refine ⟨_, rfl, ?_⟩; have n0_ := Aside0.mk (blk_below (g := gb147) (o := .cells #[.string a0_0, .slice (some ad149) l0_1.length c0_1] 27 (0, 0)) (by (with_reducible repeat (first | refine blk_drewN ?_ _ | refine blk_drew ?_ | refine blk_alloc ?_ _)); exact BK147.out) hb); have n1_ := Aside0.mk (below_step (by repeat (first | with_reducible exact HB.out | apply below_alloc | apply pw_below_drewN | apply below_drew1 | refine below_set ?_ GE147.out)) hb); clear BK147; clear HB; have BK147 := n0_; have HB := n1_; clear n0_ n1_; (try clear hb); (try clear hb2); (try clear hk); (try clear hi)))
               go_ret
               exact ⟨by first | rfl | (simp [*, errW_none, errW_some] <;> rfl), by repeat (first | with_reducible exact HB.out | apply below_alloc | apply pw_below_drewN | apply below_drew1 | refine below_set ?_ GE147.out)⟩
           · rw [if_neg c13] at H
             exact absurd H (by simp)
         · rw [if_neg c12] at H
           exact absurd H (by simp)
       · rw [if_neg c11] at H
         have c11b0 : decide (x17_2 < (l0_1.length : Int)) = false := decide_eq_false c11
         clear c11
         obtain rfl := Option.some.inj H
         go_wp2
         go_ret
         exact ⟨by first | rfl | (simp [*, errW_none, errW_some] <;> rfl), by repeat (first | with_reducible exact HB.out | apply below_alloc | apply pw_below_drewN | apply below_drew1 | refine below_set ?_ GE147.out)⟩
end Go.Proofs.YtoccbcfjbingbaaGreatDoor.X30
