-- Written by wip/tools/xprint.py out of the translation (the kit's printer with contracts of this session's own). Lean checks it.
import Derived.Test.YtkceipkedmfeiaaGreatDoorX30x0
import Derived.Test.YtkceipkedmfeiaaGreatDoorX30x2
import Derived.Test.YtkceipkedmfeiaaGreatDoorX30x3
namespace Go.Proofs.YtkceipkedmfeiaaGreatDoor.X30
open Go.RowKit Go.Proofs.YtkceipkedmfeiaaGreatDoorW.PrintWords Go.Proofs.YtkceipkedmfeiaaGreatDoorW.PrintLast Go.Proofs.YtkceipkedmfeiaaGreatDoorW.PrintMore
attribute [local go_sem] max2_int min2_int max_two min_two max_three min_three max_four min_four   -- for this text's walks alone
set_option linter.unusedVariables false
set_option linter.unusedSimpArgs false

/-! ### voussoirref27_Parse: function 26 -/
mutual
def voussoirref27_Parse.j0 : Nat → ByteArray → Int → Int → Bool → Option (ByteArray × ByteArray × Int × ByteArray × Int)
  | 0, _, _, _, _ => none
  | k + 1, x0, x7, x8, x35 => if x35 = true then ((voussoirref27_first.f k x0 40).bind fun t126 => (if t126 < x7 then (voussoirref27_Parse.j1 k x0 x7 t126 true) else (if 0 ≤ (wrap64 ((x0.size : Int) - 1)) then (if (wrap64 ((x0.size : Int) - 1)) < (x0.size : Int) then (if (bt x0 (wrap64 ((x0.size : Int) - 1))) = 41 then (if 0 ≤ x7 then (if x7 ≤ (x0.size : Int) then ((voussoirref27_Id.f k (x0.extract 0 (x7 : Int).toNat)).bind fun t127 => (if t127 = 0 then (voussoirref27_Parse.j1 k x0 x7 t126 true) else (if 0 ≤ (wrap64 (x7 + 1)) then (if (wrap64 (x7 + 1)) ≤ t126 then (if t126 ≤ (x0.size : Int) then ((voussoirref27_digits.f k (x0.extract ((wrap64 (x7 + 1)) : Int).toNat (t126 : Int).toNat) 2).bind fun t128 => (voussoirref27_Parse.j1 k x0 x7 t126 (decide (t128 < 1)))) else (none)) else (none)) else (none)))) else (none)) else (none)) else (voussoirref27_Parse.j1 k x0 x7 t126 true)) else (none)) else (none)))) else (if x8 < 0 then (voussoirref27_Parse.j2 k x0 x8 true) else (if 0 ≤ x8 then (if x8 ≤ (x0.size : Int) then ((voussoirref27_Id.f k (x0.extract 0 (x8 : Int).toNat)).bind fun t135 => (voussoirref27_Parse.j2 k x0 x8 (t135 == 0))) else (none)) else (none)))
def voussoirref27_Parse.j1 : Nat → ByteArray → Int → Int → Bool → Option (ByteArray × ByteArray × Int × ByteArray × Int)
  | 0, _, _, _, _ => none
  | k + 1, x0, x7, x9, x64 => if x64 = true then (some ((⟨#[]⟩ : ByteArray), (⟨#[]⟩ : ByteArray), 0, (⟨#[]⟩ : ByteArray), 3)) else (if 0 ≤ (wrap64 (x9 + 1)) then (if (wrap64 (x9 + 1)) ≤ (wrap64 ((x0.size : Int) - 1)) then (if (wrap64 ((x0.size : Int) - 1)) ≤ (x0.size : Int) then ((voussoirref27_Parse.f k (x0.extract ((wrap64 (x9 + 1)) : Int).toNat ((wrap64 ((x0.size : Int) - 1)) : Int).toNat)).bind fun bt129 => (if bt129.2.2.2.2 = 0 then (if 0 ≤ x7 then (if x7 ≤ (x0.size : Int) then (if 0 ≤ (wrap64 (x7 + 1)) then (if (wrap64 (x7 + 1)) ≤ x9 then (if x9 ≤ (x0.size : Int) then ((voussoirref27_digits.f k (x0.extract ((wrap64 (x7 + 1)) : Int).toNat (x9 : Int).toNat) 2).bind fun t134 => (some (x0.extract 0 (x7 : Int).toNat, (⟨#[]⟩ : ByteArray), t134, x0.extract ((wrap64 (x9 + 1)) : Int).toNat ((wrap64 ((x0.size : Int) - 1)) : Int).toNat, 0))) else (none)) else (none)) else (none)) else (none)) else (none)) else (some ((⟨#[]⟩ : ByteArray), (⟨#[]⟩ : ByteArray), 0, (⟨#[]⟩ : ByteArray), 3)))) else (none)) else (none)) else (none))
def voussoirref27_Parse.j2 : Nat → ByteArray → Int → Bool → Option (ByteArray × ByteArray × Int × ByteArray × Int)
  | 0, _, _, _ => none
  | k + 1, x0, x8, x100 => if x100 = true then (some ((⟨#[]⟩ : ByteArray), (⟨#[]⟩ : ByteArray), 0, (⟨#[]⟩ : ByteArray), 3)) else (if 0 ≤ (wrap64 (x8 + 1)) then (if (wrap64 (x8 + 1)) ≤ (x0.size : Int) then (voussoirref27_Parse.l0 k x0 x8 (x0.extract ((wrap64 (x8 + 1)) : Int).toNat x0.size) 0) else (none)) else (none))
def voussoirref27_Parse.j4 : Nat → ByteArray → Int → ByteArray → Int → Option (ByteArray × ByteArray × Int × ByteArray × Int)
  | 0, _, _, _, _ => none
  | k + 1, x0, x8, x16, x17 => if 0 ≤ x17 then (if x17 ≤ (x16.size : Int) then ((voussoirref27_Role.f k (x16.extract 0 (x17 : Int).toNat)).bind fun t137 => (if t137 = 0 then (some ((⟨#[]⟩ : ByteArray), (⟨#[]⟩ : ByteArray), 0, (⟨#[]⟩ : ByteArray), 3)) else ((voussoirref27_digits.f k (x16.extract (x17 : Int).toNat x16.size) 3).bind fun t138 => (if t138 < 0 then (some ((⟨#[]⟩ : ByteArray), (⟨#[]⟩ : ByteArray), 0, (⟨#[]⟩ : ByteArray), 3)) else (if 0 ≤ x8 then (if x8 ≤ (x0.size : Int) then ((voussoirref27_digits.f k (x16.extract (x17 : Int).toNat x16.size) 3).bind fun t139 => (some (x0.extract 0 (x8 : Int).toNat, x16.extract 0 (x17 : Int).toNat, t139, (⟨#[]⟩ : ByteArray), 0))) else (none)) else (none)))))) else (none)) else (none)
def voussoirref27_Parse.l0 : Nat → ByteArray → Int → ByteArray → Int → Option (ByteArray × ByteArray × Int × ByteArray × Int)
  | 0, _, _, _, _ => none
  | k + 1, x0, x8, x16, x17 => if x17 < (x16.size : Int) then (if 0 ≤ x17 then ((voussoirref27_small.f (bt x16 x17)).bind fun t136 => (if t136 = true then (voussoirref27_Parse.l0 k x0 x8 x16 (wrap64 (x17 + 1))) else (voussoirref27_Parse.j4 k x0 x8 x16 x17))) else (none)) else (voussoirref27_Parse.j4 k x0 x8 x16 x17)
def voussoirref27_Parse.f : Nat → ByteArray → Option (ByteArray × ByteArray × Int × ByteArray × Int)
  | 0, _ => none
  | k + 1, a0 => if (a0.size : Int) > 200 then (some ((⟨#[]⟩ : ByteArray), (⟨#[]⟩ : ByteArray), 0, (⟨#[]⟩ : ByteArray), 3)) else ((voussoirref27_first.f k a0 35).bind fun t124 => ((voussoirref27_first.f k a0 58).bind fun t125 => (if t124 ≥ 0 then (if t125 < 0 then (voussoirref27_Parse.j0 k a0 t124 t125 true) else (voussoirref27_Parse.j0 k a0 t124 t125 (decide (t124 < t125)))) else (voussoirref27_Parse.j0 k a0 t124 t125 false))))
end
theorem voussoirref27_Parse.mono_l : ∀ k, (∀ y0, LeO (voussoirref27_Parse.f k y0) (voussoirref27_Parse.f (k + 1) y0)) ∧ (∀ y0 y1 y2 y3, LeO (voussoirref27_Parse.j0 k y0 y1 y2 y3) (voussoirref27_Parse.j0 (k + 1) y0 y1 y2 y3)) ∧ (∀ y0 y1 y2 y3, LeO (voussoirref27_Parse.j1 k y0 y1 y2 y3) (voussoirref27_Parse.j1 (k + 1) y0 y1 y2 y3)) ∧ (∀ y0 y1 y2, LeO (voussoirref27_Parse.j2 k y0 y1 y2) (voussoirref27_Parse.j2 (k + 1) y0 y1 y2)) ∧ (∀ y0 y1 y2 y3, LeO (voussoirref27_Parse.j4 k y0 y1 y2 y3) (voussoirref27_Parse.j4 (k + 1) y0 y1 y2 y3)) ∧ (∀ y0 y1 y2 y3, LeO (voussoirref27_Parse.l0 k y0 y1 y2 y3) (voussoirref27_Parse.l0 (k + 1) y0 y1 y2 y3))
  | 0 => ⟨fun _ r h => by simp [voussoirref27_Parse.f] at h, fun _ _ _ _ r h => by simp [voussoirref27_Parse.j0] at h, fun _ _ _ _ r h => by simp [voussoirref27_Parse.j1] at h, fun _ _ _ r h => by simp [voussoirref27_Parse.j2] at h, fun _ _ _ _ r h => by simp [voussoirref27_Parse.j4] at h, fun _ _ _ _ r h => by simp [voussoirref27_Parse.l0] at h⟩
  | k + 1 => by
    obtain ⟨ih0, ih1, ih2, ih3, ih4, ih5⟩ := voussoirref27_Parse.mono_l k
    refine ⟨?_, ?_, ?_, ?_, ?_, ?_⟩
    · intro y0
      unfold voussoirref27_Parse.f
      repeat' first
      | (with_reducible exact ih0 _)
      | (with_reducible exact ih1 _ _ _ _)
      | (with_reducible exact ih2 _ _ _ _)
      | (with_reducible exact ih3 _ _ _)
      | (with_reducible exact ih4 _ _ _ _)
      | (with_reducible exact ih5 _ _ _ _)
      | (with_reducible exact voussoirref27_Id.mono _ _)
      | (with_reducible exact voussoirref27_Role.mono _ _)
      | (with_reducible exact voussoirref27_digits.mono _ _ _)
      | (with_reducible exact voussoirref27_first.mono _ _ _)
      | (with_reducible exact LeO.refl _)
      | (with_reducible exact LeO.none _)
      | (with_reducible refine LeO.ite ?_ ?_)
      | (with_reducible refine LeO.bind ?_ (fun _ => ?_))
      | exact ih0 _
      | exact ih1 _ _ _ _
      | exact ih2 _ _ _ _
      | exact ih3 _ _ _
      | exact ih4 _ _ _ _
      | exact ih5 _ _ _ _
      | exact voussoirref27_Id.mono _ _
      | exact voussoirref27_Role.mono _ _
      | exact voussoirref27_digits.mono _ _ _
      | exact voussoirref27_first.mono _ _ _
      | exact LeO.none _
      | refine LeO.ite ?_ ?_
      | refine LeO.bind ?_ (fun _ => ?_)
    · intro y0 y1 y2 y3
      unfold voussoirref27_Parse.j0
      repeat' first
      | (with_reducible exact ih0 _)
      | (with_reducible exact ih1 _ _ _ _)
      | (with_reducible exact ih2 _ _ _ _)
      | (with_reducible exact ih3 _ _ _)
      | (with_reducible exact ih4 _ _ _ _)
      | (with_reducible exact ih5 _ _ _ _)
      | (with_reducible exact voussoirref27_Id.mono _ _)
      | (with_reducible exact voussoirref27_Role.mono _ _)
      | (with_reducible exact voussoirref27_digits.mono _ _ _)
      | (with_reducible exact voussoirref27_first.mono _ _ _)
      | (with_reducible exact LeO.refl _)
      | (with_reducible exact LeO.none _)
      | (with_reducible refine LeO.ite ?_ ?_)
      | (with_reducible refine LeO.bind ?_ (fun _ => ?_))
      | exact ih0 _
      | exact ih1 _ _ _ _
      | exact ih2 _ _ _ _
      | exact ih3 _ _ _
      | exact ih4 _ _ _ _
      | exact ih5 _ _ _ _
      | exact voussoirref27_Id.mono _ _
      | exact voussoirref27_Role.mono _ _
      | exact voussoirref27_digits.mono _ _ _
      | exact voussoirref27_first.mono _ _ _
      | exact LeO.none _
      | refine LeO.ite ?_ ?_
      | refine LeO.bind ?_ (fun _ => ?_)
    · intro y0 y1 y2 y3
      unfold voussoirref27_Parse.j1
      repeat' first
      | (with_reducible exact ih0 _)
      | (with_reducible exact ih1 _ _ _ _)
      | (with_reducible exact ih2 _ _ _ _)
      | (with_reducible exact ih3 _ _ _)
      | (with_reducible exact ih4 _ _ _ _)
      | (with_reducible exact ih5 _ _ _ _)
      | (with_reducible exact voussoirref27_Id.mono _ _)
      | (with_reducible exact voussoirref27_Role.mono _ _)
      | (with_reducible exact voussoirref27_digits.mono _ _ _)
      | (with_reducible exact voussoirref27_first.mono _ _ _)
      | (with_reducible exact LeO.refl _)
      | (with_reducible exact LeO.none _)
      | (with_reducible refine LeO.ite ?_ ?_)
      | (with_reducible refine LeO.bind ?_ (fun _ => ?_))
      | exact ih0 _
      | exact ih1 _ _ _ _
      | exact ih2 _ _ _ _
      | exact ih3 _ _ _
      | exact ih4 _ _ _ _
      | exact ih5 _ _ _ _
      | exact voussoirref27_Id.mono _ _
      | exact voussoirref27_Role.mono _ _
      | exact voussoirref27_digits.mono _ _ _
      | exact voussoirref27_first.mono _ _ _
      | exact LeO.none _
      | refine LeO.ite ?_ ?_
      | refine LeO.bind ?_ (fun _ => ?_)
    · intro y0 y1 y2
      unfold voussoirref27_Parse.j2
      repeat' first
      | (with_reducible exact ih0 _)
      | (with_reducible exact ih1 _ _ _ _)
      | (with_reducible exact ih2 _ _ _ _)
      | (with_reducible exact ih3 _ _ _)
      | (with_reducible exact ih4 _ _ _ _)
      | (with_reducible exact ih5 _ _ _ _)
      | (with_reducible exact voussoirref27_Id.mono _ _)
      | (with_reducible exact voussoirref27_Role.mono _ _)
      | (with_reducible exact voussoirref27_digits.mono _ _ _)
      | (with_reducible exact voussoirref27_first.mono _ _ _)
      | (with_reducible exact LeO.refl _)
      | (with_reducible exact LeO.none _)
      | (with_reducible refine LeO.ite ?_ ?_)
      | (with_reducible refine LeO.bind ?_ (fun _ => ?_))
      | exact ih0 _
      | exact ih1 _ _ _ _
      | exact ih2 _ _ _ _
      | exact ih3 _ _ _
      | exact ih4 _ _ _ _
      | exact ih5 _ _ _ _
      | exact voussoirref27_Id.mono _ _
      | exact voussoirref27_Role.mono _ _
      | exact voussoirref27_digits.mono _ _ _
      | exact voussoirref27_first.mono _ _ _
      | exact LeO.none _
      | refine LeO.ite ?_ ?_
      | refine LeO.bind ?_ (fun _ => ?_)
    · intro y0 y1 y2 y3
      unfold voussoirref27_Parse.j4
      repeat' first
      | (with_reducible exact ih0 _)
      | (with_reducible exact ih1 _ _ _ _)
      | (with_reducible exact ih2 _ _ _ _)
      | (with_reducible exact ih3 _ _ _)
      | (with_reducible exact ih4 _ _ _ _)
      | (with_reducible exact ih5 _ _ _ _)
      | (with_reducible exact voussoirref27_Id.mono _ _)
      | (with_reducible exact voussoirref27_Role.mono _ _)
      | (with_reducible exact voussoirref27_digits.mono _ _ _)
      | (with_reducible exact voussoirref27_first.mono _ _ _)
      | (with_reducible exact LeO.refl _)
      | (with_reducible exact LeO.none _)
      | (with_reducible refine LeO.ite ?_ ?_)
      | (with_reducible refine LeO.bind ?_ (fun _ => ?_))
      | exact ih0 _
      | exact ih1 _ _ _ _
      | exact ih2 _ _ _ _
      | exact ih3 _ _ _
      | exact ih4 _ _ _ _
      | exact ih5 _ _ _ _
      | exact voussoirref27_Id.mono _ _
      | exact voussoirref27_Role.mono _ _
      | exact voussoirref27_digits.mono _ _ _
      | exact voussoirref27_first.mono _ _ _
      | exact LeO.none _
      | refine LeO.ite ?_ ?_
      | refine LeO.bind ?_ (fun _ => ?_)
    · intro y0 y1 y2 y3
      unfold voussoirref27_Parse.l0
      repeat' first
      | (with_reducible exact ih0 _)
      | (with_reducible exact ih1 _ _ _ _)
      | (with_reducible exact ih2 _ _ _ _)
      | (with_reducible exact ih3 _ _ _)
      | (with_reducible exact ih4 _ _ _ _)
      | (with_reducible exact ih5 _ _ _ _)
      | (with_reducible exact voussoirref27_Id.mono _ _)
      | (with_reducible exact voussoirref27_Role.mono _ _)
      | (with_reducible exact voussoirref27_digits.mono _ _ _)
      | (with_reducible exact voussoirref27_first.mono _ _ _)
      | (with_reducible exact LeO.refl _)
      | (with_reducible exact LeO.none _)
      | (with_reducible refine LeO.ite ?_ ?_)
      | (with_reducible refine LeO.bind ?_ (fun _ => ?_))
      | exact ih0 _
      | exact ih1 _ _ _ _
      | exact ih2 _ _ _ _
      | exact ih3 _ _ _
      | exact ih4 _ _ _ _
      | exact ih5 _ _ _ _
      | exact voussoirref27_Id.mono _ _
      | exact voussoirref27_Role.mono _ _
      | exact voussoirref27_digits.mono _ _ _
      | exact voussoirref27_first.mono _ _ _
      | exact LeO.none _
      | refine LeO.ite ?_ ?_
      | refine LeO.bind ?_ (fun _ => ?_)
theorem voussoirref27_Parse.mono : ∀ a0 k, LeO (voussoirref27_Parse.f k a0) (voussoirref27_Parse.f (k + 1) a0) := by
  intro a0 k
  obtain ⟨ih0, ih1, ih2, ih3, ih4, ih5⟩ := voussoirref27_Parse.mono_l k
  exact ih0 a0
set_option maxHeartbeats 8000000 in
set_option maxRecDepth 100000 in
theorem voussoirref27_Parse.calls (k : Nat) : ∀ (a0 : ByteArray) (r1 : ByteArray) (r2 : ByteArray) (r3 : Int) (r4 : ByteArray) (r5 : Int) (w : World) (h : voussoirref27_Parse.f k a0 = some (r1, r2, r3, r4, r5)),
    Calls Tryz.prog 26 #[.string a0] w fun e w' => e = .returned (.tuple #[.string r1, .string r2, .int .i64 r3, .string r4, .int .i64 r5]) ∧ Drawn0 w w' := by
  induction k using Nat.strongRecOn with
  | _ k ih =>
  intro a0 r1 r2 r3 r4 r5 w h
  cases k with
  | zero => exact absurd h (by simp [voussoirref27_Parse.f])
  | succ k =>
  simp only [voussoirref27_Parse.f] at h
  have H : (if (a0.size : Int) > 200 then (some ((⟨#[]⟩ : ByteArray), (⟨#[]⟩ : ByteArray), 0, (⟨#[]⟩ : ByteArray), 3)) else ((voussoirref27_first.f k a0 35).bind fun t124 => ((voussoirref27_first.f k a0 58).bind fun t125 => (if t124 ≥ 0 then (if t125 < 0 then (voussoirref27_Parse.j0 k a0 t124 t125 true) else (voussoirref27_Parse.j0 k a0 t124 t125 (decide (t124 < t125)))) else (voussoirref27_Parse.j0 k a0 t124 t125 false))))) = some (r1, r2, r3, r4, r5) := h
  clear h
  by_cases c2 : (a0.size : Int) > 200
  · rw [if_pos c2] at H
    have c2b0 : decide (200 < (a0.size : Int)) = true := decide_eq_true c2
    have c2b1 : decide (200 < a0.size) = true := decide_eq_true (by omega)
    clear c2
    simp only [Option.some.injEq, Prod.mk.injEq] at H
    obtain ⟨rfl, rfl, rfl, rfl, rfl⟩ := H
    go_enter Tryz.func26, Tryz.ntmps26
    go_wp2
    repeat (go_quiet (fail); try go_wp2)
    refine bodyPost_ret (results_list (rs := [.tmp 2, .tmp 3, .tmp 4, .tmp 5, .tmp 6]) rfl (by simp) (.tmp (.tmp (.tmp (.tmp (.tmp .nil)))))) rfl ?_
    exact ⟨by first | rfl | (simp; done) | (simp [*]; done), by repeat (first | exact Drawn0.refl _ | apply Drawn0.step)⟩
  · rw [if_neg c2] at H
    have c2b0 : decide (200 < (a0.size : Int)) = false := decide_eq_false c2
    have c2b1 : decide (200 < a0.size) = false := decide_eq_false (by omega)
    clear c2
    replace H := Option.bind_eq_some_iff.mp H
    obtain ⟨t124, A30, H⟩ := H
    replace H : ((voussoirref27_first.f k a0 58).bind fun t125 => (if t124 ≥ 0 then (if t125 < 0 then (voussoirref27_Parse.j0 k a0 t124 t125 true) else (voussoirref27_Parse.j0 k a0 t124 t125 (decide (t124 < t125)))) else (voussoirref27_Parse.j0 k a0 t124 t125 false))) = some (r1, r2, r3, r4, r5) := H
    have A3 := Aside0.mk A30
    clear A30
    replace H := Option.bind_eq_some_iff.mp H
    obtain ⟨t125, A40, H⟩ := H
    replace H : (if t124 ≥ 0 then (if t125 < 0 then (voussoirref27_Parse.j0 k a0 t124 t125 true) else (voussoirref27_Parse.j0 k a0 t124 t125 (decide (t124 < t125)))) else (voussoirref27_Parse.j0 k a0 t124 t125 false)) = some (r1, r2, r3, r4, r5) := H
    have A4 := Aside0.mk A40
    clear A40
    have HC5 := Aside0.mk H
    clear H
    go_enter Tryz.func26, Tryz.ntmps26
    go_upto_region 5 with (first | (go_at_call 48; (with_reducible refine (voussoirref27_first.calls k a0 35 t124 _ A3.out).mono ?_); rintro e w' ⟨rfl, ⟨nd, rfl⟩⟩; (try first | exact ⟨rfl, _, World.drewN_drewN _ _ _⟩ | exact ⟨rfl, _, Eq.trans (World.drewN_drewN _ _ _) (congrArg (World.drewN _) (Nat.add_assoc _ _ _))⟩)) | (go_at_call 48; (with_reducible refine (voussoirref27_first.calls k a0 58 t125 _ A4.out).mono ?_); rintro e w' ⟨rfl, ⟨nd, rfl⟩⟩; (try first | exact ⟨rfl, _, World.drewN_drewN _ _ _⟩ | exact ⟨rfl, _, Eq.trans (World.drewN_drewN _ _ _) (congrArg (World.drewN _) (Nat.add_assoc _ _ _))⟩)))
    repeat (go_quiet (first | (go_at_call 48; (with_reducible refine (voussoirref27_first.calls k a0 35 t124 _ A3.out).mono ?_); rintro e w' ⟨rfl, ⟨nd, rfl⟩⟩; (try first | exact ⟨rfl, _, World.drewN_drewN _ _ _⟩ | exact ⟨rfl, _, Eq.trans (World.drewN_drewN _ _ _) (congrArg (World.drewN _) (Nat.add_assoc _ _ _))⟩)) | (go_at_call 48; (with_reducible refine (voussoirref27_first.calls k a0 58 t125 _ A4.out).mono ?_); rintro e w' ⟨rfl, ⟨nd, rfl⟩⟩; (try first | exact ⟨rfl, _, World.drewN_drewN _ _ _⟩ | exact ⟨rfl, _, Eq.trans (World.drewN_drewN _ _ _) (congrArg (World.drewN _) (Nat.add_assoc _ _ _))⟩))); go_upto_region 5 with (first | (go_at_call 48; (with_reducible refine (voussoirref27_first.calls k a0 35 t124 _ A3.out).mono ?_); rintro e w' ⟨rfl, ⟨nd, rfl⟩⟩; (try first | exact ⟨rfl, _, World.drewN_drewN _ _ _⟩ | exact ⟨rfl, _, Eq.trans (World.drewN_drewN _ _ _) (congrArg (World.drewN _) (Nat.add_assoc _ _ _))⟩)) | (go_at_call 48; (with_reducible refine (voussoirref27_first.calls k a0 58 t125 _ A4.out).mono ?_); rintro e w' ⟨rfl, ⟨nd, rfl⟩⟩; (try first | exact ⟨rfl, _, World.drewN_drewN _ _ _⟩ | exact ⟨rfl, _, Eq.trans (World.drewN_drewN _ _ _) (congrArg (World.drewN _) (Nat.add_assoc _ _ _))⟩))))
    (try simp only [Act.put, List.setIfInBounds_toArray, List.set_cons_zero, List.set_cons_succ])
    go_cut [35] (fun v35 wc => ∃ (kq : Nat) (x35_4 : Bool), v35 = .bool x35_4 ∧ Aside0 (voussoirref27_Parse.j0 kq a0 t124 t125 x35_4 = some (r1, r2, r3, r4, r5)) ∧ Aside0 (kq ≤ k) ∧ Drawn0 w wc)
    case first =>
      have H := HC5.out
      clear HC5
      by_cases c6 : t124 ≥ 0
      · rw [if_pos c6] at H
        have c6b0 : decide (0 ≤ t124) = true := decide_eq_true c6
        clear c6
        (first | rw [c6b0] | (simp only [i64_w, i32_w]; rw [c6b0]) | skip)
        by_cases c7 : t125 < 0
        · rw [if_pos c7] at H
          have c7b0 : decide (t125 < 0) = true := decide_eq_true c7
          clear c7
          have H' := Aside0.mk H
          clear H
          go_wp2
          repeat (go_quiet (fail); try go_wp2)
          go_meet
          case rel => exact ⟨_, (true), (by first | rfl | (simp; done) | (simp [*]; done)), H', ⟨by first | omega | exact Nat.le_refl _⟩, by repeat (first | exact Drawn0.refl _ | apply Drawn0.step)⟩
        · rw [if_neg c7] at H
          have c7b0 : decide (t125 < 0) = false := decide_eq_false c7
          clear c7
          have H' := Aside0.mk H
          clear H
          go_wp2
          repeat (go_quiet (fail); try go_wp2)
          go_meet
          case rel => exact ⟨_, (decide (t124 < t125)), (by first | rfl | (simp; done) | (simp [*]; done)), H', ⟨by first | omega | exact Nat.le_refl _⟩, by repeat (first | exact Drawn0.refl _ | apply Drawn0.step)⟩
      · rw [if_neg c6] at H
        have c6b0 : decide (0 ≤ t124) = false := decide_eq_false c6
        clear c6
        (first | rw [c6b0] | (simp only [i64_w, i32_w]; rw [c6b0]) | skip)
        have H' := Aside0.mk H
        clear H
        go_wp2
        repeat (go_quiet (fail); try go_wp2)
        go_meet
        case rel => exact ⟨_, (false), (by first | rfl | (simp; done) | (simp [*]; done)), H', ⟨by first | omega | exact Nat.le_refl _⟩, by repeat (first | exact Drawn0.refl _ | apply Drawn0.step)⟩
    case rest =>
      clear HC5
      try clear c2
      try clear c2b0
      try clear c2b1
      try clear p2
      try clear c6
      try clear c6b0
      try clear c7
      try clear c7b0
      obtain ⟨kq, x35_4, rfl, HA, HJ4, ⟨mc4, rfl⟩⟩ := hcut
      cases kq with
      | zero => exact absurd HA.out (by simp [voussoirref27_Parse.j0])
      | succ kj4 =>
        have H := HA.out
        clear HA
        simp only [voussoirref27_Parse.j0] at H
        by_cases c8 : x35_4 = true
        · subst c8
          have H1 : ((voussoirref27_first.f kj4 a0 40).bind fun t126 => (if t126 < t124 then (voussoirref27_Parse.j1 kj4 a0 t124 t126 true) else (if 0 ≤ (wrap64 ((a0.size : Int) - 1)) then (if (wrap64 ((a0.size : Int) - 1)) < (a0.size : Int) then (if (bt a0 (wrap64 ((a0.size : Int) - 1))) = 41 then (if 0 ≤ t124 then (if t124 ≤ (a0.size : Int) then ((voussoirref27_Id.f kj4 (a0.extract 0 (t124 : Int).toNat)).bind fun t127 => (if t127 = 0 then (voussoirref27_Parse.j1 kj4 a0 t124 t126 true) else (if 0 ≤ (wrap64 (t124 + 1)) then (if (wrap64 (t124 + 1)) ≤ t126 then (if t126 ≤ (a0.size : Int) then ((voussoirref27_digits.f kj4 (a0.extract ((wrap64 (t124 + 1)) : Int).toNat (t126 : Int).toNat) 2).bind fun t128 => (voussoirref27_Parse.j1 kj4 a0 t124 t126 (decide (t128 < 1)))) else (none)) else (none)) else (none)))) else (none)) else (none)) else (voussoirref27_Parse.j1 kj4 a0 t124 t126 true)) else (none)) else (none)))) = some (r1, r2, r3, r4, r5) := by rw [if_pos rfl] at H; exact H
          clear H
          have H := H1
          clear H1
          replace H := Option.bind_eq_some_iff.mp H
          obtain ⟨t126, A90, H⟩ := H
          replace H : (if t126 < t124 then (voussoirref27_Parse.j1 kj4 a0 t124 t126 true) else (if 0 ≤ (wrap64 ((a0.size : Int) - 1)) then (if (wrap64 ((a0.size : Int) - 1)) < (a0.size : Int) then (if (bt a0 (wrap64 ((a0.size : Int) - 1))) = 41 then (if 0 ≤ t124 then (if t124 ≤ (a0.size : Int) then ((voussoirref27_Id.f kj4 (a0.extract 0 (t124 : Int).toNat)).bind fun t127 => (if t127 = 0 then (voussoirref27_Parse.j1 kj4 a0 t124 t126 true) else (if 0 ≤ (wrap64 (t124 + 1)) then (if (wrap64 (t124 + 1)) ≤ t126 then (if t126 ≤ (a0.size : Int) then ((voussoirref27_digits.f kj4 (a0.extract ((wrap64 (t124 + 1)) : Int).toNat (t126 : Int).toNat) 2).bind fun t128 => (voussoirref27_Parse.j1 kj4 a0 t124 t126 (decide (t128 < 1)))) else (none)) else (none)) else (none)))) else (none)) else (none)) else (voussoirref27_Parse.j1 kj4 a0 t124 t126 true)) else (none)) else (none))) = some (r1, r2, r3, r4, r5) := H
          have A9 := Aside0.mk A90
          clear A90
          have HC10 := Aside0.mk H
          clear H
          go_upto_region 7 with (first | (go_at_call 48; (with_reducible refine (voussoirref27_first.calls kj4 a0 40 t126 _ A9.out).mono ?_); rintro e w' ⟨rfl, ⟨nd, rfl⟩⟩; (try first | exact ⟨rfl, _, World.drewN_drewN _ _ _⟩ | exact ⟨rfl, _, Eq.trans (World.drewN_drewN _ _ _) (congrArg (World.drewN _) (Nat.add_assoc _ _ _))⟩)))
          repeat (go_quiet (first | (go_at_call 48; (with_reducible refine (voussoirref27_first.calls kj4 a0 40 t126 _ A9.out).mono ?_); rintro e w' ⟨rfl, ⟨nd, rfl⟩⟩; (try first | exact ⟨rfl, _, World.drewN_drewN _ _ _⟩ | exact ⟨rfl, _, Eq.trans (World.drewN_drewN _ _ _) (congrArg (World.drewN _) (Nat.add_assoc _ _ _))⟩))); go_upto_region 7 with (first | (go_at_call 48; (with_reducible refine (voussoirref27_first.calls kj4 a0 40 t126 _ A9.out).mono ?_); rintro e w' ⟨rfl, ⟨nd, rfl⟩⟩; (try first | exact ⟨rfl, _, World.drewN_drewN _ _ _⟩ | exact ⟨rfl, _, Eq.trans (World.drewN_drewN _ _ _) (congrArg (World.drewN _) (Nat.add_assoc _ _ _))⟩))))
          (try simp only [Act.put, List.setIfInBounds_toArray, List.set_cons_zero, List.set_cons_succ])
          go_cut [64] (fun v64 wc => ∃ (kq : Nat) (x64_9 : Bool), v64 = .bool x64_9 ∧ Aside0 (voussoirref27_Parse.j1 kq a0 t124 t126 x64_9 = some (r1, r2, r3, r4, r5)) ∧ Aside0 (kq ≤ kj4) ∧ Drawn0 w wc)
          case first =>
            have H := HC10.out
            clear HC10
            by_cases c11 : t126 < t124
            · rw [if_pos c11] at H
              have c11b0 : decide (t126 < t124) = true := decide_eq_true c11
              clear c11
              (first | rw [c11b0] | (simp only [i64_w, i32_w]; rw [c11b0]) | skip)
              have H' := Aside0.mk H
              clear H
              go_wp2
              repeat (go_quiet (fail); try go_wp2)
              go_meet
              case rel => exact ⟨_, (true), (by first | rfl | (simp; done) | (simp [*]; done)), H', ⟨by have := HJ4.out; first | omega | exact Nat.le_refl _⟩, by repeat (first | exact Drawn0.refl _ | apply Drawn0.step)⟩
            · rw [if_neg c11] at H
              have c11b0 : decide (t126 < t124) = false := decide_eq_false c11
              clear c11
              (first | rw [c11b0] | (simp only [i64_w, i32_w]; rw [c11b0]) | skip)
              obtain ⟨ji12, hji12⟩ : ∃ j_ : Int, (wrap64 ((a0.size : Int) - 1)) = j_ := ⟨_, rfl⟩
              replace H : (if 0 ≤ (ji12) then (if (ji12) < (a0.size : Int) then (if (bt a0 (ji12)) = 41 then (if 0 ≤ t124 then (if t124 ≤ (a0.size : Int) then ((voussoirref27_Id.f kj4 (a0.extract 0 (t124 : Int).toNat)).bind fun t127 => (if t127 = 0 then (voussoirref27_Parse.j1 kj4 a0 t124 t126 true) else (if 0 ≤ (wrap64 (t124 + 1)) then (if (wrap64 (t124 + 1)) ≤ t126 then (if t126 ≤ (a0.size : Int) then ((voussoirref27_digits.f kj4 (a0.extract ((wrap64 (t124 + 1)) : Int).toNat (t126 : Int).toNat) 2).bind fun t128 => (voussoirref27_Parse.j1 kj4 a0 t124 t126 (decide (t128 < 1)))) else (none)) else (none)) else (none)))) else (none)) else (none)) else (voussoirref27_Parse.j1 kj4 a0 t124 t126 true)) else (none)) else (none)) = some (r1, r2, r3, r4, r5) := by first | (rw [hji12] at H; exact H) | (simp only [hji12] at H ⊢; exact H)
              have hji12w : (IntKind.i64.wrap ((a0.size : Int) - 1)) = ji12 := (i64_w _).trans hji12
              by_cases c13 : 0 ≤ (ji12)
              · rw [if_pos c13] at H
                have c13b0 : decide (0 ≤ (ji12)) = true := decide_eq_true c13
                clear c13
                by_cases c14 : (ji12) < (a0.size : Int)
                · rw [if_pos c14] at H
                  have c14b0 : decide ((ji12) < (a0.size : Int)) = true := decide_eq_true c14
                  clear c14
                  by_cases c16 : (bt a0 (ji12)) = 41
                  · rw [if_pos c16] at H
                    have c16b0 : ((bt a0 (ji12)) == 41) = true := beq_iff_eq.mpr c16
                    have c16b1 : ((bt a0 (ji12)) != 41) = false := bne_eq_false_iff_eq.mpr c16
                    clear c16
                    by_cases c17 : 0 ≤ t124
                    · rw [if_pos c17] at H
                      have c17b0 := eq_true c17
                      have c17b1 : decide (0 ≤ t124) = true := decide_eq_true c17
                      clear c17
                      by_cases c18 : t124 ≤ (a0.size : Int)
                      · rw [if_pos c18] at H
                        have c18b0 := eq_true c18
                        have c18b1 : decide (t124 ≤ (a0.size : Int)) = true := decide_eq_true c18
                        clear c18
                        replace H := Option.bind_eq_some_iff.mp H
                        obtain ⟨t127, A190, H⟩ := H
                        replace H : (if t127 = 0 then (voussoirref27_Parse.j1 kj4 a0 t124 t126 true) else (if 0 ≤ (wrap64 (t124 + 1)) then (if (wrap64 (t124 + 1)) ≤ t126 then (if t126 ≤ (a0.size : Int) then ((voussoirref27_digits.f kj4 (a0.extract ((wrap64 (t124 + 1)) : Int).toNat (t126 : Int).toNat) 2).bind fun t128 => (voussoirref27_Parse.j1 kj4 a0 t124 t126 (decide (t128 < 1)))) else (none)) else (none)) else (none))) = some (r1, r2, r3, r4, r5) := H
                        have A19 := Aside0.mk A190
                        clear A190
                        by_cases c20 : t127 = 0
                        · rw [if_pos c20] at H
                          have c20b0 : (t127 == 0) = true := beq_iff_eq.mpr c20
                          have c20b1 : (t127 != 0) = false := bne_eq_false_iff_eq.mpr c20
                          clear c20
                          have H' := Aside0.mk H
                          clear H
                          have p15 : 0 ≤ ((ji12) : Int) := of_decide_eq_true (by first | (with_reducible assumption) | assumption)
                          have q15 : (ji12) < (a0.size : Int) := of_decide_eq_true (by first | (with_reducible assumption) | assumption)
                          have hx15 := bt_at a0 (ji12)
                          replace p15 := eq_true p15
                          replace q15 := eq_true q15
                          go_wp2_with (first | (go_at_call 49; (with_reducible refine (voussoirref27_Id.calls kj4 (a0.extract 0 (t124 : Int).toNat) t127 _ A19.out).mono ?_); rintro e w' ⟨rfl, ⟨nd, rfl⟩⟩; (try first | exact ⟨rfl, _, World.drewN_drewN _ _ _⟩ | exact ⟨rfl, _, Eq.trans (World.drewN_drewN _ _ _) (congrArg (World.drewN _) (Nat.add_assoc _ _ _))⟩)))
                          repeat (go_quiet (first | (go_at_call 49; (with_reducible refine (voussoirref27_Id.calls kj4 (a0.extract 0 (t124 : Int).toNat) t127 _ A19.out).mono ?_); rintro e w' ⟨rfl, ⟨nd, rfl⟩⟩; (try first | exact ⟨rfl, _, World.drewN_drewN _ _ _⟩ | exact ⟨rfl, _, Eq.trans (World.drewN_drewN _ _ _) (congrArg (World.drewN _) (Nat.add_assoc _ _ _))⟩))); try go_wp2_with (first | (go_at_call 49; (with_reducible refine (voussoirref27_Id.calls kj4 (a0.extract 0 (t124 : Int).toNat) t127 _ A19.out).mono ?_); rintro e w' ⟨rfl, ⟨nd, rfl⟩⟩; (try first | exact ⟨rfl, _, World.drewN_drewN _ _ _⟩ | exact ⟨rfl, _, Eq.trans (World.drewN_drewN _ _ _) (congrArg (World.drewN _) (Nat.add_assoc _ _ _))⟩))))
                          go_meet
                          case rel => exact ⟨_, (true), (by first | rfl | (simp; done) | (simp [*]; done)), H', ⟨by have := HJ4.out; first | omega | exact Nat.le_refl _⟩, by repeat (first | exact Drawn0.refl _ | apply Drawn0.step)⟩
                        · rw [if_neg c20] at H
                          have c20b0 : (t127 == 0) = false := beq_eq_false_iff_ne.mpr c20
                          have c20b1 : (t127 != 0) = true := bne_iff_ne.mpr c20
                          obtain ⟨ji21, hji21⟩ : ∃ j_ : Int, (wrap64 (t124 + 1)) = j_ := ⟨_, rfl⟩
                          replace H : (if 0 ≤ (ji21) then (if (ji21) ≤ t126 then (if t126 ≤ (a0.size : Int) then ((voussoirref27_digits.f kj4 (a0.extract ((ji21) : Int).toNat (t126 : Int).toNat) 2).bind fun t128 => (voussoirref27_Parse.j1 kj4 a0 t124 t126 (decide (t128 < 1)))) else (none)) else (none)) else (none)) = some (r1, r2, r3, r4, r5) := by first | (rw [hji21] at H; exact H) | (simp only [hji21] at H ⊢; exact H)
                          (try rw [hji21] at A19)
                          have hji21w : (IntKind.i64.wrap (t124 + 1)) = ji21 := (i64_w _).trans hji21
                          by_cases c22 : 0 ≤ (ji21)
                          · rw [if_pos c22] at H
                            have c22b0 := eq_true c22
                            have c22b1 : decide (0 ≤ (ji21)) = true := decide_eq_true c22
                            clear c22
                            by_cases c23 : (ji21) ≤ t126
                            · rw [if_pos c23] at H
                              have c23b0 := eq_true c23
                              have c23b1 : decide ((ji21) ≤ t126) = true := decide_eq_true c23
                              clear c23
                              by_cases c24 : t126 ≤ (a0.size : Int)
                              · rw [if_pos c24] at H
                                have c24b0 := eq_true c24
                                have c24b1 : decide (t126 ≤ (a0.size : Int)) = true := decide_eq_true c24
                                clear c24
                                replace H := Option.bind_eq_some_iff.mp H
                                obtain ⟨t128, A250, H⟩ := H
                                replace H : (voussoirref27_Parse.j1 kj4 a0 t124 t126 (decide (t128 < 1))) = some (r1, r2, r3, r4, r5) := H
                                have A25 := Aside0.mk A250
                                clear A250
                                have H' := Aside0.mk H
                                clear H
                                have p15 : 0 ≤ ((ji12) : Int) := of_decide_eq_true (by first | (with_reducible assumption) | assumption)
                                have q15 : (ji12) < (a0.size : Int) := of_decide_eq_true (by first | (with_reducible assumption) | assumption)
                                have hx15 := bt_at a0 (ji12)
                                replace p15 := eq_true p15
                                replace q15 := eq_true q15
                                go_wp2_with (first | (go_at_call 49; (with_reducible refine (voussoirref27_Id.calls kj4 (a0.extract 0 (t124 : Int).toNat) t127 _ A19.out).mono ?_); rintro e w' ⟨rfl, ⟨nd, rfl⟩⟩; (try first | exact ⟨rfl, _, World.drewN_drewN _ _ _⟩ | exact ⟨rfl, _, Eq.trans (World.drewN_drewN _ _ _) (congrArg (World.drewN _) (Nat.add_assoc _ _ _))⟩)) | (go_at_call 50; (with_reducible refine (voussoirref27_digits.calls kj4 (a0.extract ((ji21) : Int).toNat (t126 : Int).toNat) 2 t128 _ A25.out).mono ?_); rintro e w' ⟨rfl, ⟨nd, rfl⟩⟩; (try first | exact ⟨rfl, _, World.drewN_drewN _ _ _⟩ | exact ⟨rfl, _, Eq.trans (World.drewN_drewN _ _ _) (congrArg (World.drewN _) (Nat.add_assoc _ _ _))⟩)))
                                repeat (go_quiet (first | (go_at_call 49; (with_reducible refine (voussoirref27_Id.calls kj4 (a0.extract 0 (t124 : Int).toNat) t127 _ A19.out).mono ?_); rintro e w' ⟨rfl, ⟨nd, rfl⟩⟩; (try first | exact ⟨rfl, _, World.drewN_drewN _ _ _⟩ | exact ⟨rfl, _, Eq.trans (World.drewN_drewN _ _ _) (congrArg (World.drewN _) (Nat.add_assoc _ _ _))⟩)) | (go_at_call 50; (with_reducible refine (voussoirref27_digits.calls kj4 (a0.extract ((ji21) : Int).toNat (t126 : Int).toNat) 2 t128 _ A25.out).mono ?_); rintro e w' ⟨rfl, ⟨nd, rfl⟩⟩; (try first | exact ⟨rfl, _, World.drewN_drewN _ _ _⟩ | exact ⟨rfl, _, Eq.trans (World.drewN_drewN _ _ _) (congrArg (World.drewN _) (Nat.add_assoc _ _ _))⟩))); try go_wp2_with (first | (go_at_call 49; (with_reducible refine (voussoirref27_Id.calls kj4 (a0.extract 0 (t124 : Int).toNat) t127 _ A19.out).mono ?_); rintro e w' ⟨rfl, ⟨nd, rfl⟩⟩; (try first | exact ⟨rfl, _, World.drewN_drewN _ _ _⟩ | exact ⟨rfl, _, Eq.trans (World.drewN_drewN _ _ _) (congrArg (World.drewN _) (Nat.add_assoc _ _ _))⟩)) | (go_at_call 50; (with_reducible refine (voussoirref27_digits.calls kj4 (a0.extract ((ji21) : Int).toNat (t126 : Int).toNat) 2 t128 _ A25.out).mono ?_); rintro e w' ⟨rfl, ⟨nd, rfl⟩⟩; (try first | exact ⟨rfl, _, World.drewN_drewN _ _ _⟩ | exact ⟨rfl, _, Eq.trans (World.drewN_drewN _ _ _) (congrArg (World.drewN _) (Nat.add_assoc _ _ _))⟩))))
                                go_meet
                                case rel => exact ⟨_, (decide (t128 < 1)), (by first | rfl | (simp; done) | (simp [*]; done)), H', ⟨by have := HJ4.out; first | omega | exact Nat.le_refl _⟩, by repeat (first | exact Drawn0.refl _ | apply Drawn0.step)⟩
                              · rw [if_neg c24] at H
                                exact absurd H (by simp)
                            · rw [if_neg c23] at H
                              exact absurd H (by simp)
                          · rw [if_neg c22] at H
                            exact absurd H (by simp)
                      · rw [if_neg c18] at H
                        exact absurd H (by simp)
                    · rw [if_neg c17] at H
                      exact absurd H (by simp)
                  · rw [if_neg c16] at H
                    have c16b0 : ((bt a0 (ji12)) == 41) = false := beq_eq_false_iff_ne.mpr c16
                    have c16b1 : ((bt a0 (ji12)) != 41) = true := bne_iff_ne.mpr c16
                    have H' := Aside0.mk H
                    clear H
                    have p15 : 0 ≤ ((ji12) : Int) := of_decide_eq_true (by first | (with_reducible assumption) | assumption)
                    have q15 : (ji12) < (a0.size : Int) := of_decide_eq_true (by first | (with_reducible assumption) | assumption)
                    have hx15 := bt_at a0 (ji12)
                    replace p15 := eq_true p15
                    replace q15 := eq_true q15
                    go_wp2
                    repeat (go_quiet (fail); try go_wp2)
                    go_meet
                    case rel => exact ⟨_, (true), (by first | rfl | (simp; done) | (simp [*]; done)), H', ⟨by have := HJ4.out; first | omega | exact Nat.le_refl _⟩, by repeat (first | exact Drawn0.refl _ | apply Drawn0.step)⟩
                · rw [if_neg c14] at H
                  exact absurd H (by simp)
              · rw [if_neg c13] at H
                exact absurd H (by simp)
          case rest =>
            clear HC10
            try clear c1
            try clear p1
            try clear q1
            try clear hx1
            try clear c2
            try clear c2b0
            try clear c2b1
            try clear p2
            try clear c4
            try clear c6
            try clear c6b0
            try clear p6
            try clear c7
            try clear c7b0
            try clear c8
            try clear c11
            try clear c11b0
            try clear c13
            try clear c13b0
            try clear c14
            try clear c14b0
            try clear p15
            try clear q15
            try clear hx15
            try clear c16
            try clear c16b0
            try clear c16b1
            try clear c17
            try clear c17b0
            try clear c17b1
            try clear c18
            try clear c18b0
            try clear c18b1
            try clear c20
            try clear c20b0
            try clear c20b1
            try clear c22
            try clear c22b0
            try clear c22b1
            try clear c23
            try clear c23b0
            try clear c23b1
            try clear c24
            try clear c24b0
            try clear c24b1
            try clear p15
            try clear p2
            try clear q15
            obtain ⟨kq, x64_9, rfl, HA, HJ9, ⟨mc9, rfl⟩⟩ := hcut
            cases kq with
            | zero => exact absurd HA.out (by simp [voussoirref27_Parse.j1])
            | succ kj9 =>
              have H := HA.out
              clear HA
              simp only [voussoirref27_Parse.j1] at H
              by_cases c26 : x64_9 = true
              · subst c26
                have H1 : (some ((⟨#[]⟩ : ByteArray), (⟨#[]⟩ : ByteArray), 0, (⟨#[]⟩ : ByteArray), 3)) = some (r1, r2, r3, r4, r5) := by rw [if_pos rfl] at H; exact H
                clear H
                have H := H1
                clear H1
                simp only [Option.some.injEq, Prod.mk.injEq] at H
                obtain ⟨rfl, rfl, rfl, rfl, rfl⟩ := H
                go_wp2
                repeat (go_quiet (fail); try go_wp2)
                refine bodyPost_ret (results_list (rs := [.tmp 2, .tmp 3, .tmp 4, .tmp 5, .tmp 6]) rfl (by simp) (.tmp (.tmp (.tmp (.tmp (.tmp .nil)))))) rfl ?_
                try (have hsA3_A9 : t124 = t126 := Option.some.inj (A3.out.symm.trans A9.out); subst hsA3_A9)
                try (have hsA4_A9 : t125 = t126 := Option.some.inj (A4.out.symm.trans A9.out); subst hsA4_A9)
                try (have hsA3_A4 : t124 = t125 := Option.some.inj (A3.out.symm.trans A4.out); subst hsA3_A4)
                exact ⟨by first | rfl | (simp; done) | (simp [*]; done), by repeat (first | exact Drawn0.refl _ | apply Drawn0.step)⟩
              · replace c26 := Bool.eq_false_iff.mpr c26
                subst c26
                have H1 : (if 0 ≤ (wrap64 (t126 + 1)) then (if (wrap64 (t126 + 1)) ≤ (wrap64 ((a0.size : Int) - 1)) then (if (wrap64 ((a0.size : Int) - 1)) ≤ (a0.size : Int) then ((voussoirref27_Parse.f kj9 (a0.extract ((wrap64 (t126 + 1)) : Int).toNat ((wrap64 ((a0.size : Int) - 1)) : Int).toNat)).bind fun bt129 => (if bt129.2.2.2.2 = 0 then (if 0 ≤ t124 then (if t124 ≤ (a0.size : Int) then (if 0 ≤ (wrap64 (t124 + 1)) then (if (wrap64 (t124 + 1)) ≤ t126 then (if t126 ≤ (a0.size : Int) then ((voussoirref27_digits.f kj9 (a0.extract ((wrap64 (t124 + 1)) : Int).toNat (t126 : Int).toNat) 2).bind fun t134 => (some (a0.extract 0 (t124 : Int).toNat, (⟨#[]⟩ : ByteArray), t134, a0.extract ((wrap64 (t126 + 1)) : Int).toNat ((wrap64 ((a0.size : Int) - 1)) : Int).toNat, 0))) else (none)) else (none)) else (none)) else (none)) else (none)) else (some ((⟨#[]⟩ : ByteArray), (⟨#[]⟩ : ByteArray), 0, (⟨#[]⟩ : ByteArray), 3)))) else (none)) else (none)) else (none)) = some (r1, r2, r3, r4, r5) := by rw [if_neg (show ¬ (false = true) by decide)] at H; exact H
                clear H
                have H := H1
                clear H1
                obtain ⟨ji27, hji27⟩ : ∃ j_ : Int, (wrap64 (t126 + 1)) = j_ := ⟨_, rfl⟩
                replace H : (if 0 ≤ (ji27) then (if (ji27) ≤ (wrap64 ((a0.size : Int) - 1)) then (if (wrap64 ((a0.size : Int) - 1)) ≤ (a0.size : Int) then ((voussoirref27_Parse.f kj9 (a0.extract ((ji27) : Int).toNat ((wrap64 ((a0.size : Int) - 1)) : Int).toNat)).bind fun bt129 => (if bt129.2.2.2.2 = 0 then (if 0 ≤ t124 then (if t124 ≤ (a0.size : Int) then (if 0 ≤ (wrap64 (t124 + 1)) then (if (wrap64 (t124 + 1)) ≤ t126 then (if t126 ≤ (a0.size : Int) then ((voussoirref27_digits.f kj9 (a0.extract ((wrap64 (t124 + 1)) : Int).toNat (t126 : Int).toNat) 2).bind fun t134 => (some (a0.extract 0 (t124 : Int).toNat, (⟨#[]⟩ : ByteArray), t134, a0.extract ((ji27) : Int).toNat ((wrap64 ((a0.size : Int) - 1)) : Int).toNat, 0))) else (none)) else (none)) else (none)) else (none)) else (none)) else (some ((⟨#[]⟩ : ByteArray), (⟨#[]⟩ : ByteArray), 0, (⟨#[]⟩ : ByteArray), 3)))) else (none)) else (none)) else (none)) = some (r1, r2, r3, r4, r5) := by first | (rw [hji27] at H; exact H) | (simp only [hji27] at H ⊢; exact H)
                have hji27w : (IntKind.i64.wrap (t126 + 1)) = ji27 := (i64_w _).trans hji27
                by_cases c28 : 0 ≤ (ji27)
                · rw [if_pos c28] at H
                  have c28b0 := eq_true c28
                  have c28b1 : decide (0 ≤ (ji27)) = true := decide_eq_true c28
                  clear c28
                  by_cases c29 : (ji27) ≤ (wrap64 ((a0.size : Int) - 1))
                  · rw [if_pos c29] at H
                    have c29b0 := eq_true c29
                    have c29b1 : decide ((ji27) ≤ (wrap64 ((a0.size : Int) - 1))) = true := decide_eq_true c29
                    clear c29
                    by_cases c30 : (wrap64 ((a0.size : Int) - 1)) ≤ (a0.size : Int)
                    · rw [if_pos c30] at H
                      have c30b0 := eq_true c30
                      have c30b1 : decide ((wrap64 ((a0.size : Int) - 1)) ≤ (a0.size : Int)) = true := decide_eq_true c30
                      clear c30
                      replace H := Option.bind_eq_some_iff.mp H
                      obtain ⟨⟨t129, t130, t131, t132, t133⟩, A310, H⟩ := H
                      replace H : (if t133 = 0 then (if 0 ≤ t124 then (if t124 ≤ (a0.size : Int) then (if 0 ≤ (wrap64 (t124 + 1)) then (if (wrap64 (t124 + 1)) ≤ t126 then (if t126 ≤ (a0.size : Int) then ((voussoirref27_digits.f kj9 (a0.extract ((wrap64 (t124 + 1)) : Int).toNat (t126 : Int).toNat) 2).bind fun t134 => (some (a0.extract 0 (t124 : Int).toNat, (⟨#[]⟩ : ByteArray), t134, a0.extract ((ji27) : Int).toNat ((wrap64 ((a0.size : Int) - 1)) : Int).toNat, 0))) else (none)) else (none)) else (none)) else (none)) else (none)) else (some ((⟨#[]⟩ : ByteArray), (⟨#[]⟩ : ByteArray), 0, (⟨#[]⟩ : ByteArray), 3))) = some (r1, r2, r3, r4, r5) := H
                      have A31 := Aside0.mk A310
                      clear A310
                      by_cases c32 : t133 = 0
                      · rw [if_pos c32] at H
                        have c32b0 : (t133 == 0) = true := beq_iff_eq.mpr c32
                        have c32b1 : (t133 != 0) = false := bne_eq_false_iff_eq.mpr c32
                        clear c32
                        by_cases c33 : 0 ≤ t124
                        · rw [if_pos c33] at H
                          have c33b0 := eq_true c33
                          have c33b1 : decide (0 ≤ t124) = true := decide_eq_true c33
                          clear c33
                          by_cases c34 : t124 ≤ (a0.size : Int)
                          · rw [if_pos c34] at H
                            have c34b0 := eq_true c34
                            have c34b1 : decide (t124 ≤ (a0.size : Int)) = true := decide_eq_true c34
                            clear c34
                            obtain ⟨ji35, hji35⟩ : ∃ j_ : Int, (wrap64 (t124 + 1)) = j_ := ⟨_, rfl⟩
                            replace H : (if 0 ≤ (ji35) then (if (ji35) ≤ t126 then (if t126 ≤ (a0.size : Int) then ((voussoirref27_digits.f kj9 (a0.extract ((ji35) : Int).toNat (t126 : Int).toNat) 2).bind fun t134 => (some (a0.extract 0 (t124 : Int).toNat, (⟨#[]⟩ : ByteArray), t134, a0.extract ((ji27) : Int).toNat ((wrap64 ((a0.size : Int) - 1)) : Int).toNat, 0))) else (none)) else (none)) else (none)) = some (r1, r2, r3, r4, r5) := by first | (rw [hji35] at H; exact H) | (simp only [hji35] at H ⊢; exact H)
                            (try rw [hji35] at A31)
                            have hji35w : (IntKind.i64.wrap (t124 + 1)) = ji35 := (i64_w _).trans hji35
                            by_cases c36 : 0 ≤ (ji35)
                            · rw [if_pos c36] at H
                              have c36b0 := eq_true c36
                              have c36b1 : decide (0 ≤ (ji35)) = true := decide_eq_true c36
                              clear c36
                              by_cases c37 : (ji35) ≤ t126
                              · rw [if_pos c37] at H
                                have c37b0 := eq_true c37
                                have c37b1 : decide ((ji35) ≤ t126) = true := decide_eq_true c37
                                clear c37
                                by_cases c38 : t126 ≤ (a0.size : Int)
                                · rw [if_pos c38] at H
                                  have c38b0 := eq_true c38
                                  have c38b1 : decide (t126 ≤ (a0.size : Int)) = true := decide_eq_true c38
                                  clear c38
                                  replace H := Option.bind_eq_some_iff.mp H
                                  obtain ⟨t134, A390, H⟩ := H
                                  replace H : (some (a0.extract 0 (t124 : Int).toNat, (⟨#[]⟩ : ByteArray), t134, a0.extract ((ji27) : Int).toNat ((wrap64 ((a0.size : Int) - 1)) : Int).toNat, 0)) = some (r1, r2, r3, r4, r5) := H
                                  have A39 := Aside0.mk A390
                                  clear A390
                                  simp only [Option.some.injEq, Prod.mk.injEq] at H
                                  obtain ⟨rfl, rfl, rfl, rfl, rfl⟩ := H
                                  go_wp2_with (first | (go_at_call 26; (with_reducible refine (ih kj9 (by have := HJ4.out; have := HJ9.out; omega) (a0.extract ((ji27) : Int).toNat ((wrap64 ((a0.size : Int) - 1)) : Int).toNat) t129 t130 t131 t132 t133 _ A31.out).mono ?_); rintro e w' ⟨rfl, ⟨nd, rfl⟩⟩; (try first | exact ⟨rfl, _, World.drewN_drewN _ _ _⟩ | exact ⟨rfl, _, Eq.trans (World.drewN_drewN _ _ _) (congrArg (World.drewN _) (Nat.add_assoc _ _ _))⟩)) | (go_at_call 50; (with_reducible refine (voussoirref27_digits.calls kj9 (a0.extract ((ji35) : Int).toNat (t126 : Int).toNat) 2 t134 _ A39.out).mono ?_); rintro e w' ⟨rfl, ⟨nd, rfl⟩⟩; (try first | exact ⟨rfl, _, World.drewN_drewN _ _ _⟩ | exact ⟨rfl, _, Eq.trans (World.drewN_drewN _ _ _) (congrArg (World.drewN _) (Nat.add_assoc _ _ _))⟩)))
                                  repeat (go_quiet (first | (go_at_call 26; (with_reducible refine (ih kj9 (by have := HJ4.out; have := HJ9.out; omega) (a0.extract ((ji27) : Int).toNat ((wrap64 ((a0.size : Int) - 1)) : Int).toNat) t129 t130 t131 t132 t133 _ A31.out).mono ?_); rintro e w' ⟨rfl, ⟨nd, rfl⟩⟩; (try first | exact ⟨rfl, _, World.drewN_drewN _ _ _⟩ | exact ⟨rfl, _, Eq.trans (World.drewN_drewN _ _ _) (congrArg (World.drewN _) (Nat.add_assoc _ _ _))⟩)) | (go_at_call 50; (with_reducible refine (voussoirref27_digits.calls kj9 (a0.extract ((ji35) : Int).toNat (t126 : Int).toNat) 2 t134 _ A39.out).mono ?_); rintro e w' ⟨rfl, ⟨nd, rfl⟩⟩; (try first | exact ⟨rfl, _, World.drewN_drewN _ _ _⟩ | exact ⟨rfl, _, Eq.trans (World.drewN_drewN _ _ _) (congrArg (World.drewN _) (Nat.add_assoc _ _ _))⟩))); try go_wp2_with (first | (go_at_call 26; (with_reducible refine (ih kj9 (by have := HJ4.out; have := HJ9.out; omega) (a0.extract ((ji27) : Int).toNat ((wrap64 ((a0.size : Int) - 1)) : Int).toNat) t129 t130 t131 t132 t133 _ A31.out).mono ?_); rintro e w' ⟨rfl, ⟨nd, rfl⟩⟩; (try first | exact ⟨rfl, _, World.drewN_drewN _ _ _⟩ | exact ⟨rfl, _, Eq.trans (World.drewN_drewN _ _ _) (congrArg (World.drewN _) (Nat.add_assoc _ _ _))⟩)) | (go_at_call 50; (with_reducible refine (voussoirref27_digits.calls kj9 (a0.extract ((ji35) : Int).toNat (t126 : Int).toNat) 2 t134 _ A39.out).mono ?_); rintro e w' ⟨rfl, ⟨nd, rfl⟩⟩; (try first | exact ⟨rfl, _, World.drewN_drewN _ _ _⟩ | exact ⟨rfl, _, Eq.trans (World.drewN_drewN _ _ _) (congrArg (World.drewN _) (Nat.add_assoc _ _ _))⟩))))
                                  refine bodyPost_ret (results_list (rs := [.tmp 2, .tmp 3, .tmp 4, .tmp 5, .tmp 6]) rfl (by simp) (.tmp (.tmp (.tmp (.tmp (.tmp .nil)))))) rfl ?_
                                  try (have hsA3_A9 : t124 = t126 := Option.some.inj (A3.out.symm.trans A9.out); subst hsA3_A9)
                                  try (have hsA4_A9 : t125 = t126 := Option.some.inj (A4.out.symm.trans A9.out); subst hsA4_A9)
                                  try (have hsA3_A4 : t124 = t125 := Option.some.inj (A3.out.symm.trans A4.out); subst hsA3_A4)
                                  exact ⟨by first | rfl | (simp; done) | (simp only [← hji27, ← hji35] <;> (first | rfl | simp)) | (simp [*]; done), by repeat (first | exact Drawn0.refl _ | apply Drawn0.step)⟩
                                · rw [if_neg c38] at H
                                  exact absurd H (by simp)
                              · rw [if_neg c37] at H
                                exact absurd H (by simp)
                            · rw [if_neg c36] at H
                              exact absurd H (by simp)
                          · rw [if_neg c34] at H
                            exact absurd H (by simp)
                        · rw [if_neg c33] at H
                          exact absurd H (by simp)
                      · rw [if_neg c32] at H
                        have c32b0 : (t133 == 0) = false := beq_eq_false_iff_ne.mpr c32
                        have c32b1 : (t133 != 0) = true := bne_iff_ne.mpr c32
                        simp only [Option.some.injEq, Prod.mk.injEq] at H
                        obtain ⟨rfl, rfl, rfl, rfl, rfl⟩ := H
                        go_wp2_with (first | (go_at_call 26; (with_reducible refine (ih kj9 (by have := HJ4.out; have := HJ9.out; omega) (a0.extract ((ji27) : Int).toNat ((wrap64 ((a0.size : Int) - 1)) : Int).toNat) t129 t130 t131 t132 t133 _ A31.out).mono ?_); rintro e w' ⟨rfl, ⟨nd, rfl⟩⟩; (try first | exact ⟨rfl, _, World.drewN_drewN _ _ _⟩ | exact ⟨rfl, _, Eq.trans (World.drewN_drewN _ _ _) (congrArg (World.drewN _) (Nat.add_assoc _ _ _))⟩)))
                        repeat (go_quiet (first | (go_at_call 26; (with_reducible refine (ih kj9 (by have := HJ4.out; have := HJ9.out; omega) (a0.extract ((ji27) : Int).toNat ((wrap64 ((a0.size : Int) - 1)) : Int).toNat) t129 t130 t131 t132 t133 _ A31.out).mono ?_); rintro e w' ⟨rfl, ⟨nd, rfl⟩⟩; (try first | exact ⟨rfl, _, World.drewN_drewN _ _ _⟩ | exact ⟨rfl, _, Eq.trans (World.drewN_drewN _ _ _) (congrArg (World.drewN _) (Nat.add_assoc _ _ _))⟩))); try go_wp2_with (first | (go_at_call 26; (with_reducible refine (ih kj9 (by have := HJ4.out; have := HJ9.out; omega) (a0.extract ((ji27) : Int).toNat ((wrap64 ((a0.size : Int) - 1)) : Int).toNat) t129 t130 t131 t132 t133 _ A31.out).mono ?_); rintro e w' ⟨rfl, ⟨nd, rfl⟩⟩; (try first | exact ⟨rfl, _, World.drewN_drewN _ _ _⟩ | exact ⟨rfl, _, Eq.trans (World.drewN_drewN _ _ _) (congrArg (World.drewN _) (Nat.add_assoc _ _ _))⟩))))
                        refine bodyPost_ret (results_list (rs := [.tmp 2, .tmp 3, .tmp 4, .tmp 5, .tmp 6]) rfl (by simp) (.tmp (.tmp (.tmp (.tmp (.tmp .nil)))))) rfl ?_
                        try (have hsA3_A9 : t124 = t126 := Option.some.inj (A3.out.symm.trans A9.out); subst hsA3_A9)
                        try (have hsA4_A9 : t125 = t126 := Option.some.inj (A4.out.symm.trans A9.out); subst hsA4_A9)
                        try (have hsA3_A4 : t124 = t125 := Option.some.inj (A3.out.symm.trans A4.out); subst hsA3_A4)
                        exact ⟨by first | rfl | (simp; done) | (simp only [← hji27] <;> (first | rfl | simp)) | (simp [*]; done), by repeat (first | exact Drawn0.refl _ | apply Drawn0.step)⟩
                    · rw [if_neg c30] at H
                      exact absurd H (by simp)
                  · rw [if_neg c29] at H
                    exact absurd H (by simp)
                · rw [if_neg c28] at H
                  exact absurd H (by simp)
        · replace c8 := Bool.eq_false_iff.mpr c8
          subst c8
          have H1 : (if t125 < 0 then (voussoirref27_Parse.j2 kj4 a0 t125 true) else (if 0 ≤ t125 then (if t125 ≤ (a0.size : Int) then ((voussoirref27_Id.f kj4 (a0.extract 0 (t125 : Int).toNat)).bind fun t135 => (voussoirref27_Parse.j2 kj4 a0 t125 (t135 == 0))) else (none)) else (none))) = some (r1, r2, r3, r4, r5) := by rw [if_neg (show ¬ (false = true) by decide)] at H; exact H
          clear H
          have H := H1
          clear H1
          have HC40 := Aside0.mk H
          clear H
          go_upto_region 14 with (fail)
          repeat (go_quiet (fail); go_upto_region 14 with (fail))
          go_cut [100] (fun v100 wc => ∃ (kq : Nat) (x100_39 : Bool), v100 = .bool x100_39 ∧ Aside0 (voussoirref27_Parse.j2 kq a0 t125 x100_39 = some (r1, r2, r3, r4, r5)) ∧ Aside0 (kq ≤ kj4) ∧ Drawn0 w wc)
          case first =>
            have H := HC40.out
            clear HC40
            by_cases c41 : t125 < 0
            · rw [if_pos c41] at H
              have c41b0 : decide (t125 < 0) = true := decide_eq_true c41
              clear c41
              (first | rw [c41b0] | (simp only [i64_w, i32_w]; rw [c41b0]) | skip)
              have H' := Aside0.mk H
              clear H
              go_wp2
              repeat (go_quiet (fail); try go_wp2)
              go_meet
              case rel => exact ⟨_, (true), (by first | rfl | (simp; done) | (simp [*]; done)), H', ⟨by have := HJ4.out; first | omega | exact Nat.le_refl _⟩, by repeat (first | exact Drawn0.refl _ | apply Drawn0.step)⟩
            · rw [if_neg c41] at H
              have c41b0 : decide (t125 < 0) = false := decide_eq_false c41
              clear c41
              (first | rw [c41b0] | (simp only [i64_w, i32_w]; rw [c41b0]) | skip)
              by_cases c42 : 0 ≤ t125
              · rw [if_pos c42] at H
                have c42b0 := eq_true c42
                have c42b1 : decide (0 ≤ t125) = true := decide_eq_true c42
                clear c42
                by_cases c43 : t125 ≤ (a0.size : Int)
                · rw [if_pos c43] at H
                  have c43b0 := eq_true c43
                  have c43b1 : decide (t125 ≤ (a0.size : Int)) = true := decide_eq_true c43
                  clear c43
                  replace H := Option.bind_eq_some_iff.mp H
                  obtain ⟨t135, A440, H⟩ := H
                  replace H : (voussoirref27_Parse.j2 kj4 a0 t125 (t135 == 0)) = some (r1, r2, r3, r4, r5) := H
                  have A44 := Aside0.mk A440
                  clear A440
                  have H' := Aside0.mk H
                  clear H
                  go_wp2_with (first | (go_at_call 49; (with_reducible refine (voussoirref27_Id.calls kj4 (a0.extract 0 (t125 : Int).toNat) t135 _ A44.out).mono ?_); rintro e w' ⟨rfl, ⟨nd, rfl⟩⟩; (try first | exact ⟨rfl, _, World.drewN_drewN _ _ _⟩ | exact ⟨rfl, _, Eq.trans (World.drewN_drewN _ _ _) (congrArg (World.drewN _) (Nat.add_assoc _ _ _))⟩)))
                  repeat (go_quiet (first | (go_at_call 49; (with_reducible refine (voussoirref27_Id.calls kj4 (a0.extract 0 (t125 : Int).toNat) t135 _ A44.out).mono ?_); rintro e w' ⟨rfl, ⟨nd, rfl⟩⟩; (try first | exact ⟨rfl, _, World.drewN_drewN _ _ _⟩ | exact ⟨rfl, _, Eq.trans (World.drewN_drewN _ _ _) (congrArg (World.drewN _) (Nat.add_assoc _ _ _))⟩))); try go_wp2_with (first | (go_at_call 49; (with_reducible refine (voussoirref27_Id.calls kj4 (a0.extract 0 (t125 : Int).toNat) t135 _ A44.out).mono ?_); rintro e w' ⟨rfl, ⟨nd, rfl⟩⟩; (try first | exact ⟨rfl, _, World.drewN_drewN _ _ _⟩ | exact ⟨rfl, _, Eq.trans (World.drewN_drewN _ _ _) (congrArg (World.drewN _) (Nat.add_assoc _ _ _))⟩))))
                  go_meet
                  case rel => exact ⟨_, ((t135 == 0)), (by first | rfl | (simp; done) | (simp [*]; done)), H', ⟨by have := HJ4.out; first | omega | exact Nat.le_refl _⟩, by repeat (first | exact Drawn0.refl _ | apply Drawn0.step)⟩
                · rw [if_neg c43] at H
                  exact absurd H (by simp)
              · rw [if_neg c42] at H
                exact absurd H (by simp)
          case rest =>
            clear HC40
            try clear c1
            try clear p1
            try clear q1
            try clear hx1
            try clear c2
            try clear c2b0
            try clear c2b1
            try clear p2
            try clear c3
            try clear c4
            try clear c6
            try clear c6b0
            try clear p6
            try clear c7
            try clear c7b0
            try clear c8
            try clear c9
            try clear c11
            try clear c11b0
            try clear c13
            try clear c13b0
            try clear c14
            try clear c14b0
            try clear p15
            try clear q15
            try clear hx15
            try clear c16
            try clear c16b0
            try clear c16b1
            try clear c17
            try clear c17b0
            try clear c17b1
            try clear c18
            try clear c18b0
            try clear c18b1
            try clear c20
            try clear c20b0
            try clear c20b1
            try clear c22
            try clear c22b0
            try clear c22b1
            try clear c23
            try clear c23b0
            try clear c23b1
            try clear c24
            try clear c24b0
            try clear c24b1
            try clear c26
            try clear c28
            try clear c28b0
            try clear c28b1
            try clear c29
            try clear c29b0
            try clear c29b1
            try clear c30
            try clear c30b0
            try clear c30b1
            try clear c32
            try clear c32b0
            try clear c32b1
            try clear c33
            try clear c33b0
            try clear c33b1
            try clear c34
            try clear c34b0
            try clear c34b1
            try clear c36
            try clear c36b0
            try clear c36b1
            try clear c37
            try clear c37b0
            try clear c37b1
            try clear c38
            try clear c38b0
            try clear c38b1
            try clear c41
            try clear c41b0
            try clear c42
            try clear c42b0
            try clear c42b1
            try clear c43
            try clear c43b0
            try clear c43b1
            try clear p1
            try clear p15
            try clear p2
            try clear p6
            try clear q1
            try clear q15
            obtain ⟨kq, x100_39, rfl, HA, HJ39, ⟨mc39, rfl⟩⟩ := hcut
            cases kq with
            | zero => exact absurd HA.out (by simp [voussoirref27_Parse.j2])
            | succ kj39 =>
              have H := HA.out
              clear HA
              simp only [voussoirref27_Parse.j2] at H
              by_cases c45 : x100_39 = true
              · subst c45
                have H1 : (some ((⟨#[]⟩ : ByteArray), (⟨#[]⟩ : ByteArray), 0, (⟨#[]⟩ : ByteArray), 3)) = some (r1, r2, r3, r4, r5) := by rw [if_pos rfl] at H; exact H
                clear H
                have H := H1
                clear H1
                simp only [Option.some.injEq, Prod.mk.injEq] at H
                obtain ⟨rfl, rfl, rfl, rfl, rfl⟩ := H
                go_wp2
                repeat (go_quiet (fail); try go_wp2)
                refine bodyPost_ret (results_list (rs := [.tmp 2, .tmp 3, .tmp 4, .tmp 5, .tmp 6]) rfl (by simp) (.tmp (.tmp (.tmp (.tmp (.tmp .nil)))))) rfl ?_
                try (have hsA3_A4 : t124 = t125 := Option.some.inj (A3.out.symm.trans A4.out); subst hsA3_A4)
                exact ⟨by first | rfl | (simp; done) | (simp [*]; done), by repeat (first | exact Drawn0.refl _ | apply Drawn0.step)⟩
              · replace c45 := Bool.eq_false_iff.mpr c45
                subst c45
                have H1 : (if 0 ≤ (wrap64 (t125 + 1)) then (if (wrap64 (t125 + 1)) ≤ (a0.size : Int) then (voussoirref27_Parse.l0 kj39 a0 t125 (a0.extract ((wrap64 (t125 + 1)) : Int).toNat a0.size) 0) else (none)) else (none)) = some (r1, r2, r3, r4, r5) := by rw [if_neg (show ¬ (false = true) by decide)] at H; exact H
                clear H
                have H := H1
                clear H1
                obtain ⟨ji46, hji46⟩ : ∃ j_ : Int, (wrap64 (t125 + 1)) = j_ := ⟨_, rfl⟩
                replace H : (if 0 ≤ (ji46) then (if (ji46) ≤ (a0.size : Int) then (voussoirref27_Parse.l0 kj39 a0 t125 (a0.extract ((ji46) : Int).toNat a0.size) 0) else (none)) else (none)) = some (r1, r2, r3, r4, r5) := by first | (rw [hji46] at H; exact H) | (simp only [hji46] at H ⊢; exact H)
                have hji46w : (IntKind.i64.wrap (t125 + 1)) = ji46 := (i64_w _).trans hji46
                by_cases c47 : 0 ≤ (ji46)
                · rw [if_pos c47] at H
                  have c47b0 := eq_true c47
                  have c47b1 : decide (0 ≤ (ji46)) = true := decide_eq_true c47
                  clear c47
                  by_cases c48 : (ji46) ≤ (a0.size : Int)
                  · rw [if_pos c48] at H
                    have c48b0 := eq_true c48
                    have c48b1 : decide ((ji46) ≤ (a0.size : Int)) = true := decide_eq_true c48
                    clear c48
                    have HC49 := Aside0.mk H
                    clear H
                    go_upto_block 0 with (fail)
                    repeat (go_quiet (fail); go_upto_block 0 with (fail))
                    go_cut [17] (fun v17 wc => ∃ (kq : Nat) (x17_48 : Int), v17 = .int .i64 x17_48 ∧ Aside0 (voussoirref27_Parse.j4 kq a0 t125 (a0.extract ((ji46) : Int).toNat a0.size) x17_48 = some (r1, r2, r3, r4, r5)) ∧ Aside0 (kq ≤ kj39) ∧ Drawn0 w wc)
                    case first =>
                      have H := HC49.out
                      clear HC49
                      have H' := Aside0.mk H
                      clear H
                      go_wp2
                      repeat (go_quiet (fail); try go_wp2)
                      go_loopg [17] kj39 (fun kq v17 w' => ∃ (x17_3 : Int), v17 = .int .i64 x17_3 ∧ Aside0 (voussoirref27_Parse.l0 kq a0 t125 (a0.extract ((ji46) : Int).toNat a0.size) x17_3 = some (r1, r2, r3, r4, r5)) ∧ Aside0 (kq ≤ kj39) ∧ Drawn0 w w')
                      case atStart => exact ⟨(0), (by first | rfl | (simp; done) | (simp [*]; done)), H', ⟨Nat.le_refl _⟩, by repeat (first | exact Drawn0.refl _ | apply Drawn0.step)⟩
                      case round =>
                        clear H'
                        try clear c1
                        try clear p1
                        try clear q1
                        try clear hx1
                        try clear c2
                        try clear c2b0
                        try clear c2b1
                        try clear p2
                        try clear c3
                        try clear c4
                        try clear c6
                        try clear c6b0
                        try clear p6
                        try clear c7
                        try clear c7b0
                        try clear c8
                        try clear c9
                        try clear c11
                        try clear c11b0
                        try clear c13
                        try clear c13b0
                        try clear c14
                        try clear c14b0
                        try clear p15
                        try clear q15
                        try clear hx15
                        try clear c16
                        try clear c16b0
                        try clear c16b1
                        try clear c17
                        try clear c17b0
                        try clear c17b1
                        try clear c18
                        try clear c18b0
                        try clear c18b1
                        try clear c20
                        try clear c20b0
                        try clear c20b1
                        try clear c22
                        try clear c22b0
                        try clear c22b1
                        try clear c23
                        try clear c23b0
                        try clear c23b1
                        try clear c24
                        try clear c24b0
                        try clear c24b1
                        try clear c26
                        try clear c28
                        try clear c28b0
                        try clear c28b1
                        try clear c29
                        try clear c29b0
                        try clear c29b1
                        try clear c30
                        try clear c30b0
                        try clear c30b1
                        try clear c32
                        try clear c32b0
                        try clear c32b1
                        try clear c33
                        try clear c33b0
                        try clear c33b1
                        try clear c34
                        try clear c34b0
                        try clear c34b1
                        try clear c36
                        try clear c36b0
                        try clear c36b1
                        try clear c37
                        try clear c37b0
                        try clear c37b1
                        try clear c38
                        try clear c38b0
                        try clear c38b1
                        try clear c39
                        try clear c41
                        try clear c41b0
                        try clear c42
                        try clear c42b0
                        try clear c42b1
                        try clear c43
                        try clear c43b0
                        try clear c43b1
                        try clear c45
                        try clear c47
                        try clear c47b0
                        try clear c47b1
                        try clear c48
                        try clear c48b0
                        try clear c48b1
                        try clear p1
                        try clear p15
                        try clear p2
                        try clear p6
                        try clear q1
                        try clear q15
                        obtain ⟨x17_3, rfl, HA, HK3, ⟨m3, rfl⟩⟩ := hrel
                        cases gk with
                        | zero => exact absurd HA.out (by simp [voussoirref27_Parse.l0])
                        | succ k3 =>
                          have H := HA.out
                          clear HA
                          simp only [voussoirref27_Parse.l0] at H
                          by_cases c50 : x17_3 < ((a0.extract ((ji46) : Int).toNat a0.size).size : Int)
                          · rw [if_pos c50] at H
                            have c50b0 : decide (x17_3 < ((a0.extract ((ji46) : Int).toNat a0.size).size : Int)) = true := decide_eq_true c50
                            try (have c50b5 := c50; simp only [gt_iff_lt, ge_iff_le, Int.not_lt, Int.not_le, Go.ByteArray.size_append', Go.ByteArray.size_mk', List.size_toArray, List.length_cons, List.length_nil, Nat.zero_add, Nat.reduceAdd, Int.natCast_add, Int.cast_ofNat_Int, ByteArray.size_extract, Nat.min_self] at c50b5)
                            clear c50
                            (first | rw [c50b0] | (simp only [i64_w, i32_w]; rw [c50b0]) | skip)
                            by_cases c51 : 0 ≤ x17_3
                            · rw [if_pos c51] at H
                              have c51b0 : decide (0 ≤ x17_3) = true := decide_eq_true c51
                              clear c51
                              replace H := Option.bind_eq_some_iff.mp H
                              obtain ⟨t136, A530, H⟩ := H
                              replace H : (if t136 = true then (voussoirref27_Parse.l0 k3 a0 t125 (a0.extract ((ji46) : Int).toNat a0.size) (wrap64 (x17_3 + 1))) else (voussoirref27_Parse.j4 k3 a0 t125 (a0.extract ((ji46) : Int).toNat a0.size) x17_3)) = some (r1, r2, r3, r4, r5) := H
                              have A53 := Aside0.mk A530
                              clear A530
                              by_cases c54 : t136 = true
                              · subst c54
                                have H1 : (voussoirref27_Parse.l0 k3 a0 t125 (a0.extract ((ji46) : Int).toNat a0.size) (wrap64 (x17_3 + 1))) = some (r1, r2, r3, r4, r5) := by rw [if_pos rfl] at H; exact H
                                clear H
                                have H := H1
                                clear H1
                                have H' := Aside0.mk H
                                clear H
                                have p52 : 0 ≤ (x17_3 : Int) := of_decide_eq_true (by first | (with_reducible assumption) | assumption)
                                have q52 : x17_3 < ((a0.extract ((ji46) : Int).toNat a0.size).size : Int) := of_decide_eq_true (by first | (with_reducible assumption) | assumption)
                                have hx52 := bt_at (a0.extract ((ji46) : Int).toNat a0.size) x17_3
                                replace p52 := eq_true p52
                                replace q52 := eq_true q52
                                go_wp2_with (first | (go_at_call 51; (with_reducible refine (voussoirref27_small.calls (bt (a0.extract ((ji46) : Int).toNat a0.size) x17_3) true _ A53.out).mono ?_); rintro e w' ⟨rfl, ⟨nd, rfl⟩⟩; (try first | exact ⟨rfl, _, World.drewN_drewN _ _ _⟩ | exact ⟨rfl, _, Eq.trans (World.drewN_drewN _ _ _) (congrArg (World.drewN _) (Nat.add_assoc _ _ _))⟩)))
                                repeat (go_quiet (first | (go_at_call 51; (with_reducible refine (voussoirref27_small.calls (bt (a0.extract ((ji46) : Int).toNat a0.size) x17_3) true _ A53.out).mono ?_); rintro e w' ⟨rfl, ⟨nd, rfl⟩⟩; (try first | exact ⟨rfl, _, World.drewN_drewN _ _ _⟩ | exact ⟨rfl, _, Eq.trans (World.drewN_drewN _ _ _) (congrArg (World.drewN _) (Nat.add_assoc _ _ _))⟩))); try go_wp2_with (first | (go_at_call 51; (with_reducible refine (voussoirref27_small.calls (bt (a0.extract ((ji46) : Int).toNat a0.size) x17_3) true _ A53.out).mono ?_); rintro e w' ⟨rfl, ⟨nd, rfl⟩⟩; (try first | exact ⟨rfl, _, World.drewN_drewN _ _ _⟩ | exact ⟨rfl, _, Eq.trans (World.drewN_drewN _ _ _) (congrArg (World.drewN _) (Nat.add_assoc _ _ _))⟩))))
                                go_roundg k3
                                case measure => have := HJ4.out; have := HJ39.out; have := HK3.out; omega
                                case rel => exact ⟨(wrap64 (x17_3 + 1)), (by first | rfl | (simp; done) | (simp [*]; done)), H', ⟨by have := HJ4.out; have := HJ39.out; have := HK3.out; omega⟩, by repeat (first | exact Drawn0.refl _ | apply Drawn0.step)⟩
                              · replace c54 := Bool.eq_false_iff.mpr c54
                                subst c54
                                have H1 : (voussoirref27_Parse.j4 k3 a0 t125 (a0.extract ((ji46) : Int).toNat a0.size) x17_3) = some (r1, r2, r3, r4, r5) := by rw [if_neg (show ¬ (false = true) by decide)] at H; exact H
                                clear H
                                have H := H1
                                clear H1
                                have H' := Aside0.mk H
                                clear H
                                have p52 : 0 ≤ (x17_3 : Int) := of_decide_eq_true (by first | (with_reducible assumption) | assumption)
                                have q52 : x17_3 < ((a0.extract ((ji46) : Int).toNat a0.size).size : Int) := of_decide_eq_true (by first | (with_reducible assumption) | assumption)
                                have hx52 := bt_at (a0.extract ((ji46) : Int).toNat a0.size) x17_3
                                replace p52 := eq_true p52
                                replace q52 := eq_true q52
                                go_wp2_with (first | (go_at_call 51; (with_reducible refine (voussoirref27_small.calls (bt (a0.extract ((ji46) : Int).toNat a0.size) x17_3) false _ A53.out).mono ?_); rintro e w' ⟨rfl, ⟨nd, rfl⟩⟩; (try first | exact ⟨rfl, _, World.drewN_drewN _ _ _⟩ | exact ⟨rfl, _, Eq.trans (World.drewN_drewN _ _ _) (congrArg (World.drewN _) (Nat.add_assoc _ _ _))⟩)))
                                repeat (go_quiet (first | (go_at_call 51; (with_reducible refine (voussoirref27_small.calls (bt (a0.extract ((ji46) : Int).toNat a0.size) x17_3) false _ A53.out).mono ?_); rintro e w' ⟨rfl, ⟨nd, rfl⟩⟩; (try first | exact ⟨rfl, _, World.drewN_drewN _ _ _⟩ | exact ⟨rfl, _, Eq.trans (World.drewN_drewN _ _ _) (congrArg (World.drewN _) (Nat.add_assoc _ _ _))⟩))); try go_wp2_with (first | (go_at_call 51; (with_reducible refine (voussoirref27_small.calls (bt (a0.extract ((ji46) : Int).toNat a0.size) x17_3) false _ A53.out).mono ?_); rintro e w' ⟨rfl, ⟨nd, rfl⟩⟩; (try first | exact ⟨rfl, _, World.drewN_drewN _ _ _⟩ | exact ⟨rfl, _, Eq.trans (World.drewN_drewN _ _ _) (congrArg (World.drewN _) (Nat.add_assoc _ _ _))⟩))))
                                go_meet
                                case rel => exact ⟨_, (x17_3), (by first | rfl | (simp; done) | (simp [*]; done)), H', ⟨by have := HJ4.out; have := HJ39.out; have := HK3.out; first | omega | exact Nat.le_refl _⟩, by repeat (first | exact Drawn0.refl _ | apply Drawn0.step)⟩
                            · rw [if_neg c51] at H
                              exact absurd H (by simp)
                          · rw [if_neg c50] at H
                            have c50b0 : decide (x17_3 < ((a0.extract ((ji46) : Int).toNat a0.size).size : Int)) = false := decide_eq_false c50
                            try (have c50b5 := c50; simp only [gt_iff_lt, ge_iff_le, Int.not_lt, Int.not_le, Go.ByteArray.size_append', Go.ByteArray.size_mk', List.size_toArray, List.length_cons, List.length_nil, Nat.zero_add, Nat.reduceAdd, Int.natCast_add, Int.cast_ofNat_Int, ByteArray.size_extract, Nat.min_self] at c50b5)
                            clear c50
                            (first | rw [c50b0] | (simp only [i64_w, i32_w]; rw [c50b0]) | skip)
                            have H' := Aside0.mk H
                            clear H
                            go_wp2
                            repeat (go_quiet (fail); try go_wp2)
                            go_meet
                            case rel => exact ⟨_, (x17_3), (by first | rfl | (simp; done) | (simp [*]; done)), H', ⟨by have := HJ4.out; have := HJ39.out; have := HK3.out; first | omega | exact Nat.le_refl _⟩, by repeat (first | exact Drawn0.refl _ | apply Drawn0.step)⟩
                    case rest =>
                      clear HC49
                      try clear c1
                      try clear p1
                      try clear q1
                      try clear hx1
                      try clear c2
                      try clear c2b0
                      try clear c2b1
                      try clear p2
                      try clear c3
                      try clear c4
                      try clear c5
                      try clear p5
                      try clear q5
                      try clear hx5
                      try clear c6
                      try clear c6b0
                      try clear p6
                      try clear c7
                      try clear c7b0
                      try clear c8
                      try clear c9
                      try clear c11
                      try clear c11b0
                      try clear c13
                      try clear c13b0
                      try clear c14
                      try clear c14b0
                      try clear p15
                      try clear q15
                      try clear hx15
                      try clear c16
                      try clear c16b0
                      try clear c16b1
                      try clear c17
                      try clear c17b0
                      try clear c17b1
                      try clear c18
                      try clear c18b0
                      try clear c18b1
                      try clear c20
                      try clear c20b0
                      try clear c20b1
                      try clear c22
                      try clear c22b0
                      try clear c22b1
                      try clear c23
                      try clear c23b0
                      try clear c23b1
                      try clear c24
                      try clear c24b0
                      try clear c24b1
                      try clear c26
                      try clear c28
                      try clear c28b0
                      try clear c28b1
                      try clear c29
                      try clear c29b0
                      try clear c29b1
                      try clear c30
                      try clear c30b0
                      try clear c30b1
                      try clear c32
                      try clear c32b0
                      try clear c32b1
                      try clear c33
                      try clear c33b0
                      try clear c33b1
                      try clear c34
                      try clear c34b0
                      try clear c34b1
                      try clear c36
                      try clear c36b0
                      try clear c36b1
                      try clear c37
                      try clear c37b0
                      try clear c37b1
                      try clear c38
                      try clear c38b0
                      try clear c38b1
                      try clear c39
                      try clear c41
                      try clear c41b0
                      try clear c42
                      try clear c42b0
                      try clear c42b1
                      try clear c43
                      try clear c43b0
                      try clear c43b1
                      try clear c45
                      try clear c47
                      try clear c47b0
                      try clear c47b1
                      try clear c48
                      try clear c48b0
                      try clear c48b1
                      try clear c50
                      try clear c50b0
                      try clear c51
                      try clear c51b0
                      try clear p52
                      try clear q52
                      try clear hx52
                      try clear c54
                      try clear p1
                      try clear p15
                      try clear p2
                      try clear p52
                      try clear p6
                      try clear q1
                      try clear q15
                      try clear q52
                      obtain ⟨kq, x17_48, rfl, HA, HJ48, ⟨mc48, rfl⟩⟩ := hcut
                      cases kq with
                      | zero => exact absurd HA.out (by simp [voussoirref27_Parse.j4])
                      | succ kj48 =>
                        have H := HA.out
                        clear HA
                        simp only [voussoirref27_Parse.j4] at H
                        by_cases c55 : 0 ≤ x17_48
                        · rw [if_pos c55] at H
                          have c55b0 := eq_true c55
                          have c55b1 : decide (0 ≤ x17_48) = true := decide_eq_true c55
                          clear c55
                          by_cases c56 : x17_48 ≤ ((a0.extract ((ji46) : Int).toNat a0.size).size : Int)
                          · rw [if_pos c56] at H
                            have c56b0 := eq_true c56
                            have c56b1 : decide (x17_48 ≤ ((a0.extract ((ji46) : Int).toNat a0.size).size : Int)) = true := decide_eq_true c56
                            try (have c56b5 := c56; simp only [gt_iff_lt, ge_iff_le, Int.not_lt, Int.not_le, Go.ByteArray.size_append', Go.ByteArray.size_mk', List.size_toArray, List.length_cons, List.length_nil, Nat.zero_add, Nat.reduceAdd, Int.natCast_add, Int.cast_ofNat_Int, ByteArray.size_extract, Nat.min_self] at c56b5)
                            clear c56
                            replace H := Option.bind_eq_some_iff.mp H
                            obtain ⟨t137, A570, H⟩ := H
                            replace H : (if t137 = 0 then (some ((⟨#[]⟩ : ByteArray), (⟨#[]⟩ : ByteArray), 0, (⟨#[]⟩ : ByteArray), 3)) else ((voussoirref27_digits.f kj48 ((a0.extract ((ji46) : Int).toNat a0.size).extract (x17_48 : Int).toNat (a0.extract ((ji46) : Int).toNat a0.size).size) 3).bind fun t138 => (if t138 < 0 then (some ((⟨#[]⟩ : ByteArray), (⟨#[]⟩ : ByteArray), 0, (⟨#[]⟩ : ByteArray), 3)) else (if 0 ≤ t125 then (if t125 ≤ (a0.size : Int) then ((voussoirref27_digits.f kj48 ((a0.extract ((ji46) : Int).toNat a0.size).extract (x17_48 : Int).toNat (a0.extract ((ji46) : Int).toNat a0.size).size) 3).bind fun t139 => (some (a0.extract 0 (t125 : Int).toNat, (a0.extract ((ji46) : Int).toNat a0.size).extract 0 (x17_48 : Int).toNat, t139, (⟨#[]⟩ : ByteArray), 0))) else (none)) else (none))))) = some (r1, r2, r3, r4, r5) := H
                            have A57 := Aside0.mk A570
                            clear A570
                            by_cases c58 : t137 = 0
                            · rw [if_pos c58] at H
                              have c58b0 : (t137 == 0) = true := beq_iff_eq.mpr c58
                              have c58b1 : (t137 != 0) = false := bne_eq_false_iff_eq.mpr c58
                              clear c58
                              simp only [Option.some.injEq, Prod.mk.injEq] at H
                              obtain ⟨rfl, rfl, rfl, rfl, rfl⟩ := H
                              go_wp2_with (first | (go_at_call 52; (with_reducible refine (voussoirref27_Role.calls kj48 ((a0.extract ((ji46) : Int).toNat a0.size).extract 0 (x17_48 : Int).toNat) t137 _ A57.out).mono ?_); rintro e w' ⟨rfl, ⟨nd, rfl⟩⟩; (try first | exact ⟨rfl, _, World.drewN_drewN _ _ _⟩ | exact ⟨rfl, _, Eq.trans (World.drewN_drewN _ _ _) (congrArg (World.drewN _) (Nat.add_assoc _ _ _))⟩)))
                              repeat (go_quiet (first | (go_at_call 52; (with_reducible refine (voussoirref27_Role.calls kj48 ((a0.extract ((ji46) : Int).toNat a0.size).extract 0 (x17_48 : Int).toNat) t137 _ A57.out).mono ?_); rintro e w' ⟨rfl, ⟨nd, rfl⟩⟩; (try first | exact ⟨rfl, _, World.drewN_drewN _ _ _⟩ | exact ⟨rfl, _, Eq.trans (World.drewN_drewN _ _ _) (congrArg (World.drewN _) (Nat.add_assoc _ _ _))⟩))); try go_wp2_with (first | (go_at_call 52; (with_reducible refine (voussoirref27_Role.calls kj48 ((a0.extract ((ji46) : Int).toNat a0.size).extract 0 (x17_48 : Int).toNat) t137 _ A57.out).mono ?_); rintro e w' ⟨rfl, ⟨nd, rfl⟩⟩; (try first | exact ⟨rfl, _, World.drewN_drewN _ _ _⟩ | exact ⟨rfl, _, Eq.trans (World.drewN_drewN _ _ _) (congrArg (World.drewN _) (Nat.add_assoc _ _ _))⟩))))
                              refine bodyPost_ret (results_list (rs := [.tmp 2, .tmp 3, .tmp 4, .tmp 5, .tmp 6]) rfl (by simp) (.tmp (.tmp (.tmp (.tmp (.tmp .nil)))))) rfl ?_
                              try (have hsA3_A4 : t124 = t125 := Option.some.inj (A3.out.symm.trans A4.out); subst hsA3_A4)
                              exact ⟨by first | rfl | (simp; done) | (simp only [← hji46] <;> (first | rfl | simp)) | (simp [*]; done), by repeat (first | exact Drawn0.refl _ | apply Drawn0.step)⟩
                            · rw [if_neg c58] at H
                              have c58b0 : (t137 == 0) = false := beq_eq_false_iff_ne.mpr c58
                              have c58b1 : (t137 != 0) = true := bne_iff_ne.mpr c58
                              have c59b0 := eq_true (of_decide_eq_true (by first | (with_reducible assumption) | assumption) : 0 ≤ x17_48)
                              have c60b0 := eq_true (of_decide_eq_true (by first | (with_reducible assumption) | assumption) : x17_48 ≤ ((a0.extract ((ji46) : Int).toNat a0.size).size : Int))
                              replace H := Option.bind_eq_some_iff.mp H
                              obtain ⟨t138, A610, H⟩ := H
                              replace H : (if t138 < 0 then (some ((⟨#[]⟩ : ByteArray), (⟨#[]⟩ : ByteArray), 0, (⟨#[]⟩ : ByteArray), 3)) else (if 0 ≤ t125 then (if t125 ≤ (a0.size : Int) then ((voussoirref27_digits.f kj48 ((a0.extract ((ji46) : Int).toNat a0.size).extract (x17_48 : Int).toNat (a0.extract ((ji46) : Int).toNat a0.size).size) 3).bind fun t139 => (some (a0.extract 0 (t125 : Int).toNat, (a0.extract ((ji46) : Int).toNat a0.size).extract 0 (x17_48 : Int).toNat, t139, (⟨#[]⟩ : ByteArray), 0))) else (none)) else (none))) = some (r1, r2, r3, r4, r5) := H
                              have A61 := Aside0.mk A610
                              clear A610
                              by_cases c62 : t138 < 0
                              · rw [if_pos c62] at H
                                have c62b0 : decide (t138 < 0) = true := decide_eq_true c62
                                clear c62
                                simp only [Option.some.injEq, Prod.mk.injEq] at H
                                obtain ⟨rfl, rfl, rfl, rfl, rfl⟩ := H
                                go_wp2_with (first | (go_at_call 52; (with_reducible refine (voussoirref27_Role.calls kj48 ((a0.extract ((ji46) : Int).toNat a0.size).extract 0 (x17_48 : Int).toNat) t137 _ A57.out).mono ?_); rintro e w' ⟨rfl, ⟨nd, rfl⟩⟩; (try first | exact ⟨rfl, _, World.drewN_drewN _ _ _⟩ | exact ⟨rfl, _, Eq.trans (World.drewN_drewN _ _ _) (congrArg (World.drewN _) (Nat.add_assoc _ _ _))⟩)) | (go_at_call 50; (with_reducible refine (voussoirref27_digits.calls kj48 ((a0.extract ((ji46) : Int).toNat a0.size).extract (x17_48 : Int).toNat (a0.size - ((ji46) : Int).toNat)) 3 t138 _ (by have h_ := A61.out; simp only [ByteArray.size_extract, Nat.min_self] at h_; exact h_)).mono ?_); rintro e w' ⟨rfl, ⟨nd, rfl⟩⟩; (try first | exact ⟨rfl, _, World.drewN_drewN _ _ _⟩ | exact ⟨rfl, _, Eq.trans (World.drewN_drewN _ _ _) (congrArg (World.drewN _) (Nat.add_assoc _ _ _))⟩)))
                                repeat (go_quiet (first | (go_at_call 52; (with_reducible refine (voussoirref27_Role.calls kj48 ((a0.extract ((ji46) : Int).toNat a0.size).extract 0 (x17_48 : Int).toNat) t137 _ A57.out).mono ?_); rintro e w' ⟨rfl, ⟨nd, rfl⟩⟩; (try first | exact ⟨rfl, _, World.drewN_drewN _ _ _⟩ | exact ⟨rfl, _, Eq.trans (World.drewN_drewN _ _ _) (congrArg (World.drewN _) (Nat.add_assoc _ _ _))⟩)) | (go_at_call 50; (with_reducible refine (voussoirref27_digits.calls kj48 ((a0.extract ((ji46) : Int).toNat a0.size).extract (x17_48 : Int).toNat (a0.size - ((ji46) : Int).toNat)) 3 t138 _ (by have h_ := A61.out; simp only [ByteArray.size_extract, Nat.min_self] at h_; exact h_)).mono ?_); rintro e w' ⟨rfl, ⟨nd, rfl⟩⟩; (try first | exact ⟨rfl, _, World.drewN_drewN _ _ _⟩ | exact ⟨rfl, _, Eq.trans (World.drewN_drewN _ _ _) (congrArg (World.drewN _) (Nat.add_assoc _ _ _))⟩))); try go_wp2_with (first | (go_at_call 52; (with_reducible refine (voussoirref27_Role.calls kj48 ((a0.extract ((ji46) : Int).toNat a0.size).extract 0 (x17_48 : Int).toNat) t137 _ A57.out).mono ?_); rintro e w' ⟨rfl, ⟨nd, rfl⟩⟩; (try first | exact ⟨rfl, _, World.drewN_drewN _ _ _⟩ | exact ⟨rfl, _, Eq.trans (World.drewN_drewN _ _ _) (congrArg (World.drewN _) (Nat.add_assoc _ _ _))⟩)) | (go_at_call 50; (with_reducible refine (voussoirref27_digits.calls kj48 ((a0.extract ((ji46) : Int).toNat a0.size).extract (x17_48 : Int).toNat (a0.size - ((ji46) : Int).toNat)) 3 t138 _ (by have h_ := A61.out; simp only [ByteArray.size_extract, Nat.min_self] at h_; exact h_)).mono ?_); rintro e w' ⟨rfl, ⟨nd, rfl⟩⟩; (try first | exact ⟨rfl, _, World.drewN_drewN _ _ _⟩ | exact ⟨rfl, _, Eq.trans (World.drewN_drewN _ _ _) (congrArg (World.drewN _) (Nat.add_assoc _ _ _))⟩))))
                                refine bodyPost_ret (results_list (rs := [.tmp 2, .tmp 3, .tmp 4, .tmp 5, .tmp 6]) rfl (by simp) (.tmp (.tmp (.tmp (.tmp (.tmp .nil)))))) rfl ?_
                                try (have hsA3_A4 : t124 = t125 := Option.some.inj (A3.out.symm.trans A4.out); subst hsA3_A4)
                                exact ⟨by first | rfl | (simp; done) | (simp only [← hji46] <;> (first | rfl | simp)) | (simp [*]; done), by repeat (first | exact Drawn0.refl _ | apply Drawn0.step)⟩
                              · rw [if_neg c62] at H
                                have c62b0 : decide (t138 < 0) = false := decide_eq_false c62
                                clear c62
                                by_cases c63 : 0 ≤ t125
                                · rw [if_pos c63] at H
                                  have c63b0 := eq_true c63
                                  have c63b1 : decide (0 ≤ t125) = true := decide_eq_true c63
                                  clear c63
                                  by_cases c64 : t125 ≤ (a0.size : Int)
                                  · rw [if_pos c64] at H
                                    have c64b0 := eq_true c64
                                    have c64b1 : decide (t125 ≤ (a0.size : Int)) = true := decide_eq_true c64
                                    clear c64
                                    have c65b0 := eq_true (of_decide_eq_true (by first | (with_reducible assumption) | assumption) : 0 ≤ x17_48)
                                    have c66b0 := eq_true (of_decide_eq_true (by first | (with_reducible assumption) | assumption) : x17_48 ≤ ((a0.extract ((ji46) : Int).toNat a0.size).size : Int))
                                    have c67b0 := eq_true (of_decide_eq_true (by first | (with_reducible assumption) | assumption) : 0 ≤ x17_48)
                                    have c68b0 := eq_true (of_decide_eq_true (by first | (with_reducible assumption) | assumption) : x17_48 ≤ ((a0.extract ((ji46) : Int).toNat a0.size).size : Int))
                                    replace H := Option.bind_eq_some_iff.mp H
                                    obtain ⟨t139, A690, H⟩ := H
                                    replace H : (some (a0.extract 0 (t125 : Int).toNat, (a0.extract ((ji46) : Int).toNat a0.size).extract 0 (x17_48 : Int).toNat, t139, (⟨#[]⟩ : ByteArray), 0)) = some (r1, r2, r3, r4, r5) := H
                                    have A69 := Aside0.mk A690
                                    clear A690
                                    simp only [Option.some.injEq, Prod.mk.injEq] at H
                                    obtain ⟨rfl, rfl, rfl, rfl, rfl⟩ := H
                                    go_wp2_with (first | (go_at_call 52; (with_reducible refine (voussoirref27_Role.calls kj48 ((a0.extract ((ji46) : Int).toNat a0.size).extract 0 (x17_48 : Int).toNat) t137 _ A57.out).mono ?_); rintro e w' ⟨rfl, ⟨nd, rfl⟩⟩; (try first | exact ⟨rfl, _, World.drewN_drewN _ _ _⟩ | exact ⟨rfl, _, Eq.trans (World.drewN_drewN _ _ _) (congrArg (World.drewN _) (Nat.add_assoc _ _ _))⟩)) | (go_at_call 50; (with_reducible refine (voussoirref27_digits.calls kj48 ((a0.extract ((ji46) : Int).toNat a0.size).extract (x17_48 : Int).toNat (a0.size - ((ji46) : Int).toNat)) 3 t138 _ (by have h_ := A61.out; simp only [ByteArray.size_extract, Nat.min_self] at h_; exact h_)).mono ?_); rintro e w' ⟨rfl, ⟨nd, rfl⟩⟩; (try first | exact ⟨rfl, _, World.drewN_drewN _ _ _⟩ | exact ⟨rfl, _, Eq.trans (World.drewN_drewN _ _ _) (congrArg (World.drewN _) (Nat.add_assoc _ _ _))⟩)) | (go_at_call 50; (with_reducible refine (voussoirref27_digits.calls kj48 ((a0.extract ((ji46) : Int).toNat a0.size).extract (x17_48 : Int).toNat (a0.size - ((ji46) : Int).toNat)) 3 t139 _ (by have h_ := A69.out; simp only [ByteArray.size_extract, Nat.min_self] at h_; exact h_)).mono ?_); rintro e w' ⟨rfl, ⟨nd, rfl⟩⟩; (try first | exact ⟨rfl, _, World.drewN_drewN _ _ _⟩ | exact ⟨rfl, _, Eq.trans (World.drewN_drewN _ _ _) (congrArg (World.drewN _) (Nat.add_assoc _ _ _))⟩)))
                                    repeat (go_quiet (first | (go_at_call 52; (with_reducible refine (voussoirref27_Role.calls kj48 ((a0.extract ((ji46) : Int).toNat a0.size).extract 0 (x17_48 : Int).toNat) t137 _ A57.out).mono ?_); rintro e w' ⟨rfl, ⟨nd, rfl⟩⟩; (try first | exact ⟨rfl, _, World.drewN_drewN _ _ _⟩ | exact ⟨rfl, _, Eq.trans (World.drewN_drewN _ _ _) (congrArg (World.drewN _) (Nat.add_assoc _ _ _))⟩)) | (go_at_call 50; (with_reducible refine (voussoirref27_digits.calls kj48 ((a0.extract ((ji46) : Int).toNat a0.size).extract (x17_48 : Int).toNat (a0.size - ((ji46) : Int).toNat)) 3 t138 _ (by have h_ := A61.out; simp only [ByteArray.size_extract, Nat.min_self] at h_; exact h_)).mono ?_); rintro e w' ⟨rfl, ⟨nd, rfl⟩⟩; (try first | exact ⟨rfl, _, World.drewN_drewN _ _ _⟩ | exact ⟨rfl, _, Eq.trans (World.drewN_drewN _ _ _) (congrArg (World.drewN _) (Nat.add_assoc _ _ _))⟩)) | (go_at_call 50; (with_reducible refine (voussoirref27_digits.calls kj48 ((a0.extract ((ji46) : Int).toNat a0.size).extract (x17_48 : Int).toNat (a0.size - ((ji46) : Int).toNat)) 3 t139 _ (by have h_ := A69.out; simp only [ByteArray.size_extract, Nat.min_self] at h_; exact h_)).mono ?_); rintro e w' ⟨rfl, ⟨nd, rfl⟩⟩; (try first | exact ⟨rfl, _, World.drewN_drewN _ _ _⟩ | exact ⟨rfl, _, Eq.trans (World.drewN_drewN _ _ _) (congrArg (World.drewN _) (Nat.add_assoc _ _ _))⟩))); try go_wp2_with (first | (go_at_call 52; (with_reducible refine (voussoirref27_Role.calls kj48 ((a0.extract ((ji46) : Int).toNat a0.size).extract 0 (x17_48 : Int).toNat) t137 _ A57.out).mono ?_); rintro e w' ⟨rfl, ⟨nd, rfl⟩⟩; (try first | exact ⟨rfl, _, World.drewN_drewN _ _ _⟩ | exact ⟨rfl, _, Eq.trans (World.drewN_drewN _ _ _) (congrArg (World.drewN _) (Nat.add_assoc _ _ _))⟩)) | (go_at_call 50; (with_reducible refine (voussoirref27_digits.calls kj48 ((a0.extract ((ji46) : Int).toNat a0.size).extract (x17_48 : Int).toNat (a0.size - ((ji46) : Int).toNat)) 3 t138 _ (by have h_ := A61.out; simp only [ByteArray.size_extract, Nat.min_self] at h_; exact h_)).mono ?_); rintro e w' ⟨rfl, ⟨nd, rfl⟩⟩; (try first | exact ⟨rfl, _, World.drewN_drewN _ _ _⟩ | exact ⟨rfl, _, Eq.trans (World.drewN_drewN _ _ _) (congrArg (World.drewN _) (Nat.add_assoc _ _ _))⟩)) | (go_at_call 50; (with_reducible refine (voussoirref27_digits.calls kj48 ((a0.extract ((ji46) : Int).toNat a0.size).extract (x17_48 : Int).toNat (a0.size - ((ji46) : Int).toNat)) 3 t139 _ (by have h_ := A69.out; simp only [ByteArray.size_extract, Nat.min_self] at h_; exact h_)).mono ?_); rintro e w' ⟨rfl, ⟨nd, rfl⟩⟩; (try first | exact ⟨rfl, _, World.drewN_drewN _ _ _⟩ | exact ⟨rfl, _, Eq.trans (World.drewN_drewN _ _ _) (congrArg (World.drewN _) (Nat.add_assoc _ _ _))⟩))))
                                    refine bodyPost_ret (results_list (rs := [.tmp 2, .tmp 3, .tmp 4, .tmp 5, .tmp 6]) rfl (by simp) (.tmp (.tmp (.tmp (.tmp (.tmp .nil)))))) rfl ?_
                                    try (have hsA61_A69 : t138 = t139 := Option.some.inj (A61.out.symm.trans A69.out); subst hsA61_A69)
                                    try (have hsA3_A4 : t124 = t125 := Option.some.inj (A3.out.symm.trans A4.out); subst hsA3_A4)
                                    exact ⟨by first | rfl | (simp; done) | (simp only [← hji46] <;> (first | rfl | simp)) | (simp [*]; done), by repeat (first | exact Drawn0.refl _ | apply Drawn0.step)⟩
                                  · rw [if_neg c64] at H
                                    exact absurd H (by simp)
                                · rw [if_neg c63] at H
                                  exact absurd H (by simp)
                          · rw [if_neg c56] at H
                            exact absurd H (by simp)
                        · rw [if_neg c55] at H
                          exact absurd H (by simp)
                  · rw [if_neg c48] at H
                    exact absurd H (by simp)
                · rw [if_neg c47] at H
                  exact absurd H (by simp)

end Go.Proofs.YtkceipkedmfeiaaGreatDoor.X30
