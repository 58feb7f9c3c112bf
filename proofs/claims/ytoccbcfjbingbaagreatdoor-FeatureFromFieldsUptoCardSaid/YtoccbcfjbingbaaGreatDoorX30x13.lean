import Derived.Test.YtoccbcfjbingbaaGreatDoorX30x0
import Derived.Test.YtoccbcfjbingbaaGreatDoorX30x12
namespace Go.Proofs.YtoccbcfjbingbaaGreatDoor.X30
open Go.RowKit Go.Proofs.YtoccbcfjbingbaaGreatDoorW.PrintWords Go.Proofs.YtoccbcfjbingbaaGreatDoorW.PrintLast Go.Proofs.YtoccbcfjbingbaaGreatDoorW.PrintMore
attribute [local go_sem] max2_int min2_int max_two min_two max_three min_three max_four min_four   -- for this text's walks alone
set_option linter.unusedVariables false
set_option linter.unusedSimpArgs false
mutual
def voussoirref27_Id.j0 : Nat → ByteArray → Int → Bool → Option (Int)
 | 0, _, _, _ => none
 | k + 1, x0, x3, x26 => if x26 = true then (some 0) else (voussoirref27_Id.l0 k x0 x3 0)
def voussoirref27_Id.l0 : Nat → ByteArray → Int → Int → Option (Int)
 | 0, _, _, _ => none
 | k + 1, x0, x3, x4 => if x4 < x3 then (if 0 ≤ x4 then (if x4 < (x0.size : Int) then ((voussoirref27_small.f (bt x0 x4)).bind fun t208 => (if t208 = true then (voussoirref27_Id.l0 k x0 x3 (wrap64 (x4 + 1))) else (if (bt x0 x4) < 48 then (some 0) else (if (bt x0 x4) > 57 then (some 0) else (voussoirref27_Id.l0 k x0 x3 (wrap64 (x4 + 1))))))) else (none)) else (none)) else (some 1)
end
def voussoirref27_Id.f (k : Nat) (a0 : ByteArray) : Option (Int) := (voussoirref27_first.f k a0 46).bind fun t205 => (if t205 < 1 then (voussoirref27_Id.j0 k a0 t205 true) else (if t205 > 24 then (voussoirref27_Id.j0 k a0 t205 true) else (if 0 < (a0.size : Int) then ((voussoirref27_small.f (bt a0 0)).bind fun t206 => (if t206 = true then (if 0 ≤ (wrap64 (t205 + 1)) then (if (wrap64 (t205 + 1)) ≤ (a0.size : Int) then ((voussoirref27_digits.f k (a0.extract ((wrap64 (t205 + 1)) : Int).toNat a0.size) 9).bind fun t207 => (voussoirref27_Id.j0 k a0 t205 (decide (t207 < 1)))) else (none)) else (none)) else (voussoirref27_Id.j0 k a0 t205 true))) else (none))))
set_option maxHeartbeats 8000000 in
set_option maxRecDepth 100000 in
theorem voussoirref27_Id.calls (k : Nat) (a0 : ByteArray) (r : Int) (w : World) (h : voussoirref27_Id.f k a0 = some r) :
 Calls Tryz.prog 48 #[.string a0] w fun e w' => e = .returned (.int .i64 r) ∧ Drawn0 w w' := by
 have H : ((voussoirref27_first.f k a0 46).bind fun t205 => (if t205 < 1 then (voussoirref27_Id.j0 k a0 t205 true) else (if t205 > 24 then (voussoirref27_Id.j0 k a0 t205 true) else (if 0 < (a0.size : Int) then ((voussoirref27_small.f (bt a0 0)).bind fun t206 => (if t206 = true then (if 0 ≤ (wrap64 (t205 + 1)) then (if (wrap64 (t205 + 1)) ≤ (a0.size : Int) then ((voussoirref27_digits.f k (a0.extract ((wrap64 (t205 + 1)) : Int).toNat a0.size) 9).bind fun t207 => (voussoirref27_Id.j0 k a0 t205 (decide (t207 < 1)))) else (none)) else (none)) else (voussoirref27_Id.j0 k a0 t205 true))) else (none))))) = some r := h
 clear h
 replace H := Option.bind_eq_some_iff.mp H
 obtain ⟨t205, A20, H⟩ := H
 replace H : (if t205 < 1 then (voussoirref27_Id.j0 k a0 t205 true) else (if t205 > 24 then (voussoirref27_Id.j0 k a0 t205 true) else (if 0 < (a0.size : Int) then ((voussoirref27_small.f (bt a0 0)).bind fun t206 => (if t206 = true then (if 0 ≤ (wrap64 (t205 + 1)) then (if (wrap64 (t205 + 1)) ≤ (a0.size : Int) then ((voussoirref27_digits.f k (a0.extract ((wrap64 (t205 + 1)) : Int).toNat a0.size) 9).bind fun t207 => (voussoirref27_Id.j0 k a0 t205 (decide (t207 < 1)))) else (none)) else (none)) else (voussoirref27_Id.j0 k a0 t205 true))) else (none)))) = some r := H
 have A2 := Aside0.mk A20
 clear A20
 have HC3 := Aside0.mk H
 clear H
 go_enter Tryz.func48, Tryz.ntmps48
 go_upto_region 2 with (first | ((with_reducible refine gate_callee (f := 60) rfl ?_); refine goesL_ (some 6) rfl rfl Tryz.func60 (by kernel_rfl) rfl #[.string a0, .int .u8 46] rfl (by first | rfl | (simp only [List.map_toArray, List.map_cons, List.map_nil, List.length_drop, List.length_take]; try rfl)) ?_; (with_reducible refine (voussoirref27_first.calls k a0 46 t205 _ A2.out).mono ?_); rintro e w' ⟨rfl, ⟨nd, rfl⟩⟩; refine ⟨_, rfl, ?_⟩))
 (try simp only [Act.put, List.setIfInBounds_toArray, List.set_cons_zero, List.set_cons_succ])
 go_cut [26] (fun v26 wc => ∃ (kq : Nat) (x26_2 : Bool), v26 = .bool x26_2 ∧ Aside0 (voussoirref27_Id.j0 kq a0 t205 x26_2 = some r) ∧ Aside0 (kq ≤ k) ∧ Drawn0 w wc)
 case first =>
  have H := HC3.out
  clear HC3
  by_cases c4 : t205 < 1
  · rw [if_pos c4] at H
    have c4b0 : decide (t205 < 1) = true := decide_eq_true c4
    clear c4
    (first | rw [c4b0] | (simp only [i64_w, i32_w]; rw [c4b0]) | skip)
    have H' := Aside0.mk H
    clear H
    go_wp2
    go_meet
    case rel => exact ⟨_, (true), (by first | rfl | (simp; done) | (simp [*]; done)), H', ⟨by first | omega | exact Nat.le_refl _⟩, by repeat (first | exact Drawn0.refl _ | apply Drawn0.step)⟩
  · rw [if_neg c4] at H
    have c4b0 : decide (t205 < 1) = false := decide_eq_false c4
    clear c4
    (first | rw [c4b0] | (simp only [i64_w, i32_w]; rw [c4b0]) | skip)
    by_cases c5 : t205 > 24
    · rw [if_pos c5] at H
      have c5b0 : decide (24 < t205) = true := decide_eq_true c5
      clear c5
      have H' := Aside0.mk H
      clear H
      go_wp2
      go_meet
      case rel => exact ⟨_, (true), (by first | rfl | (simp; done) | (simp [*]; done)), H', ⟨by first | omega | exact Nat.le_refl _⟩, by repeat (first | exact Drawn0.refl _ | apply Drawn0.step)⟩
    · rw [if_neg c5] at H
      have c5b0 : decide (24 < t205) = false := decide_eq_false c5
      clear c5
      by_cases c6 : 0 < (a0.size : Int)
      · rw [if_pos c6] at H
        have c6b0 : decide (0 < (a0.size : Int)) = true := decide_eq_true c6
        have c6b1 : decide (0 < a0.size) = true := decide_eq_true (by omega)
        clear c6
        replace H := Option.bind_eq_some_iff.mp H
        obtain ⟨t206, A80, H⟩ := H
        replace H : (if t206 = true then (if 0 ≤ (wrap64 (t205 + 1)) then (if (wrap64 (t205 + 1)) ≤ (a0.size : Int) then ((voussoirref27_digits.f k (a0.extract ((wrap64 (t205 + 1)) : Int).toNat a0.size) 9).bind fun t207 => (voussoirref27_Id.j0 k a0 t205 (decide (t207 < 1)))) else (none)) else (none)) else (voussoirref27_Id.j0 k a0 t205 true)) = some r := H
        have A8 := Aside0.mk A80
        clear A80
        by_cases c9 : t206 = true
        · subst c9
          have H1 : (if 0 ≤ (wrap64 (t205 + 1)) then (if (wrap64 (t205 + 1)) ≤ (a0.size : Int) then ((voussoirref27_digits.f k (a0.extract ((wrap64 (t205 + 1)) : Int).toNat a0.size) 9).bind fun t207 => (voussoirref27_Id.j0 k a0 t205 (decide (t207 < 1)))) else (none)) else (none)) = some r := by rw [if_pos rfl] at H; exact H
          clear H
          have H := H1
          clear H1
          obtain ⟨ji10, hji10⟩ : ∃ j_ : Int, (wrap64 (t205 + 1)) = j_ := ⟨_, rfl⟩
          replace H : (if 0 ≤ (ji10) then (if (ji10) ≤ (a0.size : Int) then ((voussoirref27_digits.f k (a0.extract ((ji10) : Int).toNat a0.size) 9).bind fun t207 => (voussoirref27_Id.j0 k a0 t205 (decide (t207 < 1)))) else (none)) else (none)) = some r := by first | (rw [hji10] at H; exact H) | (simp only [hji10] at H ⊢; exact H)
          (try rw [hji10] at A8)
          have hji10w : (IntKind.i64.wrap (t205 + 1)) = ji10 := (i64_w _).trans hji10
          by_cases c11 : 0 ≤ (ji10)
          · rw [if_pos c11] at H
            have c11b0 := eq_true c11
            have c11b1 : decide (0 ≤ (ji10)) = true := decide_eq_true c11
            clear c11
            by_cases c12 : (ji10) ≤ (a0.size : Int)
            · rw [if_pos c12] at H
              have c12b0 := eq_true c12
              have c12b1 : decide ((ji10) ≤ (a0.size : Int)) = true := decide_eq_true c12
              clear c12
              replace H := Option.bind_eq_some_iff.mp H
              obtain ⟨t207, A130, H⟩ := H
              replace H : (voussoirref27_Id.j0 k a0 t205 (decide (t207 < 1))) = some r := H
              have A13 := Aside0.mk A130
              clear A130
              have H' := Aside0.mk H
              clear H
              have p7 : 0 ≤ (0 : Int) := (by omega)
              have q7 : 0 < a0.size := (by have : (0 : Int) < (a0.size : Int) := of_decide_eq_true (by assumption); omega)
              have hx7 : ∀ h : 0 < a0.size, ((a0[0]'h).toNat : Int) = bt a0 0 := bt_at a0 0
              clear p7
              have qi7 : (0 < (a0.size : Int)) = True := eq_true (of_decide_eq_true (by assumption))
              replace q7 := eq_true q7
              go_wp2_with (first | (go_at_call 61; (with_reducible refine (voussoirref27_small.calls (bt a0 0) true _ A8.out).mono ?_); rintro e w' ⟨rfl, ⟨nd, rfl⟩⟩) | (go_at_call 62; (with_reducible refine (voussoirref27_digits.calls k (a0.extract ((ji10) : Int).toNat a0.size) 9 t207 _ A13.out).mono ?_); rintro e w' ⟨rfl, ⟨nd, rfl⟩⟩))
              go_meet
              case rel => exact ⟨_, (decide (t207 < 1)), (by first | rfl | (simp; done) | (simp [*]; done)), H', ⟨by first | omega | exact Nat.le_refl _⟩, by repeat (first | exact Drawn0.refl _ | apply Drawn0.step)⟩
            · rw [if_neg c12] at H
              exact absurd H (by simp)
          · rw [if_neg c11] at H
            exact absurd H (by simp)
        · replace c9 := Bool.eq_false_iff.mpr c9
          subst c9
          have H1 : (voussoirref27_Id.j0 k a0 t205 true) = some r := by rw [if_neg (show ¬ (false = true) by decide)] at H; exact H
          clear H
          have H := H1
          clear H1
          have H' := Aside0.mk H
          clear H
          have p7 : 0 ≤ (0 : Int) := (by omega)
          have q7 : 0 < a0.size := (by have : (0 : Int) < (a0.size : Int) := of_decide_eq_true (by assumption); omega)
          have hx7 : ∀ h : 0 < a0.size, ((a0[0]'h).toNat : Int) = bt a0 0 := bt_at a0 0
          clear p7
          have qi7 : (0 < (a0.size : Int)) = True := eq_true (of_decide_eq_true (by assumption))
          replace q7 := eq_true q7
          go_wp2_with (first | (go_at_call 61; (with_reducible refine (voussoirref27_small.calls (bt a0 0) false _ A8.out).mono ?_); rintro e w' ⟨rfl, ⟨nd, rfl⟩⟩))
          go_meet
          case rel => exact ⟨_, (true), (by first | rfl | (simp; done) | (simp [*]; done)), H', ⟨by first | omega | exact Nat.le_refl _⟩, by repeat (first | exact Drawn0.refl _ | apply Drawn0.step)⟩
      · rw [if_neg c6] at H
        exact absurd H (by simp)
 case rest =>
  clear HC3
  try clear c1
  try clear p2
  try clear c4
  try clear c4b0
  try clear c5
  try clear c5b0
  try clear c6
  try clear c6b0
  try clear c6b1
  try clear p6
  try clear p7
  try clear q7
  try clear hx7
  try clear qi7
  try clear c9
  try clear c11
  try clear c11b0
  try clear c11b1
  try clear c12
  try clear c12b0
  try clear c12b1
  try clear p7
  try clear q7
  obtain ⟨kq, x26_2, rfl, HA, HJ2, ⟨mc2, rfl⟩⟩ := hcut
  cases kq with
  | zero => exact absurd HA.out (by simp [voussoirref27_Id.j0])
  | succ kj2 =>
   have H := HA.out
   clear HA
   simp only [voussoirref27_Id.j0] at H
   by_cases c14 : x26_2 = true
   · subst c14
     have H1 : (some 0) = some r := by rw [if_pos rfl] at H; exact H
     clear H
     have H := H1
     clear H1
     obtain rfl := Option.some.inj H
     go_wp2
     go_ret
     exact ⟨by first | rfl | (simp; done) | (simp [*]; done), by repeat (first | exact Drawn0.refl _ | apply Drawn0.step)⟩
   · replace c14 := Bool.eq_false_iff.mpr c14
     subst c14
     have H1 : (voussoirref27_Id.l0 kj2 a0 t205 0) = some r := by rw [if_neg (show ¬ (false = true) by decide)] at H; exact H
     clear H
     have H := H1
     clear H1
     have H' := Aside0.mk H
     clear H
     go_wp2
     go_loopg [4] kj2 (fun kq v4 w' => ∃ (x4_2 : Int), v4 = .int .i64 x4_2 ∧ Aside0 (voussoirref27_Id.l0 kq a0 t205 x4_2 = some r) ∧ Aside0 (kq ≤ kj2) ∧ Drawn0 w w')
     case atStart => exact ⟨(0), (by first | rfl | (simp; done) | (simp [*]; done)), H', ⟨Nat.le_refl _⟩, by repeat (first | exact Drawn0.refl _ | apply Drawn0.step)⟩
     case round =>
      clear H'
      try clear c1
      try clear c2
      try clear p2
      try clear c4
      try clear c4b0
      try clear c5
      try clear c5b0
      try clear c6
      try clear c6b0
      try clear c6b1
      try clear p6
      try clear p7
      try clear q7
      try clear hx7
      try clear qi7
      try clear c9
      try clear c11
      try clear c11b0
      try clear c11b1
      try clear c12
      try clear c12b0
      try clear c12b1
      try clear c14
      try clear p2
      try clear p6
      try clear p7
      try clear q7
      obtain ⟨x4_2, rfl, HA, HK2, ⟨m2, rfl⟩⟩ := hrel
      cases gk with
      | zero => exact absurd HA.out (by simp [voussoirref27_Id.l0])
      | succ k2 =>
       have H := HA.out
       clear HA
       simp only [voussoirref27_Id.l0] at H
       by_cases c15 : x4_2 < t205
       · rw [if_pos c15] at H
         have c15b0 : decide (x4_2 < t205) = true := decide_eq_true c15
         clear c15
         by_cases c16 : 0 ≤ x4_2
         · rw [if_pos c16] at H
           have c16b0 : decide (0 ≤ x4_2) = true := decide_eq_true c16
           clear c16
           by_cases c17 : x4_2 < (a0.size : Int)
           · rw [if_pos c17] at H
             have c17b0 : decide (x4_2 < (a0.size : Int)) = true := decide_eq_true c17
             clear c17
             replace H := Option.bind_eq_some_iff.mp H
             obtain ⟨t208, A190, H⟩ := H
             replace H : (if t208 = true then (voussoirref27_Id.l0 k2 a0 t205 (wrap64 (x4_2 + 1))) else (if (bt a0 x4_2) < 48 then (some 0) else (if (bt a0 x4_2) > 57 then (some 0) else (voussoirref27_Id.l0 k2 a0 t205 (wrap64 (x4_2 + 1)))))) = some r := H
             have A19 := Aside0.mk A190
             clear A190
             by_cases c20 : t208 = true
             · subst c20
               have H1 : (voussoirref27_Id.l0 k2 a0 t205 (wrap64 (x4_2 + 1))) = some r := by rw [if_pos rfl] at H; exact H
               clear H
               have H := H1
               clear H1
               have H' := Aside0.mk H
               clear H
               have p18 : 0 ≤ (x4_2 : Int) := of_decide_eq_true (by assumption)
               have q18 : x4_2 < (a0.size : Int) := of_decide_eq_true (by assumption)
               have hx18 := bt_at a0 x4_2
               replace p18 := eq_true p18
               replace q18 := eq_true q18
               go_wp2_with (first | ((with_reducible refine gate_callee (f := 61) rfl ?_); refine goesL_ (some 35) rfl rfl Tryz.func61 (by kernel_rfl) rfl #[.int .u8 (bt a0 x4_2)] rfl (by first | rfl | (simp only [List.map_toArray, List.map_cons, List.map_nil, List.length_drop, List.length_take]; try rfl)) ?_; (with_reducible refine (voussoirref27_small.calls (bt a0 x4_2) true _ A19.out).mono ?_); rintro e w' ⟨rfl, ⟨nd, rfl⟩⟩; refine ⟨_, rfl, ?_⟩))
               go_roundg k2
               case measure => have := HJ2.out; have := HK2.out; omega
               case rel => exact ⟨(wrap64 (x4_2 + 1)), (by first | rfl | (simp; done) | (simp [*]; done)), H', ⟨by have := HJ2.out; have := HK2.out; omega⟩, by repeat (first | exact Drawn0.refl _ | apply Drawn0.step)⟩
             · replace c20 := Bool.eq_false_iff.mpr c20
               subst c20
               have H1 : (if (bt a0 x4_2) < 48 then (some 0) else (if (bt a0 x4_2) > 57 then (some 0) else (voussoirref27_Id.l0 k2 a0 t205 (wrap64 (x4_2 + 1))))) = some r := by rw [if_neg (show ¬ (false = true) by decide)] at H; exact H
               clear H
               have H := H1
               clear H1
               by_cases c22 : (bt a0 x4_2) < 48
               · rw [if_pos c22] at H
                 have c22b0 : decide ((bt a0 x4_2) < 48) = true := decide_eq_true c22
                 clear c22
                 obtain rfl := Option.some.inj H
                 have p18 : 0 ≤ (x4_2 : Int) := of_decide_eq_true (by assumption)
                 have q18 : x4_2 < (a0.size : Int) := of_decide_eq_true (by assumption)
                 have hx18 := bt_at a0 x4_2
                 replace p18 := eq_true p18
                 replace q18 := eq_true q18
                 go_wp2_with (first | ((with_reducible refine gate_callee (f := 61) rfl ?_); refine goesL_ (some 35) rfl rfl Tryz.func61 (by kernel_rfl) rfl #[.int .u8 (bt a0 x4_2)] rfl (by first | rfl | (simp only [List.map_toArray, List.map_cons, List.map_nil, List.length_drop, List.length_take]; try rfl)) ?_; (with_reducible refine (voussoirref27_small.calls (bt a0 x4_2) false _ A19.out).mono ?_); rintro e w' ⟨rfl, ⟨nd, rfl⟩⟩; refine ⟨_, rfl, ?_⟩; have p21 : 0 ≤ (x4_2 : Int) := of_decide_eq_true (by assumption); have q21 : x4_2 < (a0.size : Int) := of_decide_eq_true (by assumption); have hx21 := bt_at a0 x4_2; replace p21 := eq_true p21; replace q21 := eq_true q21))
                 go_ret
                 exact ⟨by first | rfl | (simp; done) | (simp [*]; done), by repeat (first | exact Drawn0.refl _ | apply Drawn0.step)⟩
               · rw [if_neg c22] at H
                 have c22b0 : decide ((bt a0 x4_2) < 48) = false := decide_eq_false c22
                 clear c22
                 by_cases c24 : (bt a0 x4_2) > 57
                 · rw [if_pos c24] at H
                   have c24b0 : decide (57 < (bt a0 x4_2)) = true := decide_eq_true c24
                   clear c24
                   obtain rfl := Option.some.inj H
                   have p18 : 0 ≤ (x4_2 : Int) := of_decide_eq_true (by assumption)
                   have q18 : x4_2 < (a0.size : Int) := of_decide_eq_true (by assumption)
                   have hx18 := bt_at a0 x4_2
                   replace p18 := eq_true p18
                   replace q18 := eq_true q18
                   go_wp2_with (first | ((with_reducible refine gate_callee (f := 61) rfl ?_); refine goesL_ (some 35) rfl rfl Tryz.func61 (by kernel_rfl) rfl #[.int .u8 (bt a0 x4_2)] rfl (by first | rfl | (simp only [List.map_toArray, List.map_cons, List.map_nil, List.length_drop, List.length_take]; try rfl)) ?_; (with_reducible refine (voussoirref27_small.calls (bt a0 x4_2) false _ A19.out).mono ?_); rintro e w' ⟨rfl, ⟨nd, rfl⟩⟩; refine ⟨_, rfl, ?_⟩; have p21 : 0 ≤ (x4_2 : Int) := of_decide_eq_true (by assumption); have q21 : x4_2 < (a0.size : Int) := of_decide_eq_true (by assumption); have hx21 := bt_at a0 x4_2; replace p21 := eq_true p21; replace q21 := eq_true q21; have p23 : 0 ≤ (x4_2 : Int) := of_decide_eq_true (by assumption); have q23 : x4_2 < (a0.size : Int) := of_decide_eq_true (by assumption); have hx23 := bt_at a0 x4_2; replace p23 := eq_true p23; replace q23 := eq_true q23))
                   go_ret
                   exact ⟨by first | rfl | (simp; done) | (simp [*]; done), by repeat (first | exact Drawn0.refl _ | apply Drawn0.step)⟩
                 · rw [if_neg c24] at H
                   have c24b0 : decide (57 < (bt a0 x4_2)) = false := decide_eq_false c24
                   clear c24
                   have H' := Aside0.mk H
                   clear H
                   have p18 : 0 ≤ (x4_2 : Int) := of_decide_eq_true (by assumption)
                   have q18 : x4_2 < (a0.size : Int) := of_decide_eq_true (by assumption)
                   have hx18 := bt_at a0 x4_2
                   replace p18 := eq_true p18
                   replace q18 := eq_true q18
                   go_wp2_with (first | ((with_reducible refine gate_callee (f := 61) rfl ?_); refine goesL_ (some 35) rfl rfl Tryz.func61 (by kernel_rfl) rfl #[.int .u8 (bt a0 x4_2)] rfl (by first | rfl | (simp only [List.map_toArray, List.map_cons, List.map_nil, List.length_drop, List.length_take]; try rfl)) ?_; (with_reducible refine (voussoirref27_small.calls (bt a0 x4_2) false _ A19.out).mono ?_); rintro e w' ⟨rfl, ⟨nd, rfl⟩⟩; refine ⟨_, rfl, ?_⟩; have p21 : 0 ≤ (x4_2 : Int) := of_decide_eq_true (by assumption); have q21 : x4_2 < (a0.size : Int) := of_decide_eq_true (by assumption); have hx21 := bt_at a0 x4_2; replace p21 := eq_true p21; replace q21 := eq_true q21; have p23 : 0 ≤ (x4_2 : Int) := of_decide_eq_true (by assumption); have q23 : x4_2 < (a0.size : Int) := of_decide_eq_true (by assumption); have hx23 := bt_at a0 x4_2; replace p23 := eq_true p23; replace q23 := eq_true q23))
                   go_roundg k2
                   case measure => have := HJ2.out; have := HK2.out; omega
                   case rel => exact ⟨(wrap64 (x4_2 + 1)), (by first | rfl | (simp; done) | (simp [*]; done)), H', ⟨by have := HJ2.out; have := HK2.out; omega⟩, by repeat (first | exact Drawn0.refl _ | apply Drawn0.step)⟩
           · rw [if_neg c17] at H
             exact absurd H (by simp)
         · rw [if_neg c16] at H
           exact absurd H (by simp)
       · rw [if_neg c15] at H
         have c15b0 : decide (x4_2 < t205) = false := decide_eq_false c15
         clear c15
         obtain rfl := Option.some.inj H
         go_wp2
         go_ret
         exact ⟨by first | rfl | (simp; done) | (simp [*]; done), by repeat (first | exact Drawn0.refl _ | apply Drawn0.step)⟩
def voussoirref27_Role.l0 : Nat → ByteArray → Int → Option (Int)
 | 0, _, _ => none
 | k + 1, x0, x3 => if x3 < (x0.size : Int) then (if 0 ≤ x3 then ((voussoirref27_small.f (bt x0 x3)).bind fun t209 => (if t209 = true then (voussoirref27_Role.l0 k x0 (wrap64 (x3 + 1))) else (some 0))) else (none)) else (if (x0.size : Int) < 1 then (some 0) else (if (x0.size : Int) > 12 then (some 0) else (some 1)))
def voussoirref27_Role.f (k : Nat) (a0 : ByteArray) : Option (Int) := voussoirref27_Role.l0 k a0 0
set_option maxHeartbeats 8000000 in
set_option maxRecDepth 100000 in
theorem voussoirref27_Role.calls (k : Nat) (a0 : ByteArray) (r : Int) (w : World) (h : voussoirref27_Role.f k a0 = some r) :
 Calls Tryz.prog 49 #[.string a0] w fun e w' => e = .returned (.int .i64 r) ∧ Drawn0 w w' := by
 have H : (voussoirref27_Role.l0 k a0 0) = some r := h
 clear h
 have H' := Aside0.mk H
 clear H
 go_enter Tryz.func49, Tryz.ntmps49
 go_wp2
 go_loopg [3] k (fun kq v3 w' => ∃ (x3_1 : Int), v3 = .int .i64 x3_1 ∧ Aside0 (voussoirref27_Role.l0 kq a0 x3_1 = some r) ∧ Aside0 (kq ≤ k) ∧ Drawn0 w w')
 case atStart => exact ⟨(0), (by first | rfl | (simp; done) | (simp [*]; done)), H', ⟨Nat.le_refl _⟩, by repeat (first | exact Drawn0.refl _ | apply Drawn0.step)⟩
 case round =>
  clear H'
  obtain ⟨x3_1, rfl, HA, HK1, ⟨m1, rfl⟩⟩ := hrel
  cases gk with
  | zero => exact absurd HA.out (by simp [voussoirref27_Role.l0])
  | succ k1 =>
   have H := HA.out
   clear HA
   simp only [voussoirref27_Role.l0] at H
   by_cases c2 : x3_1 < (a0.size : Int)
   · rw [if_pos c2] at H
     have c2b0 : decide (x3_1 < (a0.size : Int)) = true := decide_eq_true c2
     clear c2
     by_cases c3 : 0 ≤ x3_1
     · rw [if_pos c3] at H
       have c3b0 : decide (0 ≤ x3_1) = true := decide_eq_true c3
       clear c3
       replace H := Option.bind_eq_some_iff.mp H
       obtain ⟨t209, A50, H⟩ := H
       replace H : (if t209 = true then (voussoirref27_Role.l0 k1 a0 (wrap64 (x3_1 + 1))) else (some 0)) = some r := H
       have A5 := Aside0.mk A50
       clear A50
       by_cases c6 : t209 = true
       · subst c6
         have H1 : (voussoirref27_Role.l0 k1 a0 (wrap64 (x3_1 + 1))) = some r := by rw [if_pos rfl] at H; exact H
         clear H
         have H := H1
         clear H1
         have H' := Aside0.mk H
         clear H
         have p4 : 0 ≤ (x3_1 : Int) := of_decide_eq_true (by assumption)
         have q4 : x3_1 < (a0.size : Int) := of_decide_eq_true (by assumption)
         have hx4 := bt_at a0 x3_1
         replace p4 := eq_true p4
         replace q4 := eq_true q4
         go_wp2_with (first | ((with_reducible refine gate_callee (f := 61) rfl ?_); refine goesL_ (some 13) rfl rfl Tryz.func61 (by kernel_rfl) rfl #[.int .u8 (bt a0 x3_1)] rfl (by first | rfl | (simp only [List.map_toArray, List.map_cons, List.map_nil, List.length_drop, List.length_take]; try rfl)) ?_; (with_reducible refine (voussoirref27_small.calls (bt a0 x3_1) true _ A5.out).mono ?_); rintro e w' ⟨rfl, ⟨nd, rfl⟩⟩; refine ⟨_, rfl, ?_⟩))
         go_roundg k1
         case measure => have := HK1.out; omega
         case rel => exact ⟨(wrap64 (x3_1 + 1)), (by first | rfl | (simp; done) | (simp [*]; done)), H', ⟨by have := HK1.out; omega⟩, by repeat (first | exact Drawn0.refl _ | apply Drawn0.step)⟩
       · replace c6 := Bool.eq_false_iff.mpr c6
         subst c6
         have H1 : (some 0) = some r := by rw [if_neg (show ¬ (false = true) by decide)] at H; exact H
         clear H
         have H := H1
         clear H1
         obtain rfl := Option.some.inj H
         have p4 : 0 ≤ (x3_1 : Int) := of_decide_eq_true (by assumption)
         have q4 : x3_1 < (a0.size : Int) := of_decide_eq_true (by assumption)
         have hx4 := bt_at a0 x3_1
         replace p4 := eq_true p4
         replace q4 := eq_true q4
         go_wp2_with (first | ((with_reducible refine gate_callee (f := 61) rfl ?_); refine goesL_ (some 13) rfl rfl Tryz.func61 (by kernel_rfl) rfl #[.int .u8 (bt a0 x3_1)] rfl (by first | rfl | (simp only [List.map_toArray, List.map_cons, List.map_nil, List.length_drop, List.length_take]; try rfl)) ?_; (with_reducible refine (voussoirref27_small.calls (bt a0 x3_1) false _ A5.out).mono ?_); rintro e w' ⟨rfl, ⟨nd, rfl⟩⟩; refine ⟨_, rfl, ?_⟩))
         go_ret
         exact ⟨by first | rfl | (simp; done) | (simp [*]; done), by repeat (first | exact Drawn0.refl _ | apply Drawn0.step)⟩
     · rw [if_neg c3] at H
       exact absurd H (by simp)
   · rw [if_neg c2] at H
     have c2b0 : decide (x3_1 < (a0.size : Int)) = false := decide_eq_false c2
     clear c2
     by_cases c7 : (a0.size : Int) < 1
     · rw [if_pos c7] at H
       have c7b0 : decide ((a0.size : Int) < 1) = true := decide_eq_true c7
       have c7b1 : decide (a0.size < 1) = true := decide_eq_true (by omega)
       clear c7
       obtain rfl := Option.some.inj H
       go_wp2
       go_ret
       exact ⟨by first | rfl | (simp; done) | (simp [*]; done), by repeat (first | exact Drawn0.refl _ | apply Drawn0.step)⟩
     · rw [if_neg c7] at H
       have c7b0 : decide ((a0.size : Int) < 1) = false := decide_eq_false c7
       have c7b1 : decide (a0.size < 1) = false := decide_eq_false (by omega)
       clear c7
       by_cases c8 : (a0.size : Int) > 12
       · rw [if_pos c8] at H
         have c8b0 : decide (12 < (a0.size : Int)) = true := decide_eq_true c8
         have c8b1 : decide (12 < a0.size) = true := decide_eq_true (by omega)
         clear c8
         obtain rfl := Option.some.inj H
         go_wp2
         go_ret
         exact ⟨by first | rfl | (simp; done) | (simp [*]; done), by repeat (first | exact Drawn0.refl _ | apply Drawn0.step)⟩
       · rw [if_neg c8] at H
         have c8b0 : decide (12 < (a0.size : Int)) = false := decide_eq_false c8
         have c8b1 : decide (12 < a0.size) = false := decide_eq_false (by omega)
         clear c8
         obtain rfl := Option.some.inj H
         go_wp2
         go_ret
         exact ⟨by first | rfl | (simp; done) | (simp [*]; done), by repeat (first | exact Drawn0.refl _ | apply Drawn0.step)⟩
def voussoirref27_dec.f : Nat → Int → Option (ByteArray)
 | 0, _ => none
 | k + 1, a0 => if a0 < 10 then (some (strOfNums (([(wrap64 (48 + a0)) % 256] : List Int)))) else ((voussoirref27_dec.f k (wrap64 (Int.tdiv a0 10))).bind fun t213 => ((voussoirref27_dec.f k (Int.tmod a0 10)).bind fun t214 => (if t213.size + t214.size ≤ 9223372036854775807 then (some (t213 ++ t214)) else (none))))
set_option maxHeartbeats 8000000 in
set_option maxRecDepth 100000 in
theorem voussoirref27_dec.calls (k : Nat) : ∀ (a0 : Int) (r : ByteArray) (w : World) (h : voussoirref27_dec.f k a0 = some r),
 Calls Tryz.prog 50 #[.int .i64 a0] w fun e w' => e = .returned (.string r) ∧ Below w.heap.size w w' := by
 induction k using Nat.strongRecOn with
 | _ k ih =>
 intro a0 r w h
 cases k with
 | zero => exact absurd h (by simp [voussoirref27_dec.f])
 | succ k =>
 simp only [voussoirref27_dec.f] at h
 have HB := Aside0.mk (Below.refl w.heap.size w)
 have H : (if a0 < 10 then (some (strOfNums (([(wrap64 (48 + a0)) % 256] : List Int)))) else ((voussoirref27_dec.f k (wrap64 (Int.tdiv a0 10))).bind fun t213 => ((voussoirref27_dec.f k (Int.tmod a0 10)).bind fun t214 => (if t213.size + t214.size ≤ 9223372036854775807 then (some (t213 ++ t214)) else (none))))) = some r := h
 clear h
 by_cases c2 : a0 < 10
 · rw [if_pos c2] at H
   have c2b0 : decide (a0 < 10) = true := decide_eq_true c2
   clear c2
   obtain ⟨y210, hy210⟩ : ∃ y_ : List Int, y_ = (([(wrap64 (48 + a0)) % 256] : List Int)) := ⟨_, rfl⟩
   replace H : (some (strOfNums y210)) = some r := by first | (rw [hy210]; with_reducible exact H) | (have H2_ := (Option.bind_some _ _).symm.trans H; rw [hy210]; with_reducible exact H2_) | (have H2_ := (Option.bind_some _ _).symm.trans H; with_reducible exact H2_) | with_reducible exact H | (rw [hy210]; exact H) | exact H
   have Ny210 := Aside0.mk hy210
   clear hy210
   obtain rfl := Option.some.inj H
   go_enter Tryz.func50, Tryz.ntmps50
   go_wp2_with (first | ((with_reducible refine gate_dst (N := 8) rfl ?_); refine Kd.R_lit (Kd.int .u8) _ 5 ?hg (N := 8) ?hd (xs := ([(wrap64 (48 + a0)) % 256] : List Int)) (inner := [.int .u8 ((wrap64 (48 + a0)) % 256)]) (ok := fun _ => True) (okp := fun _ => True) ?hr ?hp (fun _ hk => hk) trivial (Below.refl _ _) (Nat.le_refl _) (by simp) ?_; (case hd => rfl); (case hg => rfl); (case hr => first | (go_simp; done) | (go_simp; rfl)); (case hp => exact (Reps.one (show Kd.M (Kd.int .u8) _ _ _ ((wrap64 (48 + a0)) % 256) [.int .u8 ((wrap64 (48 + a0)) % 256)] from rfl) (Reps.none _ _))); intro v211 w3 ho4 hb hg_ hnew_; clear hg_ hnew_; (first | rw [← Ny210.out] at ho4 | (simp only [Int.reduceToNat] at ho4; rw [← Ny210.out] at ho4)); have n0_ := Aside0.mk (Kd.R_lower ho4 (below_size (by repeat (first | with_reducible exact HB.out | apply below_alloc | apply pw_below_drewN | apply below_drew1)))); have n1_ := Aside0.mk (below_step (by repeat (first | with_reducible exact HB.out | apply below_alloc | apply pw_below_drewN | apply below_drew1)) hb); clear HB; have HO212 := n0_; have HB := n1_; clear n0_ n1_; clear hb ho4; have hcv5 := own_string (P := Tryz.prog) Tryz.underlying91 Tryz.underlying5 Tryz.underlying9 (Kd.own_of_R HO212.out)))
   go_ret
   exact ⟨by first | rfl | (simp [*, errW_none, errW_some] <;> rfl), by repeat (first | with_reducible exact HB.out | apply below_alloc | apply pw_below_drewN | apply below_drew1)⟩
 · rw [if_neg c2] at H
   have c2b0 : decide (a0 < 10) = false := decide_eq_false c2
   clear c2
   replace H := Option.bind_eq_some_iff.mp H
   obtain ⟨t213, A60, H⟩ := H
   replace H : ((voussoirref27_dec.f k (Int.tmod a0 10)).bind fun t214 => (if t213.size + t214.size ≤ 9223372036854775807 then (some (t213 ++ t214)) else (none))) = some r := H
   have A6 := Aside0.mk A60
   clear A60
   replace H := Option.bind_eq_some_iff.mp H
   obtain ⟨t214, A70, H⟩ := H
   replace H : (if t213.size + t214.size ≤ 9223372036854775807 then (some (t213 ++ t214)) else (none)) = some r := H
   have A7 := Aside0.mk A70
   clear A70
   by_cases c8 : t213.size + t214.size ≤ 9223372036854775807
   · rw [if_pos c8] at H
     have c8b0 := eq_true c8
     have c8b1 : decide (t213.size + t214.size ≤ 9223372036854775807) = true := decide_eq_true c8
     try have c8b2 : (9223372036854775807 < t213.size + t214.size) = False := eq_false (Nat.not_lt.2 c8)
     obtain rfl := Option.some.inj H
     go_enter Tryz.func50, Tryz.ntmps50
     go_wp2_with (first | ((with_reducible refine gate_callee (f := 50) rfl ?_); refine goesL_ (some 12) rfl rfl Tryz.func50 (by kernel_rfl) rfl #[.int .i64 (wrap64 (Int.tdiv a0 10))] rfl (by first | rfl | (simp only [List.map_toArray, List.map_cons, List.map_nil, List.length_drop, List.length_take]; try rfl)) ?_; (with_reducible refine (ih k (by omega) (wrap64 (Int.tdiv a0 10)) t213 _ A6.out).mono ?_); rintro e w9 ⟨rfl, hb⟩; refine ⟨_, rfl, ?_⟩; have n0_ := Aside0.mk (below_step (by repeat (first | with_reducible exact HB.out | apply below_alloc | apply pw_below_drewN | apply below_drew1)) hb); clear HB; have HB := n0_; clear n0_; (try clear hb); (try clear hb2); (try clear hk); (try clear hi)) | ((with_reducible refine gate_callee (f := 50) rfl ?_); refine goesL_ (some 15) rfl rfl Tryz.func50 (by kernel_rfl) rfl #[.int .i64 (Int.tmod a0 10)] rfl (by first | rfl | (simp only [List.map_toArray, List.map_cons, List.map_nil, List.length_drop, List.length_take]; try rfl)) ?_; (with_reducible refine (ih k (by omega) (Int.tmod a0 10) t214 _ A7.out).mono ?_); rintro e w10 ⟨rfl, hb⟩; refine ⟨_, rfl, ?_⟩; have n0_ := Aside0.mk (below_step (by repeat (first | with_reducible exact HB.out | apply below_alloc | apply pw_below_drewN | apply below_drew1)) hb); clear HB; have HB := n0_; clear n0_; (try clear hb); (try clear hb2); (try clear hk); (try clear hi)))
     go_ret
     exact ⟨by first | rfl | (simp [*, errW_none, errW_some] <;> rfl), by repeat (first | with_reducible exact HB.out | apply below_alloc | apply pw_below_drewN | apply below_drew1)⟩
   · rw [if_neg c8] at H
     exact absurd H (by simp)
def voussoirref27_Make.j0 : Nat → ByteArray → ByteArray → Int → Bool → Option (ByteArray × Int)
 | 0, _, _, _, _ => none
 | k + 1, x0, x1, x2, x15 => if x15 = true then (some ((⟨#[]⟩ : ByteArray), 7)) else (if x2 < 0 then (some ((⟨#[]⟩ : ByteArray), 2)) else (if x2 > 999 then (some ((⟨#[]⟩ : ByteArray), 2)) else (if x0.size + 1 ≤ 9223372036854775807 then (if (x0 ++ (⟨#[58]⟩ : ByteArray)).size + x1.size ≤ 9223372036854775807 then ((voussoirref27_dec.f k x2).bind fun t217 => (if ((x0 ++ (⟨#[58]⟩ : ByteArray)) ++ x1).size + t217.size ≤ 9223372036854775807 then (some (((x0 ++ (⟨#[58]⟩ : ByteArray)) ++ x1) ++ t217, 0)) else (none))) else (none)) else (none))))
def voussoirref27_Make.f (k : Nat) (a0 : ByteArray) (a1 : ByteArray) (a2 : Int) : Option (ByteArray × Int) := (voussoirref27_Id.f k a0).bind fun t215 => (if t215 = 0 then (voussoirref27_Make.j0 k a0 a1 a2 true) else ((voussoirref27_Role.f k a1).bind fun t216 => (voussoirref27_Make.j0 k a0 a1 a2 (t216 == 0))))
set_option maxHeartbeats 8000000 in
set_option maxRecDepth 100000 in
theorem voussoirref27_Make.calls (k : Nat) (a0 : ByteArray) (a1 : ByteArray) (a2 : Int) (r1 : ByteArray) (r2 : Int) (w : World) (h : voussoirref27_Make.f k a0 a1 a2 = some (r1, r2)) :
 Calls Tryz.prog 36 #[.string a0, .string a1, .int .i64 a2] w fun e w' => e = .returned (.tuple #[.string r1, .int .i64 r2]) ∧ Below w.heap.size w w' := by
 have HB := Aside0.mk (Below.refl w.heap.size w)
 have H : ((voussoirref27_Id.f k a0).bind fun t215 => (if t215 = 0 then (voussoirref27_Make.j0 k a0 a1 a2 true) else ((voussoirref27_Role.f k a1).bind fun t216 => (voussoirref27_Make.j0 k a0 a1 a2 (t216 == 0))))) = some (r1, r2) := h
 clear h
 have HC4 := Aside0.mk H
 clear H
 go_enter Tryz.func36, Tryz.ntmps36
 go_upto_region 1 with (fail)
 go_cut [15] (fun v15 wc => ∃ (kq : Nat) (x15_3 : Bool), v15 = .bool x15_3 ∧ Aside0 (voussoirref27_Make.j0 kq a0 a1 a2 x15_3 = some (r1, r2)) ∧ Aside0 (kq ≤ k) ∧ Aside0 (Below w.heap.size w wc))
 case first =>
  have H := HC4.out
  clear HC4
  replace H := Option.bind_eq_some_iff.mp H
  obtain ⟨t215, A50, H⟩ := H
  replace H : (if t215 = 0 then (voussoirref27_Make.j0 k a0 a1 a2 true) else ((voussoirref27_Role.f k a1).bind fun t216 => (voussoirref27_Make.j0 k a0 a1 a2 (t216 == 0)))) = some (r1, r2) := H
  have A5 := Aside0.mk A50
  clear A50
  by_cases c6 : t215 = 0
  · rw [if_pos c6] at H
    have c6b0 : (t215 == 0) = true := beq_iff_eq.mpr c6
    have c6b1 : (t215 != 0) = false := bne_eq_false_iff_eq.mpr c6
    clear c6
    (first | rw [c6b0] | (simp only [i64_w, i32_w]; rw [c6b0]) | skip)
    have H' := Aside0.mk H
    clear H
    go_wp2_with (first | ((with_reducible refine gate_callee (f := 48) rfl ?_); refine goesL_ (some 9) rfl rfl Tryz.func48 (by kernel_rfl) rfl #[.string a0] rfl (by first | rfl | (simp only [List.map_toArray, List.map_cons, List.map_nil, List.length_drop, List.length_take]; try rfl)) ?_; (with_reducible refine (voussoirref27_Id.calls k a0 t215 _ A5.out).mono ?_); rintro e w' ⟨rfl, ⟨nd, rfl⟩⟩; refine ⟨_, rfl, ?_⟩))
    go_meet
    case rel => exact ⟨_, (true), (by first | rfl | (simp; done) | (simp [*]; done)), H', ⟨by first | omega | exact Nat.le_refl _⟩, ⟨by repeat (first | with_reducible exact HB.out | apply below_alloc | apply pw_below_drewN | apply below_drew1)⟩⟩
  · rw [if_neg c6] at H
    have c6b0 : (t215 == 0) = false := beq_eq_false_iff_ne.mpr c6
    have c6b1 : (t215 != 0) = true := bne_iff_ne.mpr c6
    (first | rw [c6b0] | (simp only [i64_w, i32_w]; rw [c6b0]) | skip)
    replace H := Option.bind_eq_some_iff.mp H
    obtain ⟨t216, A70, H⟩ := H
    replace H : (voussoirref27_Make.j0 k a0 a1 a2 (t216 == 0)) = some (r1, r2) := H
    have A7 := Aside0.mk A70
    clear A70
    have H' := Aside0.mk H
    clear H
    go_wp2_with (first | ((with_reducible refine gate_callee (f := 48) rfl ?_); refine goesL_ (some 9) rfl rfl Tryz.func48 (by kernel_rfl) rfl #[.string a0] rfl (by first | rfl | (simp only [List.map_toArray, List.map_cons, List.map_nil, List.length_drop, List.length_take]; try rfl)) ?_; (with_reducible refine (voussoirref27_Id.calls k a0 t215 _ A5.out).mono ?_); rintro e w' ⟨rfl, ⟨nd, rfl⟩⟩; refine ⟨_, rfl, ?_⟩) | (go_at_call 49; (with_reducible refine (voussoirref27_Role.calls k a1 t216 _ A7.out).mono ?_); rintro e w' ⟨rfl, ⟨nd, rfl⟩⟩))
    go_meet
    case rel => exact ⟨_, ((t216 == 0)), (by first | rfl | (simp; done) | (simp [*]; done)), H', ⟨by first | omega | exact Nat.le_refl _⟩, ⟨by repeat (first | with_reducible exact HB.out | apply below_alloc | apply pw_below_drewN | apply below_drew1)⟩⟩
 case rest =>
  clear HC4
  try clear p2
  try clear c3
  try clear c4
  try clear c6
  try clear c6b0
  try clear c6b1
  obtain ⟨kq, x15_3, rfl, HA, HJ3, HB⟩ := hcut
  cases kq with
  | zero => exact absurd HA.out (by simp [voussoirref27_Make.j0])
  | succ kj3 =>
   have H := HA.out
   clear HA
   simp only [voussoirref27_Make.j0] at H
   by_cases c8 : x15_3 = true
   · subst c8
     have H1 : (some ((⟨#[]⟩ : ByteArray), 7)) = some (r1, r2) := by rw [if_pos rfl] at H; exact H
     clear H
     have H := H1
     clear H1
     simp only [Option.some.injEq, Prod.mk.injEq] at H
     obtain ⟨rfl, rfl⟩ := H
     go_wp2
     go_ret2
     exact ⟨by first | rfl | (simp [*, errW_none, errW_some] <;> rfl), by repeat (first | with_reducible exact HB.out | apply below_alloc | apply pw_below_drewN | apply below_drew1)⟩
   · replace c8 := Bool.eq_false_iff.mpr c8
     subst c8
     have H1 : (if a2 < 0 then (some ((⟨#[]⟩ : ByteArray), 2)) else (if a2 > 999 then (some ((⟨#[]⟩ : ByteArray), 2)) else (if a0.size + 1 ≤ 9223372036854775807 then (if (a0 ++ (⟨#[58]⟩ : ByteArray)).size + a1.size ≤ 9223372036854775807 then ((voussoirref27_dec.f kj3 a2).bind fun t217 => (if ((a0 ++ (⟨#[58]⟩ : ByteArray)) ++ a1).size + t217.size ≤ 9223372036854775807 then (some (((a0 ++ (⟨#[58]⟩ : ByteArray)) ++ a1) ++ t217, 0)) else (none))) else (none)) else (none)))) = some (r1, r2) := by rw [if_neg (show ¬ (false = true) by decide)] at H; exact H
     clear H
     have H := H1
     clear H1
     by_cases c9 : a2 < 0
     · rw [if_pos c9] at H
       have c9b0 : decide (a2 < 0) = true := decide_eq_true c9
       clear c9
       simp only [Option.some.injEq, Prod.mk.injEq] at H
       obtain ⟨rfl, rfl⟩ := H
       go_wp2
       go_ret2
       exact ⟨by first | rfl | (simp [*, errW_none, errW_some] <;> rfl), by repeat (first | with_reducible exact HB.out | apply below_alloc | apply pw_below_drewN | apply below_drew1)⟩
     · rw [if_neg c9] at H
       have c9b0 : decide (a2 < 0) = false := decide_eq_false c9
       clear c9
       by_cases c10 : a2 > 999
       · rw [if_pos c10] at H
         have c10b0 : decide (999 < a2) = true := decide_eq_true c10
         clear c10
         simp only [Option.some.injEq, Prod.mk.injEq] at H
         obtain ⟨rfl, rfl⟩ := H
         go_wp2
         go_ret2
         exact ⟨by first | rfl | (simp [*, errW_none, errW_some] <;> rfl), by repeat (first | with_reducible exact HB.out | apply below_alloc | apply pw_below_drewN | apply below_drew1)⟩
       · rw [if_neg c10] at H
         have c10b0 : decide (999 < a2) = false := decide_eq_false c10
         clear c10
         by_cases c11 : a0.size + 1 ≤ 9223372036854775807
         · rw [if_pos c11] at H
           have c11b0 := eq_true c11
           have c11b1 : decide (a0.size + 1 ≤ 9223372036854775807) = true := decide_eq_true c11
           try have c11b2 : (9223372036854775807 < a0.size + 1) = False := eq_false (Nat.not_lt.2 c11)
           by_cases c12 : (a0 ++ (⟨#[58]⟩ : ByteArray)).size + a1.size ≤ 9223372036854775807
           · rw [if_pos c12] at H
             have c12b0 := eq_true c12
             have c12b1 : decide ((a0 ++ (⟨#[58]⟩ : ByteArray)).size + a1.size ≤ 9223372036854775807) = true := decide_eq_true c12
             try have c12b2 : (9223372036854775807 < (a0 ++ (⟨#[58]⟩ : ByteArray)).size + a1.size) = False := eq_false (Nat.not_lt.2 c12)
             try (have c12b3 := Nat.not_lt.2 c12; simp only [Go.ByteArray.size_append', Go.ByteArray.size_mk', List.size_toArray, List.length_cons, List.length_nil, Nat.zero_add, Nat.reduceAdd] at c12b3; replace c12b3 := eq_false c12b3)
             replace H := Option.bind_eq_some_iff.mp H
             obtain ⟨t217, A130, H⟩ := H
             replace H : (if ((a0 ++ (⟨#[58]⟩ : ByteArray)) ++ a1).size + t217.size ≤ 9223372036854775807 then (some (((a0 ++ (⟨#[58]⟩ : ByteArray)) ++ a1) ++ t217, 0)) else (none)) = some (r1, r2) := H
             have A13 := Aside0.mk A130
             clear A130
             by_cases c14 : ((a0 ++ (⟨#[58]⟩ : ByteArray)) ++ a1).size + t217.size ≤ 9223372036854775807
             · rw [if_pos c14] at H
               have c14b0 := eq_true c14
               have c14b1 : decide (((a0 ++ (⟨#[58]⟩ : ByteArray)) ++ a1).size + t217.size ≤ 9223372036854775807) = true := decide_eq_true c14
               try have c14b2 : (9223372036854775807 < ((a0 ++ (⟨#[58]⟩ : ByteArray)) ++ a1).size + t217.size) = False := eq_false (Nat.not_lt.2 c14)
               try (have c14b3 := Nat.not_lt.2 c14; simp only [Go.ByteArray.size_append', Go.ByteArray.size_mk', List.size_toArray, List.length_cons, List.length_nil, Nat.zero_add, Nat.reduceAdd] at c14b3; replace c14b3 := eq_false c14b3)
               simp only [Option.some.injEq, Prod.mk.injEq] at H
               obtain ⟨rfl, rfl⟩ := H
               go_wp2_with (first | ((with_reducible refine gate_callee (f := 50) rfl ?_); refine goesL_ (some 27) rfl rfl Tryz.func50 (by kernel_rfl) rfl #[.int .i64 a2] rfl (by first | rfl | (simp only [List.map_toArray, List.map_cons, List.map_nil, List.length_drop, List.length_take]; try rfl)) ?_; (with_reducible refine (voussoirref27_dec.calls kj3 a2 t217 _ A13.out).mono ?_); rintro e w15 ⟨rfl, hb⟩; refine ⟨_, rfl, ?_⟩; have n0_ := Aside0.mk (below_step (by repeat (first | with_reducible exact HB.out | apply below_alloc | apply pw_below_drewN | apply below_drew1)) hb); clear HB; have HB := n0_; clear n0_; (try clear hb); (try clear hb2); (try clear hk); (try clear hi)))
               go_ret2
               exact ⟨by first | rfl | (simp [*, errW_none, errW_some] <;> rfl), by repeat (first | with_reducible exact HB.out | apply below_alloc | apply pw_below_drewN | apply below_drew1)⟩
             · rw [if_neg c14] at H
               exact absurd H (by simp)
           · rw [if_neg c12] at H
             exact absurd H (by simp)
         · rw [if_neg c11] at H
           exact absurd H (by simp)
end Go.Proofs.YtoccbcfjbingbaaGreatDoor.X30
