/- plane.Parse at the text of the ground plane: up() is the plane z = 0. plane.Parse at the text of the ground plane; resolve.up; resolve.Resolve at the ground. resolve.Resolve at the ground; the chapter's example (voussoirlaw28.fixed). voussoirlaw28.Great at no face and no table. -/
import Derived.Test.YtkceipkedmfeiaaGreatDoorXNall
import Derived.Test.YtkceipkedmfeiaaGreatDoorLibS
import Derived.WalkKit
import Derived.WalkSpells
import Derived.Lib.Hide
import Derived.LoopN
import Derived.Deep.RegionWith
import Derived.RegionTactic
import Derived.Outline
import Derived.KernelRfl
import Derived.Test.YtkceipkedmfeiaaGreatDoorX30x2
import Derived.Test.YtkceipkedmfeiaaGreatDoorWMore
namespace Go.Proofs.YtkceipkedmfeiaaGreatDoor.XU
open Go Go.RowKit Go.Shelf Go.Proofs.YtkceipkedmfeiaaGreatDoorW.PrintWords Go.Proofs.YtkceipkedmfeiaaGreatDoorW.PrintLast Go.Proofs.YtkceipkedmfeiaaGreatDoorW.PrintMore Go.Proofs.YtkceipkedmfeiaaGreatDoor.XN

theorem blk_new2 (w : World) (o1 o2 : Obj) : ((w.alloc o1).alloc o2).heap[w.heap.size + 1]? = some o2 := by
  have := blk_new (w.alloc o1) o2
  rwa [show (w.alloc o1).heap.size = w.heap.size + 1 from Array.size_push _] at this

set_option maxHeartbeats 800000 in
theorem plane_of_any (b0 b1 b2 b3 : Bool) (s0 s1 s2 s3 : ByteArray) (w : World) :
    Calls Tryz.prog 74 #[.agg #[.bool b0, .string s0, .bool b1, .string s1, .bool b2, .string s2, .bool b3, .string s3]] w fun e w' => e = .returned (.agg #[.bool b0, .string s0, .bool b1, .string s1, .bool b2, .string s2, .bool b3, .string s3]) ∧ Below w.heap.size w w' := by
  go_enter Tryz.func74, Tryz.ntmps74
  go_wp2_with fail
  refine bodyPost_ret (results_cell_row rfl _ _ (w.heap.size + 1) 33 #[.bool b0, .string s0, .bool b1, .string s1, .bool b2, .string s2, .bool b3, .string s3] (0, 0) _ rfl (blk_new2 _ _ _) Tryz.underlying33 rfl (by kernel_rfl)) rfl ?_
  exact ⟨rfl, below_alloc (below_alloc (Below.refl _ _) _) _⟩
set_option maxHeartbeats 800000 in
theorem plane_four_any (b0 b1 b2 b3 : Bool) (s0 s1 s2 s3 : ByteArray) (w : World) :
    Calls Tryz.prog 103 #[.agg #[.bool b0, .string s0, .bool b1, .string s1, .bool b2, .string s2, .bool b3, .string s3]] w fun e w' => e = .returned (.agg #[.bool b0, .string s0, .bool b1, .string s1, .bool b2, .string s2, .bool b3, .string s3]) ∧ Below w.heap.size w w' := by
  go_enter Tryz.func103, Tryz.ntmps103
  go_wp2_with fail
  refine bodyPost_ret (results_cell_row rfl _ _ (w.heap.size + 1) 111 #[.bool b0, .string s0, .bool b1, .string s1, .bool b2, .string s2, .bool b3, .string s3] (0, 0) _ rfl (blk_new2 _ _ _) Tryz.underlying111 rfl (by kernel_rfl)) rfl ?_
  exact ⟨rfl, below_alloc (below_alloc (Below.refl _ _) _) _⟩

/-- A row of numbers in a block of its own. -/
theorem C_four {w : World} {g t : Nat} {cs : Array Value} (xs : List S31) (h : w.heap[g]? = some (.cells cs t (0, 0))) (hl : xs.length ≤ 4)
    (hc : ∀ (j : Nat) x, xs[j]? = some x → cs[j * 2]? = some (.bool x.f0) ∧ cs[j * 2 + 1]? = some (.string x.f1)) : Kd.C k31 w (some ⟨g, 0, none⟩) xs.length xs := by
  refine ⟨rfl, by omega, fun _ => ⟨_, rfl, fun j p hj => ⟨[.bool p.f0, .string p.f1], rfl, k31_mk w p, fun i u hi => ?_⟩⟩⟩
  have hz : k31.sz = 2 := rfl
  rw [hz]
  have e : ∀ n, (⟨g, 0, none⟩ : Addr).add n = ⟨g, n, none⟩ := fun n => by
    unfold Addr.add
    split
    · next h => subst h; rfl
    · simp
  rw [e, blk_cell h]
  obtain ⟨h0, h1⟩ := hc j p hj
  match i, hi with
  | 0, hi => rw [← Option.some.inj hi]; exact h0
  | 1, hi => rw [← Option.some.inj hi]; exact h1
  | i + 2, hi => simp at hi

abbrev zI : S31 := ⟨false, ⟨#[]⟩⟩
abbrev oI : S31 := ⟨false, ⟨#[1]⟩⟩
theorem gcd3 : integer_Gcd.f 40 [zI, zI, oI] = some (false, ⟨#[1]⟩) := by kernel_rfl
theorem gcd4 : integer_Gcd.f 40 [zI, zI, oI, zI] = some (false, ⟨#[1]⟩) := by kernel_rfl
theorem div0 : integer_Div.f 40 false ⟨#[]⟩ false ⟨#[1]⟩ = some (false, ⟨#[]⟩, false, ⟨#[]⟩, true) := by kernel_rfl
theorem div1 : integer_Div.f 40 false ⟨#[1]⟩ false ⟨#[1]⟩ = some (false, ⟨#[1]⟩, false, ⟨#[]⟩, true) := by kernel_rfl
theorem sign1 : integer_Sign.f false ⟨#[1]⟩ = some 1 := by kernel_rfl
theorem parse0 : integer_Parse.f 60 ⟨#[48]⟩ = some (false, ⟨#[]⟩, true) := by kernel_rfl
theorem parse1 : integer_Parse.f 60 ⟨#[49]⟩ = some (false, ⟨#[1]⟩, true) := by kernel_rfl

set_option maxHeartbeats 1600000 in
theorem norm_up (w : World) :
    Calls Tryz.prog 73 #[.agg #[.bool false, .string ⟨#[]⟩, .bool false, .string ⟨#[]⟩, .bool false, .string ⟨#[1]⟩, .bool false, .string ⟨#[]⟩]] w fun e w' => e = .returned (.tuple #[.agg #[.bool false, .string ⟨#[]⟩, .bool false, .string ⟨#[]⟩, .bool false, .string ⟨#[1]⟩, .bool false, .string ⟨#[]⟩], .bool true]) ∧ Below w.heap.size w w' := by
  go_enter Tryz.func73, Tryz.ntmps73
  go_wp2_with fail
  refine (plane_four_any false false false false ⟨#[]⟩ ⟨#[]⟩ ⟨#[1]⟩ ⟨#[]⟩ _).mono ?_
  rintro e1 w1 ⟨rfl, hb1⟩
  have HB1 := Aside0.mk (below_step (below_alloc (below_alloc (Below.refl w.heap.size w) _) _) hb1)
  have NS := Aside0.mk (show w.heap.size + 2 ≤ w1.heap.size from by have := hb1.size; simpa using this)
  have KR := Aside0.mk (blk_alloc (blk_below (blk_new2 w _ _) hb1) (.cells #[.bool false, .string ⟨#[]⟩, .bool false, .string ⟨#[]⟩, .bool false, .string ⟨#[1]⟩, .bool false, .string ⟨#[]⟩] 111))
  clear hb1
  go_wp2_with fail
  have K1 := Aside0.mk (blk_new w1 (.cells #[.bool false, .string ⟨#[]⟩, .bool false, .string ⟨#[]⟩, .bool false, .string ⟨#[1]⟩, .bool false, .string ⟨#[]⟩] 111))
  have HB2 := Aside0.mk (below_alloc HB1.out (.cells #[.bool false, .string ⟨#[]⟩, .bool false, .string ⟨#[]⟩, .bool false, .string ⟨#[1]⟩, .bool false, .string ⟨#[]⟩] 111))
  clear HB1
  refine (integer_Gcd.calls 40 (some ⟨w1.heap.size, 0, none⟩) 4 [zI, zI, oI] false ⟨#[1]⟩ _ (C_four _ K1.out (by decide) ?_) (by decide) gcd3).mono ?_
  · intro j x hj
    match j, hj with
    | 0, hj => cases hj; exact ⟨rfl, rfl⟩
    | 1, hj => cases hj; exact ⟨rfl, rfl⟩
    | 2, hj => cases hj; exact ⟨rfl, rfl⟩
  rintro e2 w2 ⟨rfl, hb2⟩
  have K2 := Aside0.mk (blk_below K1.out hb2)
  have KR2 := Aside0.mk (blk_below KR.out hb2)
  have HB3 := Aside0.mk (below_step HB2.out hb2)
  clear hb2 K1 HB2 KR
  go_wp2_with fail
  refine (integer_Sign.calls false ⟨#[1]⟩ 1 _ sign1).mono ?_
  rintro e3 w3 ⟨rfl, hb3⟩
  have K3 := Aside0.mk (blk_below K2.out hb3)
  have KR3 := Aside0.mk (blk_below KR2.out hb3)
  have HB4 := Aside0.mk (below_step HB3.out hb3)
  clear hb3 K2 HB3 KR2
  go_wp2_with fail
  refine (integer_Gcd.calls 40 (some ⟨w1.heap.size, 0, none⟩) 4 [zI, zI, oI, zI] false ⟨#[1]⟩ _ (C_four _ K3.out (by decide) ?_) (by decide) gcd4).mono ?_
  · intro j x hj
    match j, hj with
    | 0, hj => cases hj; exact ⟨rfl, rfl⟩
    | 1, hj => cases hj; exact ⟨rfl, rfl⟩
    | 2, hj => cases hj; exact ⟨rfl, rfl⟩
    | 3, hj => cases hj; exact ⟨rfl, rfl⟩
  rintro e4 w4 ⟨rfl, hb4⟩
  have NE := Aside0.mk (blk_lt (blk_below K3.out hb4))
  have K4 := Aside0.mk (blk_alloc (blk_below K3.out hb4) (.cells #[.bool false, .string ⟨#[1]⟩] 31))
  have KR4 := Aside0.mk (blk_alloc (blk_below KR3.out hb4) (.cells #[.bool false, .string ⟨#[1]⟩] 31))
  have NR := Aside0.mk (show w.heap.size + 1 < w1.heap.size from by have := Nat.lt_of_lt_of_le (Nat.lt_succ_self (w.heap.size + 1)) NS.out; omega)
  have NW := Aside0.mk (show w.heap.size ≤ w1.heap.size from by have := NS.out; omega)
  have KB := Aside0.mk (blk_new w4 (.cells #[.bool false, .string ⟨#[1]⟩] 31))
  have HB5 := Aside0.mk (below_alloc (below_step HB4.out hb4) (.cells #[.bool false, .string ⟨#[1]⟩] 31))
  clear hb4 K3 KR3 HB4
  go_wp2_with fail
  go_loopw [6, 16] (fun _ i wr => ∃ m : Nat, i = .int .i64 m ∧ m ≤ 4 ∧ Aside0 (wr.heap[w1.heap.size]? = some (.cells #[.bool false, .string ⟨#[]⟩, .bool false, .string ⟨#[]⟩, .bool false, .string ⟨#[1]⟩, .bool false, .string ⟨#[]⟩] 111 (0, 0))) ∧ Aside0 (wr.heap[w4.heap.size]? = some (.cells #[.bool false, .string ⟨#[1]⟩] 31 (0, 0))) ∧ Aside0 (wr.heap[w.heap.size + 1]? = some (.cells #[.bool false, .string ⟨#[]⟩, .bool false, .string ⟨#[]⟩, .bool false, .string ⟨#[]⟩, .bool false, .string ⟨#[]⟩] 33 (0, 0))) ∧ Aside0 (Below w.heap.size w wr)) (fun _ i _ => 4 - (intOf i).toNat)
  case atStart => exact ⟨0, rfl, by omega, K4, KB, KR4, HB5⟩
  case round =>
    obtain ⟨m, rfl, hm, KA, KB, KR, HB⟩ := hrel
    clear K4 KR4 HB5
    rcases (show m = 0 ∨ m = 1 ∨ m = 2 ∨ m = 3 ∨ m = 4 by omega) with rfl | rfl | rfl | rfl | rfl
    · have x0 : _ = some (Value.bool false) := blk_cell KA.out 0
      have x1 : _ = some (Value.string ⟨#[]⟩) := blk_cell KA.out 1
      have y0 : _ = some (Value.bool false) := blk_cell KB.out 0
      have y1 : _ = some (Value.string ⟨#[1]⟩) := blk_cell KB.out 1
      go_wp2_with fail
      go_region_with (go_at_call 106; refine (integer_Div.calls 40 false ⟨#[]⟩ false ⟨#[1]⟩ false ⟨#[]⟩ false ⟨#[]⟩ true _ div0).mono ?_; rintro e5 w5 ⟨rfl, hb5⟩; have K5 := Aside0.mk (blk_below (blk_drew KA.out) hb5); have B5 := Aside0.mk (blk_below (blk_drew KB.out) hb5); have R5 := Aside0.mk (blk_below (blk_drew KR.out) hb5); have H5 := Aside0.mk (below_step (below_drew HB.out) hb5); clear hb5; have f0 := blk_frozen K5.out 0; have f1 := blk_frozen K5.out 1; have z0 : _ = some (Value.bool false) := blk_cell K5.out 0; have z1 : _ = some (Value.string ⟨#[]⟩) := blk_cell K5.out 1)
      all_goals (go_wp2_with fail; go_roundw; (case measure => simp [intOf]); (case rel => exact ⟨1, rfl, by omega, ⟨blk_put (blk_put (by (with_reducible repeat (first | refine blk_drewN ?_ _ | refine blk_drew ?_)); exact K5.out) 0 _ rfl) 1 _ rfl⟩, ⟨blk_far (blk_far (by (with_reducible repeat (first | refine blk_drewN ?_ _ | refine blk_drew ?_)); exact B5.out) (by simp; exact Ne.symm (Nat.ne_of_lt NE.out)) _) (by simp; exact Ne.symm (Nat.ne_of_lt NE.out)) _⟩, ⟨blk_far (blk_far (by (with_reducible repeat (first | refine blk_drewN ?_ _ | refine blk_drew ?_)); exact R5.out) (by simp; exact Nat.ne_of_lt NR.out) _) (by simp; exact Nat.ne_of_lt NR.out) _⟩, ⟨below_set (below_set (by (with_reducible repeat (first | apply pw_below_drewN | apply below_drew1)); exact H5.out) NW.out) NW.out⟩⟩))
    · have x0 : _ = some (Value.bool false) := blk_cell KA.out 2
      have x1 : _ = some (Value.string ⟨#[]⟩) := blk_cell KA.out 3
      have y0 : _ = some (Value.bool false) := blk_cell KB.out 0
      have y1 : _ = some (Value.string ⟨#[1]⟩) := blk_cell KB.out 1
      go_wp2_with fail
      go_region_with (go_at_call 106; refine (integer_Div.calls 40 false ⟨#[]⟩ false ⟨#[1]⟩ false ⟨#[]⟩ false ⟨#[]⟩ true _ div0).mono ?_; rintro e5 w5 ⟨rfl, hb5⟩; have K5 := Aside0.mk (blk_below (blk_drew KA.out) hb5); have B5 := Aside0.mk (blk_below (blk_drew KB.out) hb5); have R5 := Aside0.mk (blk_below (blk_drew KR.out) hb5); have H5 := Aside0.mk (below_step (below_drew HB.out) hb5); clear hb5; have f0 := blk_frozen K5.out 2; have f1 := blk_frozen K5.out 3; have z0 : _ = some (Value.bool false) := blk_cell K5.out 2; have z1 : _ = some (Value.string ⟨#[]⟩) := blk_cell K5.out 3)
      all_goals (go_wp2_with fail; go_roundw; (case measure => simp [intOf]); (case rel => exact ⟨2, rfl, by omega, ⟨blk_put (blk_put (by (with_reducible repeat (first | refine blk_drewN ?_ _ | refine blk_drew ?_)); exact K5.out) 2 _ rfl) 3 _ rfl⟩, ⟨blk_far (blk_far (by (with_reducible repeat (first | refine blk_drewN ?_ _ | refine blk_drew ?_)); exact B5.out) (by simp; exact Ne.symm (Nat.ne_of_lt NE.out)) _) (by simp; exact Ne.symm (Nat.ne_of_lt NE.out)) _⟩, ⟨blk_far (blk_far (by (with_reducible repeat (first | refine blk_drewN ?_ _ | refine blk_drew ?_)); exact R5.out) (by simp; exact Nat.ne_of_lt NR.out) _) (by simp; exact Nat.ne_of_lt NR.out) _⟩, ⟨below_set (below_set (by (with_reducible repeat (first | apply pw_below_drewN | apply below_drew1)); exact H5.out) NW.out) NW.out⟩⟩))
    · have x0 : _ = some (Value.bool false) := blk_cell KA.out 4
      have x1 : _ = some (Value.string ⟨#[1]⟩) := blk_cell KA.out 5
      have y0 : _ = some (Value.bool false) := blk_cell KB.out 0
      have y1 : _ = some (Value.string ⟨#[1]⟩) := blk_cell KB.out 1
      go_wp2_with fail
      go_region_with (go_at_call 106; refine (integer_Div.calls 40 false ⟨#[1]⟩ false ⟨#[1]⟩ false ⟨#[1]⟩ false ⟨#[]⟩ true _ div1).mono ?_; rintro e5 w5 ⟨rfl, hb5⟩; have K5 := Aside0.mk (blk_below (blk_drew KA.out) hb5); have B5 := Aside0.mk (blk_below (blk_drew KB.out) hb5); have R5 := Aside0.mk (blk_below (blk_drew KR.out) hb5); have H5 := Aside0.mk (below_step (below_drew HB.out) hb5); clear hb5; have f0 := blk_frozen K5.out 4; have f1 := blk_frozen K5.out 5; have z0 : _ = some (Value.bool false) := blk_cell K5.out 4; have z1 : _ = some (Value.string ⟨#[1]⟩) := blk_cell K5.out 5)
      all_goals (go_wp2_with fail; go_roundw; (case measure => simp [intOf]); (case rel => exact ⟨3, rfl, by omega, ⟨blk_put (blk_put (by (with_reducible repeat (first | refine blk_drewN ?_ _ | refine blk_drew ?_)); exact K5.out) 4 _ rfl) 5 _ rfl⟩, ⟨blk_far (blk_far (by (with_reducible repeat (first | refine blk_drewN ?_ _ | refine blk_drew ?_)); exact B5.out) (by simp; exact Ne.symm (Nat.ne_of_lt NE.out)) _) (by simp; exact Ne.symm (Nat.ne_of_lt NE.out)) _⟩, ⟨blk_far (blk_far (by (with_reducible repeat (first | refine blk_drewN ?_ _ | refine blk_drew ?_)); exact R5.out) (by simp; exact Nat.ne_of_lt NR.out) _) (by simp; exact Nat.ne_of_lt NR.out) _⟩, ⟨below_set (below_set (by (with_reducible repeat (first | apply pw_below_drewN | apply below_drew1)); exact H5.out) NW.out) NW.out⟩⟩))
    · have x0 : _ = some (Value.bool false) := blk_cell KA.out 6
      have x1 : _ = some (Value.string ⟨#[]⟩) := blk_cell KA.out 7
      have y0 : _ = some (Value.bool false) := blk_cell KB.out 0
      have y1 : _ = some (Value.string ⟨#[1]⟩) := blk_cell KB.out 1
      go_wp2_with fail
      go_region_with (go_at_call 106; refine (integer_Div.calls 40 false ⟨#[]⟩ false ⟨#[1]⟩ false ⟨#[]⟩ false ⟨#[]⟩ true _ div0).mono ?_; rintro e5 w5 ⟨rfl, hb5⟩; have K5 := Aside0.mk (blk_below (blk_drew KA.out) hb5); have B5 := Aside0.mk (blk_below (blk_drew KB.out) hb5); have R5 := Aside0.mk (blk_below (blk_drew KR.out) hb5); have H5 := Aside0.mk (below_step (below_drew HB.out) hb5); clear hb5; have f0 := blk_frozen K5.out 6; have f1 := blk_frozen K5.out 7; have z0 : _ = some (Value.bool false) := blk_cell K5.out 6; have z1 : _ = some (Value.string ⟨#[]⟩) := blk_cell K5.out 7)
      all_goals (go_wp2_with fail; go_roundw; (case measure => simp [intOf]); (case rel => exact ⟨4, rfl, by omega, ⟨blk_put (blk_put (by (with_reducible repeat (first | refine blk_drewN ?_ _ | refine blk_drew ?_)); exact K5.out) 6 _ rfl) 7 _ rfl⟩, ⟨blk_far (blk_far (by (with_reducible repeat (first | refine blk_drewN ?_ _ | refine blk_drew ?_)); exact B5.out) (by simp; exact Ne.symm (Nat.ne_of_lt NE.out)) _) (by simp; exact Ne.symm (Nat.ne_of_lt NE.out)) _⟩, ⟨blk_far (blk_far (by (with_reducible repeat (first | refine blk_drewN ?_ _ | refine blk_drew ?_)); exact R5.out) (by simp; exact Nat.ne_of_lt NR.out) _) (by simp; exact Nat.ne_of_lt NR.out) _⟩, ⟨below_set (below_set (by (with_reducible repeat (first | apply pw_below_drewN | apply below_drew1)); exact H5.out) NW.out) NW.out⟩⟩))
    · have x0 : _ = some (Value.bool false) := blk_cell KA.out 0
      have x1 : _ = some (Value.string ⟨#[]⟩) := blk_cell KA.out 1
      have x2 : _ = some (Value.bool false) := blk_cell KA.out 2
      have x3 : _ = some (Value.string ⟨#[]⟩) := blk_cell KA.out 3
      have x4 : _ = some (Value.bool false) := blk_cell KA.out 4
      have x5 : _ = some (Value.string ⟨#[1]⟩) := blk_cell KA.out 5
      have x6 : _ = some (Value.bool false) := blk_cell KA.out 6
      have x7 : _ = some (Value.string ⟨#[]⟩) := blk_cell KA.out 7
      go_wp2_with fail
      refine (plane_of_any false false false false ⟨#[]⟩ ⟨#[]⟩ ⟨#[1]⟩ ⟨#[]⟩ _).mono ?_
      rintro e6 w6 ⟨rfl, hb6⟩
      have R6 := Aside0.mk (blk_below KR.out hb6)
      have H6 := Aside0.mk (below_step HB.out hb6)
      clear hb6 x0 x1 x2 x3 x4 x5 x6 x7 KA KB KR HB
      have r0 : _ = some (Value.bool false) := blk_cell R6.out 0
      have r1 : _ = some (Value.string ⟨#[]⟩) := blk_cell R6.out 1
      have r2 : _ = some (Value.bool false) := blk_cell R6.out 2
      have r3 : _ = some (Value.string ⟨#[]⟩) := blk_cell R6.out 3
      have r4 : _ = some (Value.bool false) := blk_cell R6.out 4
      have r5 : _ = some (Value.string ⟨#[]⟩) := blk_cell R6.out 5
      have r6 : _ = some (Value.bool false) := blk_cell R6.out 6
      have r7 : _ = some (Value.string ⟨#[]⟩) := blk_cell R6.out 7
      have g0 := blk_frozen R6.out 0
      have g1 := blk_frozen R6.out 1
      have g2 := blk_frozen R6.out 2
      have g3 := blk_frozen R6.out 3
      have g4 := blk_frozen R6.out 4
      have g5 := blk_frozen R6.out 5
      have g6 := blk_frozen R6.out 6
      have g7 := blk_frozen R6.out 7
      go_wp2_with fail
      refine bodyPost_ret (results_ct rfl _ _ (w.heap.size + 1) 33 #[.bool false, .string ⟨#[]⟩, .bool false, .string ⟨#[]⟩, .bool false, .string ⟨#[1]⟩, .bool false, .string ⟨#[]⟩] (0, 0) _ rfl (blk_put (blk_put (blk_put (blk_put (blk_put (blk_put (blk_put (blk_put R6.out 0 _ rfl) 1 _ rfl) 2 _ rfl) 3 _ rfl) 4 _ rfl) 5 _ rfl) 6 _ rfl) 7 _ rfl) Tryz.underlying33 rfl (by kernel_rfl)) rfl ?_
      exact ⟨rfl, (below_set (below_set (below_set (below_set (below_set (below_set (below_set (below_set H6.out (Nat.le_succ _)) (Nat.le_succ _)) (Nat.le_succ _)) (Nat.le_succ _)) (Nat.le_succ _)) (Nat.le_succ _)) (Nat.le_succ _)) (Nat.le_succ _))⟩
end Go.Proofs.YtkceipkedmfeiaaGreatDoor.XU

namespace Go.Proofs.YtkceipkedmfeiaaGreatDoor.XU
open Go Go.RowKit Go.Shelf Go.Proofs.YtkceipkedmfeiaaGreatDoorW.PrintWords Go.Proofs.YtkceipkedmfeiaaGreatDoorW.PrintLast Go.Proofs.YtkceipkedmfeiaaGreatDoorW.PrintMore Go.Proofs.YtkceipkedmfeiaaGreatDoor.XN

theorem cut_pre : (⟨(Lib.trimPrefix [91, 48, 32, 48, 32, 49, 32, 48, 93] [91]).toArray⟩ : ByteArray) = ⟨#[48, 32, 48, 32, 49, 32, 48, 93]⟩ := by kernel_rfl
theorem has_pre : Lib.hasPrefix [91, 48, 32, 48, 32, 49, 32, 48, 93] [91] = true := by decide
theorem cut_suf : (⟨(Lib.trimSuffix [48, 32, 48, 32, 49, 32, 48, 93] [93]).toArray⟩ : ByteArray) = ⟨#[48, 32, 48, 32, 49, 32, 48]⟩ := by kernel_rfl
theorem has_suf : Lib.hasSuffix [48, 32, 48, 32, 49, 32, 48, 93] [93] = true := by decide
theorem split4 : Lib.splitB ⟨#[32]⟩ 0 (Lib.countB ⟨#[48, 32, 48, 32, 49, 32, 48]⟩ ⟨#[32]⟩) ⟨#[48, 32, 48, 32, 49, 32, 48]⟩ = [⟨#[48]⟩, ⟨#[48]⟩, ⟨#[49]⟩, ⟨#[48]⟩] := by kernel_rfl

set_option maxHeartbeats 1600000 in
theorem parse_up (w : World) (hG : EnvL w) :
    Calls Tryz.prog 54 #[.string ⟨#[91, 48, 32, 48, 32, 49, 32, 48, 93]⟩] w fun e w' => e = .returned (.tuple #[.agg #[.bool false, .string ⟨#[]⟩, .bool false, .string ⟨#[]⟩, .bool false, .string ⟨#[1]⟩, .bool false, .string ⟨#[]⟩], .bool true]) ∧ Below w.heap.size w w' := by
  have HG := Aside0.mk hG
  clear hG
  go_enter Tryz.func54, Tryz.ntmps54
  go_wp2_with fail
  refine (Tryz.strings_CutPrefix ⟨#[91, 48, 32, 48, 32, 49, 32, 48, 93]⟩ ⟨#[91]⟩ _).mono ?_
  rintro e1 w1 ⟨rfl, rfl⟩
  rw [show (⟨(Lib.trimPrefix (⟨#[91, 48, 32, 48, 32, 49, 32, 48, 93]⟩ : ByteArray).data.toList (⟨#[91]⟩ : ByteArray).data.toList).toArray⟩ : ByteArray) = ⟨#[48, 32, 48, 32, 49, 32, 48, 93]⟩ from cut_pre, show Lib.hasPrefix (⟨#[91, 48, 32, 48, 32, 49, 32, 48, 93]⟩ : ByteArray).data.toList (⟨#[91]⟩ : ByteArray).data.toList = true from has_pre]
  go_wp2_with fail
  refine (Tryz.strings_CutSuffix ⟨#[48, 32, 48, 32, 49, 32, 48, 93]⟩ ⟨#[93]⟩ _ (by decide)).mono ?_
  rintro e1 w1 ⟨rfl, rfl⟩
  rw [show (⟨(Lib.trimSuffix (⟨#[48, 32, 48, 32, 49, 32, 48, 93]⟩ : ByteArray).data.toList (⟨#[93]⟩ : ByteArray).data.toList).toArray⟩ : ByteArray) = ⟨#[48, 32, 48, 32, 49, 32, 48]⟩ from cut_suf, show Lib.hasSuffix (⟨#[48, 32, 48, 32, 49, 32, 48, 93]⟩ : ByteArray).data.toList (⟨#[93]⟩ : ByteArray).data.toList = true from has_suf]
  go_wp2_with fail
  have HB0 := Aside0.mk (below_alloc (Below.refl w.heap.size w) (.cells #[.bool false, .string ⟨#[]⟩, .bool false, .string ⟨#[]⟩, .bool false, .string ⟨#[]⟩, .bool false, .string ⟨#[]⟩] 33))
  have K0 := Aside0.mk (blk_new w (.cells #[.bool false, .string ⟨#[]⟩, .bool false, .string ⟨#[]⟩, .bool false, .string ⟨#[]⟩, .bool false, .string ⟨#[]⟩] 33))
  refine (strings_Split_L ⟨#[48, 32, 48, 32, 49, 32, 48]⟩ ⟨#[32]⟩ _ (HG.out.below HB0.out) (by decide) (by decide)).mono ?_
  rintro e2 w2 ⟨v2, rfl, hr2, hb2⟩
  rw [split4] at hr2
  obtain ⟨A2, c2, rfl, hc2, hC2⟩ := Kd.R_reads hr2
  obtain ⟨b, o, rfl, hbl, hcell⟩ := C_string_cells hC2 (by decide)
  have q0 := Aside0.mk (show w2.cell? ⟨b, o, none⟩ = _ from hcell 0 ⟨#[48]⟩ rfl)
  have q1 := Aside0.mk (hcell 1 ⟨#[48]⟩ rfl)
  have q2 := Aside0.mk (hcell 2 ⟨#[49]⟩ rfl)
  have q3 := Aside0.mk (hcell 3 ⟨#[48]⟩ rfl)
  have HB2 := Aside0.mk (below_step HB0.out hb2)
  have K2 := Aside0.mk (blk_below K0.out hb2)
  clear hr2 hC2 hcell hb2 K0 HB0
  go_wp2_with fail
  have NW := Aside0.mk (blk_lt K2.out)
  have KA0 := Aside0.mk (blk_new w2 (.cells #[.bool false, .string ⟨#[]⟩, .bool false, .string ⟨#[]⟩, .bool false, .string ⟨#[]⟩, .bool false, .string ⟨#[]⟩] 111))
  have KL0 := Aside0.mk (blk_alloc K2.out (.cells #[.bool false, .string ⟨#[]⟩, .bool false, .string ⟨#[]⟩, .bool false, .string ⟨#[]⟩, .bool false, .string ⟨#[]⟩] 111))
  have H0 := Aside0.mk (below_alloc HB2.out (.cells #[.bool false, .string ⟨#[]⟩, .bool false, .string ⟨#[]⟩, .bool false, .string ⟨#[]⟩, .bool false, .string ⟨#[]⟩] 111))
  have H1 := Aside0.mk (below_alloc (Below.refl w2.heap.size w2) (.cells #[.bool false, .string ⟨#[]⟩, .bool false, .string ⟨#[]⟩, .bool false, .string ⟨#[]⟩, .bool false, .string ⟨#[]⟩] 111))
  go_loopw [5, 39] (fun u5 i wr => ∃ (m : Nat) (cs : Array Value), u5 = .bool true ∧ i = .int .i64 m ∧ m ≤ 4 ∧ Aside0 (m ≤ 2 ∧ cs = #[.bool false, .string ⟨#[]⟩, .bool false, .string ⟨#[]⟩, .bool false, .string ⟨#[]⟩, .bool false, .string ⟨#[]⟩] ∨ 3 ≤ m ∧ cs = #[.bool false, .string ⟨#[]⟩, .bool false, .string ⟨#[]⟩, .bool false, .string ⟨#[1]⟩, .bool false, .string ⟨#[]⟩]) ∧ Aside0 (wr.heap[w2.heap.size]? = some (.cells cs 111 (0, 0))) ∧ Aside0 (wr.heap[w.heap.size]? = some (.cells #[.bool false, .string ⟨#[]⟩, .bool false, .string ⟨#[]⟩, .bool false, .string ⟨#[]⟩, .bool false, .string ⟨#[]⟩] 33 (0, 0))) ∧ Aside0 (Below w.heap.size w wr) ∧ Aside0 (Below w2.heap.size w2 wr)) (fun _ i _ => 4 - (intOf i).toNat)
  case atStart => exact ⟨0, _, rfl, rfl, by omega, ⟨.inl ⟨by omega, rfl⟩⟩, KA0, KL0, H0, H1⟩
  case round =>
    obtain ⟨m, cs, rfl, rfl, hm, hcs, KA, KL, HB, HB3⟩ := hrel
    clear KA0 KL0 H0 H1 K2 HB2
    rcases (show m = 0 ∨ m = 1 ∨ m = 2 ∨ m = 3 ∨ m = 4 by omega) with rfl | rfl | rfl | rfl | rfl
    · rcases hcs.out with ⟨_, rfl⟩ | ⟨h, _⟩; case inr => exact absurd h (by omega)
      have qq : _ = some (Value.string ⟨#[48]⟩) := (HB3.out.cell (World.block_lt_of_cell? _ _ q0.out)).trans q0.out
      go_wp2_with fail
      refine (integer_Parse.calls 60 ⟨#[48]⟩ false ⟨#[]⟩ true _ parse0).mono ?_
      rintro e4 w4 ⟨rfl, hb4⟩
      have K4 := Aside0.mk (blk_below KA.out hb4)
      have L4 := Aside0.mk (blk_below KL.out hb4)
      have H4 := Aside0.mk (below_step HB.out hb4)
      have H3 := Aside0.mk (below_step HB3.out hb4)
      clear hb4 KA KL HB HB3 qq
      have f0 := blk_frozen K4.out 0
      have f1 := blk_frozen K4.out 1
      have z0 := blk_cell K4.out 0
      have z1 := blk_cell K4.out 1
      go_wp2_with fail
      all_goals (go_roundw; (case measure => simp [intOf]); (case rel => exact ⟨1, #[.bool false, .string ⟨#[]⟩, .bool false, .string ⟨#[]⟩, .bool false, .string ⟨#[]⟩, .bool false, .string ⟨#[]⟩], rfl, rfl, by omega, ⟨.inl ⟨by omega, rfl⟩⟩, ⟨blk_put (blk_put K4.out 0 _ rfl) 1 _ rfl⟩, ⟨blk_far (blk_far L4.out (Nat.ne_of_lt NW.out) _) (Nat.ne_of_lt NW.out) _⟩, ⟨below_set (below_set H4.out (Nat.le_of_lt NW.out)) (Nat.le_of_lt NW.out)⟩, ⟨below_set (below_set H3.out (Nat.le_refl _)) (Nat.le_refl _)⟩⟩))
    · rcases hcs.out with ⟨_, rfl⟩ | ⟨h, _⟩; case inr => exact absurd h (by omega)
      have qq : _ = some (Value.string ⟨#[48]⟩) := (HB3.out.cell (World.block_lt_of_cell? _ _ q1.out)).trans q1.out
      go_wp2_with fail
      refine (integer_Parse.calls 60 ⟨#[48]⟩ false ⟨#[]⟩ true _ parse0).mono ?_
      rintro e4 w4 ⟨rfl, hb4⟩
      have K4 := Aside0.mk (blk_below KA.out hb4)
      have L4 := Aside0.mk (blk_below KL.out hb4)
      have H4 := Aside0.mk (below_step HB.out hb4)
      have H3 := Aside0.mk (below_step HB3.out hb4)
      clear hb4 KA KL HB HB3 qq
      have f0 := blk_frozen K4.out 2
      have f1 := blk_frozen K4.out 3
      have z0 := blk_cell K4.out 2
      have z1 := blk_cell K4.out 3
      go_wp2_with fail
      all_goals (go_roundw; (case measure => simp [intOf]); (case rel => exact ⟨2, #[.bool false, .string ⟨#[]⟩, .bool false, .string ⟨#[]⟩, .bool false, .string ⟨#[]⟩, .bool false, .string ⟨#[]⟩], rfl, rfl, by omega, ⟨.inl ⟨by omega, rfl⟩⟩, ⟨blk_put (blk_put K4.out 2 _ rfl) 3 _ rfl⟩, ⟨blk_far (blk_far L4.out (Nat.ne_of_lt NW.out) _) (Nat.ne_of_lt NW.out) _⟩, ⟨below_set (below_set H4.out (Nat.le_of_lt NW.out)) (Nat.le_of_lt NW.out)⟩, ⟨below_set (below_set H3.out (Nat.le_refl _)) (Nat.le_refl _)⟩⟩))
    · rcases hcs.out with ⟨_, rfl⟩ | ⟨h, _⟩; case inr => exact absurd h (by omega)
      have qq : _ = some (Value.string ⟨#[49]⟩) := (HB3.out.cell (World.block_lt_of_cell? _ _ q2.out)).trans q2.out
      go_wp2_with fail
      refine (integer_Parse.calls 60 ⟨#[49]⟩ false ⟨#[1]⟩ true _ parse1).mono ?_
      rintro e4 w4 ⟨rfl, hb4⟩
      have K4 := Aside0.mk (blk_below KA.out hb4)
      have L4 := Aside0.mk (blk_below KL.out hb4)
      have H4 := Aside0.mk (below_step HB.out hb4)
      have H3 := Aside0.mk (below_step HB3.out hb4)
      clear hb4 KA KL HB HB3 qq
      have f0 := blk_frozen K4.out 4
      have f1 := blk_frozen K4.out 5
      have z0 := blk_cell K4.out 4
      have z1 := blk_cell K4.out 5
      go_wp2_with fail
      all_goals (go_roundw; (case measure => simp [intOf]); (case rel => exact ⟨3, #[.bool false, .string ⟨#[]⟩, .bool false, .string ⟨#[]⟩, .bool false, .string ⟨#[1]⟩, .bool false, .string ⟨#[]⟩], rfl, rfl, by omega, ⟨.inr ⟨by omega, rfl⟩⟩, ⟨blk_put (blk_put K4.out 4 _ rfl) 5 _ rfl⟩, ⟨blk_far (blk_far L4.out (Nat.ne_of_lt NW.out) _) (Nat.ne_of_lt NW.out) _⟩, ⟨below_set (below_set H4.out (Nat.le_of_lt NW.out)) (Nat.le_of_lt NW.out)⟩, ⟨below_set (below_set H3.out (Nat.le_refl _)) (Nat.le_refl _)⟩⟩))
    · rcases hcs.out with ⟨h, _⟩ | ⟨_, rfl⟩; case inl => exact absurd h (by omega)
      have qq : _ = some (Value.string ⟨#[48]⟩) := (HB3.out.cell (World.block_lt_of_cell? _ _ q3.out)).trans q3.out
      go_wp2_with fail
      refine (integer_Parse.calls 60 ⟨#[48]⟩ false ⟨#[]⟩ true _ parse0).mono ?_
      rintro e4 w4 ⟨rfl, hb4⟩
      have K4 := Aside0.mk (blk_below KA.out hb4)
      have L4 := Aside0.mk (blk_below KL.out hb4)
      have H4 := Aside0.mk (below_step HB.out hb4)
      have H3 := Aside0.mk (below_step HB3.out hb4)
      clear hb4 KA KL HB HB3 qq
      have f0 := blk_frozen K4.out 6
      have f1 := blk_frozen K4.out 7
      have z0 := blk_cell K4.out 6
      have z1 := blk_cell K4.out 7
      go_wp2_with fail
      all_goals (go_roundw; (case measure => simp [intOf]); (case rel => exact ⟨4, #[.bool false, .string ⟨#[]⟩, .bool false, .string ⟨#[]⟩, .bool false, .string ⟨#[1]⟩, .bool false, .string ⟨#[]⟩], rfl, rfl, by omega, ⟨.inr ⟨by omega, rfl⟩⟩, ⟨blk_put (blk_put K4.out 6 _ rfl) 7 _ rfl⟩, ⟨blk_far (blk_far L4.out (Nat.ne_of_lt NW.out) _) (Nat.ne_of_lt NW.out) _⟩, ⟨below_set (below_set H4.out (Nat.le_of_lt NW.out)) (Nat.le_of_lt NW.out)⟩, ⟨below_set (below_set H3.out (Nat.le_refl _)) (Nat.le_refl _)⟩⟩))
    · rcases hcs.out with ⟨h, _⟩ | ⟨_, rfl⟩
      case inl => exact absurd h (by omega)
      have x0 : _ = some (Value.bool false) := blk_cell KA.out 0
      have x1 : _ = some (Value.string ⟨#[]⟩) := blk_cell KA.out 1
      have x2 : _ = some (Value.bool false) := blk_cell KA.out 2
      have x3 : _ = some (Value.string ⟨#[]⟩) := blk_cell KA.out 3
      have x4 : _ = some (Value.bool false) := blk_cell KA.out 4
      have x5 : _ = some (Value.string ⟨#[1]⟩) := blk_cell KA.out 5
      have x6 : _ = some (Value.bool false) := blk_cell KA.out 6
      have x7 : _ = some (Value.string ⟨#[]⟩) := blk_cell KA.out 7
      go_wp2_with fail
      refine (plane_of_any false false false false ⟨#[]⟩ ⟨#[]⟩ ⟨#[1]⟩ ⟨#[]⟩ _).mono ?_
      rintro e6 w6 ⟨rfl, hb6⟩
      have K6 := Aside0.mk (blk_below KA.out hb6)
      have L6 := Aside0.mk (blk_below KL.out hb6)
      have H6 := Aside0.mk (below_step HB.out hb6)
      clear hb6 x0 x1 x2 x3 x4 x5 x6 x7 KA KL HB HB3
      go_wp2_with fail
      refine (norm_up _).mono ?_
      rintro e7 w7 ⟨rfl, hb7⟩
      have K7 := Aside0.mk (blk_alloc (blk_below K6.out hb7) (.cells #[.bool false, .string ⟨#[]⟩, .bool false, .string ⟨#[]⟩, .bool false, .string ⟨#[1]⟩, .bool false, .string ⟨#[]⟩] 33))
      have L7 := Aside0.mk (blk_alloc (blk_below L6.out hb7) (.cells #[.bool false, .string ⟨#[]⟩, .bool false, .string ⟨#[]⟩, .bool false, .string ⟨#[1]⟩, .bool false, .string ⟨#[]⟩] 33))
      have N7 := Aside0.mk (blk_new w7 (.cells #[.bool false, .string ⟨#[]⟩, .bool false, .string ⟨#[]⟩, .bool false, .string ⟨#[1]⟩, .bool false, .string ⟨#[]⟩] 33))
      have H7 := Aside0.mk (below_alloc (below_step H6.out hb7) (.cells #[.bool false, .string ⟨#[]⟩, .bool false, .string ⟨#[]⟩, .bool false, .string ⟨#[1]⟩, .bool false, .string ⟨#[]⟩] 33))
      clear hb7 K6 L6 H6
      have x0 : _ = some (Value.bool false) := blk_cell K7.out 0
      have x1 : _ = some (Value.string ⟨#[]⟩) := blk_cell K7.out 1
      have x2 : _ = some (Value.bool false) := blk_cell K7.out 2
      have x3 : _ = some (Value.string ⟨#[]⟩) := blk_cell K7.out 3
      have x4 : _ = some (Value.bool false) := blk_cell K7.out 4
      have x5 : _ = some (Value.string ⟨#[1]⟩) := blk_cell K7.out 5
      have x6 : _ = some (Value.bool false) := blk_cell K7.out 6
      have x7 : _ = some (Value.string ⟨#[]⟩) := blk_cell K7.out 7
      have y0 : _ = some (Value.bool false) := blk_cell N7.out 0
      have y1 : _ = some (Value.string ⟨#[]⟩) := blk_cell N7.out 1
      have y2 : _ = some (Value.bool false) := blk_cell N7.out 2
      have y3 : _ = some (Value.string ⟨#[]⟩) := blk_cell N7.out 3
      have y4 : _ = some (Value.bool false) := blk_cell N7.out 4
      have y5 : _ = some (Value.string ⟨#[1]⟩) := blk_cell N7.out 5
      have y6 : _ = some (Value.bool false) := blk_cell N7.out 6
      have y7 : _ = some (Value.string ⟨#[]⟩) := blk_cell N7.out 7
      go_wp2_with fail
      go_region_with (go_at_call 74; refine (plane_of_any false false false false ⟨#[]⟩ ⟨#[]⟩ ⟨#[1]⟩ ⟨#[]⟩ _).mono ?_; rintro e9 w9 ⟨rfl, hb9⟩; have N9 := Aside0.mk (blk_below (by (with_reducible repeat (first | refine blk_drewN ?_ _ | refine blk_drew ?_)); exact N7.out) hb9); have L9 := Aside0.mk (blk_below (by (with_reducible repeat (first | refine blk_drewN ?_ _ | refine blk_drew ?_)); exact L7.out) hb9); have H9 := Aside0.mk (below_step (by (with_reducible repeat (first | apply pw_below_drewN | apply below_drew1)); exact H7.out) hb9); clear hb9; have v0 : _ = some (Value.bool false) := blk_cell N9.out 0; have v1 : _ = some (Value.string ⟨#[]⟩) := blk_cell N9.out 1; have v2 : _ = some (Value.bool false) := blk_cell N9.out 2; have v3 : _ = some (Value.string ⟨#[]⟩) := blk_cell N9.out 3; have v4 : _ = some (Value.bool false) := blk_cell N9.out 4; have v5 : _ = some (Value.string ⟨#[1]⟩) := blk_cell N9.out 5; have v6 : _ = some (Value.bool false) := blk_cell N9.out 6; have v7 : _ = some (Value.string ⟨#[]⟩) := blk_cell N9.out 7)
      all_goals
        have r0 := blk_frozen L9.out 0
        have r1 := blk_frozen L9.out 1
        have r2 := blk_frozen L9.out 2
        have r3 := blk_frozen L9.out 3
        have r4 := blk_frozen L9.out 4
        have r5 := blk_frozen L9.out 5
        have r6 := blk_frozen L9.out 6
        have r7 := blk_frozen L9.out 7
        have s0 := blk_cell L9.out 0
        have s1 := blk_cell L9.out 1
        have s2 := blk_cell L9.out 2
        have s3 := blk_cell L9.out 3
        have s4 := blk_cell L9.out 4
        have s5 := blk_cell L9.out 5
        have s6 := blk_cell L9.out 6
        have s7 := blk_cell L9.out 7
        go_wp2_with fail
        refine bodyPost_ret (results_ct rfl _ _ w.heap.size 33 #[.bool false, .string ⟨#[]⟩, .bool false, .string ⟨#[]⟩, .bool false, .string ⟨#[1]⟩, .bool false, .string ⟨#[]⟩] (0, 0) _ rfl (blk_put (blk_put (blk_put (blk_put (blk_put (blk_put (blk_put (blk_put L9.out 0 _ rfl) 1 _ rfl) 2 _ rfl) 3 _ rfl) 4 _ rfl) 5 _ rfl) 6 _ rfl) 7 _ rfl) Tryz.underlying33 rfl (by kernel_rfl)) rfl ?_
        exact ⟨rfl, (below_set (below_set (below_set (below_set (below_set (below_set (below_set (below_set H9.out (Nat.le_refl _)) (Nat.le_refl _)) (Nat.le_refl _)) (Nat.le_refl _)) (Nat.le_refl _)) (Nat.le_refl _)) (Nat.le_refl _)) (Nat.le_refl _))⟩

set_option maxHeartbeats 1600000 in
theorem up_any (w : World) (hG : EnvL w) :
    Calls Tryz.prog 28 #[] w fun e w' => e = .returned (.agg #[.bool false, .string ⟨#[]⟩, .bool false, .string ⟨#[]⟩, .bool false, .string ⟨#[1]⟩, .bool false, .string ⟨#[]⟩]) ∧ Below w.heap.size w w' := by
  have HG := Aside0.mk hG
  clear hG
  go_enter Tryz.func28, Tryz.ntmps28
  go_wp2_with fail
  have HB0 := Aside0.mk (below_alloc (Below.refl w.heap.size w) (.cells #[.bool false, .string ⟨#[]⟩, .bool false, .string ⟨#[]⟩, .bool false, .string ⟨#[]⟩, .bool false, .string ⟨#[]⟩] 33))
  have K0 := Aside0.mk (blk_new w (.cells #[.bool false, .string ⟨#[]⟩, .bool false, .string ⟨#[]⟩, .bool false, .string ⟨#[]⟩, .bool false, .string ⟨#[]⟩] 33))
  refine (parse_up _ (HG.out.below HB0.out)).mono ?_
  rintro e1 w1 ⟨rfl, hb1⟩
  have K1 := Aside0.mk (blk_alloc (blk_below K0.out hb1) (.cells #[.bool false, .string ⟨#[]⟩, .bool false, .string ⟨#[]⟩, .bool false, .string ⟨#[1]⟩, .bool false, .string ⟨#[]⟩] 33))
  have H1 := Aside0.mk (below_alloc (below_step HB0.out hb1) (.cells #[.bool false, .string ⟨#[]⟩, .bool false, .string ⟨#[]⟩, .bool false, .string ⟨#[1]⟩, .bool false, .string ⟨#[]⟩] 33))
  clear hb1 K0 HB0
  have r0 := blk_frozen K1.out 0
  have s0 := blk_cell K1.out 0
  have r1 := blk_frozen K1.out 1
  have s1 := blk_cell K1.out 1
  have r2 := blk_frozen K1.out 2
  have s2 := blk_cell K1.out 2
  have r3 := blk_frozen K1.out 3
  have s3 := blk_cell K1.out 3
  have r4 := blk_frozen K1.out 4
  have s4 := blk_cell K1.out 4
  have r5 := blk_frozen K1.out 5
  have s5 := blk_cell K1.out 5
  have r6 := blk_frozen K1.out 6
  have s6 := blk_cell K1.out 6
  have r7 := blk_frozen K1.out 7
  have s7 := blk_cell K1.out 7
  go_wp2_with fail
  refine bodyPost_ret (results_cell_row rfl _ _ w.heap.size 33 #[.bool false, .string ⟨#[]⟩, .bool false, .string ⟨#[]⟩, .bool false, .string ⟨#[1]⟩, .bool false, .string ⟨#[]⟩] (0, 0) _ rfl (blk_put (blk_put (blk_put (blk_put (blk_put (blk_put (blk_put (blk_put K1.out 0 _ rfl) 1 _ rfl) 2 _ rfl) 3 _ rfl) 4 _ rfl) 5 _ rfl) 6 _ rfl) 7 _ rfl) Tryz.underlying33 rfl (by kernel_rfl)) rfl ?_
  exact ⟨rfl, (below_set (below_set (below_set (below_set (below_set (below_set (below_set (below_set H1.out (Nat.le_refl _)) (Nat.le_refl _)) (Nat.le_refl _)) (Nat.le_refl _)) (Nat.le_refl _)) (Nat.le_refl _)) (Nat.le_refl _)) (Nat.le_refl _))⟩
end Go.Proofs.YtkceipkedmfeiaaGreatDoor.XU

namespace Go.Proofs.YtkceipkedmfeiaaGreatDoor.XU
open Go Go.RowKit Go.Shelf Go.Proofs.YtkceipkedmfeiaaGreatDoorW.PrintWords Go.Proofs.YtkceipkedmfeiaaGreatDoorW.PrintLast Go.Proofs.YtkceipkedmfeiaaGreatDoorW.PrintMore

theorem blk_new3 (w : World) (o1 o2 o3 : Obj) : (((w.alloc o1).alloc o2).alloc o3).heap[w.heap.size + 2]? = some o3 := by
  have := blk_new2 (w.alloc o1) o2 o3
  rwa [show (w.alloc o1).heap.size = w.heap.size + 1 from Array.size_push _] at this
set_option maxHeartbeats 1600000 in
theorem Resolve_ground (A0 : Option Addr) (n0 c0 : Nat) (A1 : Option Addr) (n1 c1 : Nat) (A2 : Option Addr) (n2 c2 : Nat) (w : World) (hG : EnvL w) :
    Calls Tryz.prog 12 #[.slice A0 n0 c0, .slice A1 n1 c1, .agg #[.string ⟨#[103, 114, 111, 117, 110, 100]⟩, .slice A2 n2 c2]] w fun e w' => e = .returned (.agg #[.int .i64 1, .bool false, .string ⟨#[]⟩, .bool false, .string ⟨#[]⟩, .bool false, .string ⟨#[1]⟩, .bool false, .string ⟨#[]⟩, .slice none 0 0]) ∧ Below w.heap.size w w' := by
  have HG := Aside0.mk hG
  clear hG
  go_enter Tryz.func12, Tryz.ntmps12
  go_wp2_with fail
  have HB0 := Aside0.mk (below_alloc (below_alloc (below_alloc (Below.refl w.heap.size w) (.cells #[.slice A1 n1 c1] 23)) (.cells #[.string ⟨#[103, 114, 111, 117, 110, 100]⟩, .slice A2 n2 c2] 26)) (.cells #[.int .i64 0, .bool false, .string ⟨#[]⟩, .bool false, .string ⟨#[]⟩, .bool false, .string ⟨#[]⟩, .bool false, .string ⟨#[]⟩, .slice none 0 0] 36))
  have K0 := Aside0.mk (blk_new3 w (.cells #[.slice A1 n1 c1] 23) (.cells #[.string ⟨#[103, 114, 111, 117, 110, 100]⟩, .slice A2 n2 c2] 26) (.cells #[.int .i64 0, .bool false, .string ⟨#[]⟩, .bool false, .string ⟨#[]⟩, .bool false, .string ⟨#[]⟩, .bool false, .string ⟨#[]⟩, .slice none 0 0] 36))
  refine (up_any _ (HG.out.below HB0.out)).mono ?_
  rintro e1 w1 ⟨rfl, hb1⟩
  have K1 := Aside0.mk (blk_below K0.out hb1)
  have H1 := Aside0.mk (below_step HB0.out hb1)
  clear hb1 K0 HB0
  have r0 := blk_frozen K1.out 0
  have s0 := blk_cell K1.out 0
  have r1 := blk_frozen K1.out 1
  have s1 := blk_cell K1.out 1
  have r2 := blk_frozen K1.out 2
  have s2 := blk_cell K1.out 2
  have r3 := blk_frozen K1.out 3
  have s3 := blk_cell K1.out 3
  have r4 := blk_frozen K1.out 4
  have s4 := blk_cell K1.out 4
  have r5 := blk_frozen K1.out 5
  have s5 := blk_cell K1.out 5
  have r6 := blk_frozen K1.out 6
  have s6 := blk_cell K1.out 6
  have r7 := blk_frozen K1.out 7
  have s7 := blk_cell K1.out 7
  have r8 := blk_frozen K1.out 8
  have s8 := blk_cell K1.out 8
  have r9 := blk_frozen K1.out 9
  have s9 := blk_cell K1.out 9
  go_wp2_with fail
  refine bodyPost_ret (results_cell_row rfl _ _ (w.heap.size + 2) 36 #[.int .i64 1, .bool false, .string ⟨#[]⟩, .bool false, .string ⟨#[]⟩, .bool false, .string ⟨#[1]⟩, .bool false, .string ⟨#[]⟩, .slice none 0 0] (0, 0) _ rfl (blk_put (blk_put (blk_put (blk_put (blk_put (blk_put (blk_put (blk_put (blk_put (blk_put K1.out 0 _ rfl) 1 _ rfl) 2 _ rfl) 3 _ rfl) 4 _ rfl) 5 _ rfl) 6 _ rfl) 7 _ rfl) 8 _ rfl) 9 _ rfl) Tryz.underlying36 rfl (by kernel_rfl)) rfl ?_
  exact ⟨rfl, (below_set (below_set (below_set (below_set (below_set (below_set (below_set (below_set (below_set (below_set H1.out (Nat.le_add_right _ 2)) (Nat.le_add_right _ 2)) (Nat.le_add_right _ 2)) (Nat.le_add_right _ 2)) (Nat.le_add_right _ 2)) (Nat.le_add_right _ 2)) (Nat.le_add_right _ 2)) (Nat.le_add_right _ 2)) (Nat.le_add_right _ 2)) (Nat.le_add_right _ 2))⟩

theorem format_fix : X30.resolve_Format.f ⟨#[97, 110, 110, 46, 51, 58, 99, 97, 112, 48]⟩ [⟨#[97, 110, 110, 46, 51, 58, 115, 105, 100, 101, 49]⟩] = some ⟨#[97, 110, 110, 46, 51, 58, 99, 97, 112, 48, 124, 97, 110, 110, 46, 51, 58, 115, 105, 100, 101, 49]⟩ := by kernel_rfl
theorem ground_fix : XN.voussoirref28_Ground.f 20 = some (false, ⟨#[]⟩, false, ⟨#[]⟩, false, ⟨#[1]⟩, false, ⟨#[]⟩) := by kernel_rfl
set_option maxHeartbeats 1600000 in
theorem fixed_any (w : World) (hG : EnvL w) :
    Calls Tryz.prog 11 #[] w fun e w' => e = .returned (.bool true) ∧ Below w.heap.size w w' := by
  have HG := Aside0.mk hG
  clear hG
  go_enter Tryz.func11, Tryz.ntmps11
  go_wp2_with fail
  have HB0 := Aside0.mk (below_alloc (below_alloc (Below.refl w.heap.size w) (.cells #[.string ⟨#[97, 110, 110, 46, 51, 58, 115, 105, 100, 101, 49]⟩] 9)) (.cells #[.string ⟨#[97, 110, 110, 46, 51, 58, 99, 97, 112, 48]⟩, .slice (some ⟨w.heap.size, 0, none⟩) 1 1] 26))
  have K0 := Aside0.mk (blk_new2 w (.cells #[.string ⟨#[97, 110, 110, 46, 51, 58, 115, 105, 100, 101, 49]⟩] 9) (.cells #[.string ⟨#[97, 110, 110, 46, 51, 58, 99, 97, 112, 48]⟩, .slice (some ⟨w.heap.size, 0, none⟩) 1 1] 26))
  have S0 := Aside0.mk (blk_alloc (blk_new w (.cells #[.string ⟨#[97, 110, 110, 46, 51, 58, 115, 105, 100, 101, 49]⟩] 9)) (.cells #[.string ⟨#[97, 110, 110, 46, 51, 58, 99, 97, 112, 48]⟩, .slice (some ⟨w.heap.size, 0, none⟩) 1 1] 26))
  refine (Resolve_ground none 0 0 none 0 0 none 0 0 _ (HG.out.below HB0.out)).mono ?_
  rintro e1 w1 ⟨rfl, hb1⟩
  have K1 := Aside0.mk (blk_alloc (blk_below K0.out hb1) (.cells #[.int .i64 1, .bool false, .string ⟨#[]⟩, .bool false, .string ⟨#[]⟩, .bool false, .string ⟨#[1]⟩, .bool false, .string ⟨#[]⟩, .slice none 0 0] 36))
  have S1 := Aside0.mk (blk_alloc (blk_below S0.out hb1) (.cells #[.int .i64 1, .bool false, .string ⟨#[]⟩, .bool false, .string ⟨#[]⟩, .bool false, .string ⟨#[1]⟩, .bool false, .string ⟨#[]⟩, .slice none 0 0] 36))
  have N1 := Aside0.mk (blk_new w1 (.cells #[.int .i64 1, .bool false, .string ⟨#[]⟩, .bool false, .string ⟨#[]⟩, .bool false, .string ⟨#[1]⟩, .bool false, .string ⟨#[]⟩, .slice none 0 0] 36))
  have H1 := Aside0.mk (below_alloc (below_step HB0.out hb1) (.cells #[.int .i64 1, .bool false, .string ⟨#[]⟩, .bool false, .string ⟨#[]⟩, .bool false, .string ⟨#[1]⟩, .bool false, .string ⟨#[]⟩, .slice none 0 0] 36))
  clear hb1 K0 HB0 S0
  have k0 : _ = some (Value.string ⟨#[97, 110, 110, 46, 51, 58, 99, 97, 112, 48]⟩) := blk_cell K1.out 0
  have k1 : _ = some (Value.slice (some ⟨w.heap.size, 0, none⟩) 1 1) := blk_cell K1.out 1
  have n0 : _ = some (Value.int .i64 1) := blk_cell N1.out 0
  have n1 : _ = some (Value.bool false) := blk_cell N1.out 1
  have n2 : _ = some (Value.string ⟨#[]⟩) := blk_cell N1.out 2
  have n3 : _ = some (Value.bool false) := blk_cell N1.out 3
  have n4 : _ = some (Value.string ⟨#[]⟩) := blk_cell N1.out 4
  have n5 : _ = some (Value.bool false) := blk_cell N1.out 5
  have n6 : _ = some (Value.string ⟨#[1]⟩) := blk_cell N1.out 6
  have n7 : _ = some (Value.bool false) := blk_cell N1.out 7
  have n8 : _ = some (Value.string ⟨#[]⟩) := blk_cell N1.out 8
  have n9 : _ = some (Value.slice none 0 0) := blk_cell N1.out 9
  have C1 := Aside0.mk (show Kd.C Kd.string (w1.alloc (.cells #[.int .i64 1, .bool false, .string ⟨#[]⟩, .bool false, .string ⟨#[]⟩, .bool false, .string ⟨#[1]⟩, .bool false, .string ⟨#[]⟩, .slice none 0 0] 36)) (some ⟨w.heap.size, 0, none⟩) 1 [(⟨#[97, 110, 110, 46, 51, 58, 115, 105, 100, 101, 49]⟩ : ByteArray)] from ⟨rfl, by decide, fun _ => ⟨_, rfl, fun j p hj => ⟨[.string p], rfl, rfl, fun i u hi => by
    match j, hj, i, hi with
    | 0, hj, 0, hi =>
      rw [← Option.some.inj hi, ← Option.some.inj hj]
      exact blk_cell S1.out 0⟩⟩⟩)
  go_wp2_with fail
  go_region_with (first | (go_at_call 20; refine (X30.resolve_Format.calls ⟨#[97, 110, 110, 46, 51, 58, 99, 97, 112, 48]⟩ (some ⟨w.heap.size, 0, none⟩) 1 [(⟨#[97, 110, 110, 46, 51, 58, 115, 105, 100, 101, 49]⟩ : ByteArray)] ⟨#[97, 110, 110, 46, 51, 58, 99, 97, 112, 48, 124, 97, 110, 110, 46, 51, 58, 115, 105, 100, 101, 49]⟩ _ (Kd.C_below C1.out (by (with_reducible repeat (first | apply pw_below_drewN | apply below_drew1)); exact (Below.refl _ _))) (Nat.le_refl _) format_fix).mono ?_; rintro e2 w2 ⟨rfl, hb2⟩; have N2 := Aside0.mk (blk_below (by (with_reducible repeat (first | refine blk_drewN ?_ _ | refine blk_drew ?_)); exact N1.out) hb2); have H2 := Aside0.mk (below_step (by (with_reducible repeat (first | apply pw_below_drewN | apply below_drew1)); exact H1.out) hb2); clear hb2; have p0 : _ = some (Value.int .i64 1) := blk_cell N2.out 0; have p1 : _ = some (Value.bool false) := blk_cell N2.out 1; have p2 : _ = some (Value.string ⟨#[]⟩) := blk_cell N2.out 2; have p3 : _ = some (Value.bool false) := blk_cell N2.out 3; have p4 : _ = some (Value.string ⟨#[]⟩) := blk_cell N2.out 4; have p5 : _ = some (Value.bool false) := blk_cell N2.out 5; have p6 : _ = some (Value.string ⟨#[1]⟩) := blk_cell N2.out 6; have p7 : _ = some (Value.bool false) := blk_cell N2.out 7; have p8 : _ = some (Value.string ⟨#[]⟩) := blk_cell N2.out 8; have p9 : _ = some (Value.slice none 0 0) := blk_cell N2.out 9) | (go_at_call 27; refine (XN.voussoirref28_Ground.calls 20 false ⟨#[]⟩ false ⟨#[]⟩ false ⟨#[1]⟩ false ⟨#[]⟩ _ ground_fix).mono ?_; rintro e3 w3 ⟨rfl, hb3⟩; have N3 := Aside0.mk (blk_below (by (with_reducible repeat (first | refine blk_drewN ?_ _ | refine blk_drew ?_)); exact N2.out) hb3); have H3 := Aside0.mk (below_step (by (with_reducible repeat (first | apply pw_below_drewN | apply below_drew1)); exact H2.out) hb3); clear hb3; have q0 : _ = some (Value.int .i64 1) := blk_cell N3.out 0; have q1 : _ = some (Value.bool false) := blk_cell N3.out 1; have q2 : _ = some (Value.string ⟨#[]⟩) := blk_cell N3.out 2; have q3 : _ = some (Value.bool false) := blk_cell N3.out 3; have q4 : _ = some (Value.string ⟨#[]⟩) := blk_cell N3.out 4; have q5 : _ = some (Value.bool false) := blk_cell N3.out 5; have q6 : _ = some (Value.string ⟨#[1]⟩) := blk_cell N3.out 6; have q7 : _ = some (Value.bool false) := blk_cell N3.out 7; have q8 : _ = some (Value.string ⟨#[]⟩) := blk_cell N3.out 8; have q9 : _ = some (Value.slice none 0 0) := blk_cell N3.out 9))
  all_goals
    go_wp2_with fail
    go_ret
    exact ⟨rfl, (by (with_reducible repeat (first | apply pw_below_drewN | apply below_drew1)); exact H3.out)⟩
end Go.Proofs.YtkceipkedmfeiaaGreatDoor.XU

namespace Go.Proofs.YtkceipkedmfeiaaGreatDoor.XU
open Go Go.RowKit Go.Shelf Go.Proofs.YtkceipkedmfeiaaGreatDoorW.PrintWords Go.Proofs.YtkceipkedmfeiaaGreatDoorW.PrintLast Go.Proofs.YtkceipkedmfeiaaGreatDoorW.PrintMore

def wt10 (l : List ByteArray) : Nat := (l.map fun s => 10 + s.size).sum
theorem wt10_snoc (l : List ByteArray) (n : Nat) (h : n < l.length) : wt10 (l.take (n + 1)) = wt10 (l.take n) + (10 + l[n].size) := by
  unfold wt10
  rw [List.take_succ_eq_append_getElem h, List.map_append, List.sum_append]
  simp only [List.map_cons, List.map_nil, List.sum_cons, List.sum_nil, Nat.add_zero]
theorem wt10_take (l : List ByteArray) (n : Nat) : wt10 (l.take n) ≤ wt10 l := by
  have : wt10 l = wt10 (l.take n) + wt10 (l.drop n) := by
    unfold wt10
    rw [← List.sum_append, ← List.map_append, List.take_append_drop]
  omega
def greatOf (t : ByteArray) (l : List ByteArray) : Int := if t.size + wt10 l > 2000 then 1 else 0

set_option maxHeartbeats 800000 in
theorem Great_nil (T : ByteArray) (l : List ByteArray) (A : Option Addr) (c : Nat) (w : World) (hr : Kd.C Kd.string w A l.length l) (hb : T.size + wt10 l < 4611686018427387904) (hl : l.length < 4611686018427387904) :
    Calls Tryz.prog 9 #[.slice none 0 0, .slice none 0 0, .agg #[.string T, .slice A l.length c]] w fun e w' => e = .returned (.int .i64 (greatOf T l)) ∧ Below w.heap.size w w' := by
  have R := Aside0.mk hr
  clear hr
  go_enter Tryz.func9, Tryz.ntmps9
  go_wp2_with fail
  go_loop [7, 21] (fun v i => ∃ n : Nat, n ≤ l.length ∧ i = .int .i64 n ∧ v = .int .i64 ((T.size + wt10 (l.take n) : Nat) : Int)) (fun _ i => l.length - (RowKit.intOf i).toNat)
  case atStart => exact ⟨0, Nat.zero_le _, rfl, by simp [wt10]⟩
  case round =>
    obtain ⟨n, hn, rfl, rfl⟩ := hrel
    have hle := wt10_take l n
    by_cases hlt : n < l.length
    · obtain ⟨b, o, rfl, -, hcell⟩ := C_string_cells R.out (by omega)
      have hx := hcell n l[n] (List.getElem?_eq_getElem hlt)
      have hxa := (below_alloc (Below.refl w.heap.size w) (.cells #[.string T, .slice (some ⟨b, o, none⟩) l.length c] 26)).cell (World.block_lt_of_cell? _ _ hx) |>.trans hx
      have hs := wt10_snoc l n hlt
      have hle2 := wt10_take l (n + 1)
      have HS := Aside0.mk hs
      have HL2 := Aside0.mk hle2
      clear hx hcell hle2
      go_wp2_with fail
      go_round
      case rel => exact ⟨n + 1, hlt, by go_num, by
        rw [HS.out]
        congr 1
        have := HS.out
        have := HL2.out
        unfold wrap64
        omega⟩
      case measure => simp [RowKit.intOf]; omega
    · obtain rfl : n = l.length := by omega
      rw [List.take_length] at hle ⊢
      obtain ⟨N, hN⟩ : ∃ N : Nat, N = T.size + wt10 l := ⟨_, rfl⟩
      rw [← hN]
      by_cases hg : N > 2000
      · have hg1 : decide (2000 < (N : Int)) = true := decide_eq_true (by omega)
        have hg2 : decide (2000 < N) = true := decide_eq_true hg
        have hgo : (1 : Int) = greatOf T l := (if_pos (hN ▸ hg)).symm
        have HG := Aside0.mk hgo
        clear hg hgo hN hle
        go_wp2_with fail
        refine wp_loop_rounds 1 ?_
        rw [rounds_succ]
        go_wp2_with fail
        refine wp_loop_rounds 1 ?_
        rw [rounds_succ]
        go_wp2_with fail
        go_ret
        exact ⟨congrArg (fun z => Ending.returned (.int .i64 z)) HG.out, below_alloc (Below.refl _ _) _⟩
      · have hg1 : decide (2000 < (N : Int)) = false := decide_eq_false (by omega)
        have hg2 : decide (2000 < N) = false := decide_eq_false hg
        have hgo : (0 : Int) = greatOf T l := (if_neg (hN ▸ hg)).symm
        have HG := Aside0.mk hgo
        clear hg hgo hN hle
        go_wp2_with fail
        refine wp_loop_rounds 1 ?_
        rw [rounds_succ]
        go_wp2_with fail
        refine wp_loop_rounds 1 ?_
        rw [rounds_succ]
        go_wp2_with fail
        go_ret
        exact ⟨congrArg (fun z => Ending.returned (.int .i64 z)) HG.out, below_alloc (Below.refl _ _) _⟩
end Go.Proofs.YtkceipkedmfeiaaGreatDoor.XU
