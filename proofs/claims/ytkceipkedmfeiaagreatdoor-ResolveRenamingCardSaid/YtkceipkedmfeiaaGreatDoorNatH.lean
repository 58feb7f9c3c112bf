/- math/bits.Div32 in its good case, math/bits.Sub32; words of bits. -/
import Derived.Test.YtkceipkedmfeiaaGreatDoorWWords
import Derived.Test.YtkceipkedmfeiaaGreatDoorWLast
import Derived.Test.YtkceipkedmfeiaaGreatDoorWMore
import Derived.Test.YtkceipkedmfeiaaGreatDoorProg
import Derived.WalkKit
import Derived.WalkSpells
import Derived.Lib.Hide
import Derived.Deep.RegionWith
import Derived.Deep.QuietTactic
import Derived.BigQuiet
import Derived.RegionTactic
import Derived.Outline
import Derived.OwnWalk
namespace Go.Proofs.NatBits
open Go
set_option linter.unusedSimpArgs false

theorem wrap_u64_of {x : Int} (h0 : 0 ≤ x) (h1 : x < 18446744073709551616) : IntKind.u64.wrap x = x := by
  unfold IntKind.wrap; simp [IntKind.bits, IntKind.signed]; omega
theorem bits_or_hi (hi lo : Int) (h0 : 0 ≤ hi) (h1 : hi < 4294967296) (h2 : 0 ≤ lo) (h3 : lo < 4294967296) :
    bits .or .u64 (hi * 4294967296) lo = hi * 4294967296 + lo := by
  obtain ⟨a, rfl⟩ := Int.eq_ofNat_of_zero_le h0
  obtain ⟨b, rfl⟩ := Int.eq_ofNat_of_zero_le h2
  unfold bits
  have e1 : (BitVec.ofInt 64 ((a : Int) * 4294967296)).toNat = a * 4294967296 := by
    rw [BitVec.toNat_ofInt]; omega
  have e2 : (BitVec.ofInt 64 (b : Int)).toNat = b := by
    rw [BitVec.toNat_ofInt]; omega
  have e : (BitVec.ofInt 64 ((a : Int) * 4294967296) ||| BitVec.ofInt 64 (b : Int)).toNat = a * 4294967296 + b := by
    rw [BitVec.toNat_or, e1, e2]
    have := Nat.shiftLeft_add_eq_or_of_lt (i := 32) (a := a) (b := b) (by omega)
    rw [Nat.shiftLeft_eq] at this
    exact this.symm
  show IntKind.u64.wrap ((BitVec.ofInt 64 ((a : Int) * 4294967296) ||| BitVec.ofInt 64 (b : Int)).toNat : Int) = _
  rw [e, wrap_u64_of (by omega) (by omega)]
  omega

end Go.Proofs.NatBits
namespace Go.Proofs.YtkceipkedmfeiaaGreatDoor.NatH
open Go Go.RowKit Go.Proofs.YtkceipkedmfeiaaGreatDoorW.PrintWords Go.Proofs.YtkceipkedmfeiaaGreatDoorW.PrintLast Go.Proofs.YtkceipkedmfeiaaGreatDoorW.PrintMore Go.Proofs.NatBits

set_option maxHeartbeats 400000 in
theorem Div32_any (hi lo y : Int) (w : World) (h0 : 0 ≤ hi) (h1 : hi < y) (h2 : y < 4294967296) (h3 : 0 ≤ lo) (h4 : lo < 4294967296) :
    Calls Tryz.prog 173 #[.int .u32 hi, .int .u32 lo, .int .u32 y] w fun e w' => e = .returned (.tuple #[.int .u32 ((hi * 4294967296 + lo) / y), .int .u32 ((hi * 4294967296 + lo) % y)]) ∧ Drawn0 w w' := by
  obtain ⟨z, hz⟩ : ∃ z, z = hi * 4294967296 + lo := ⟨_, rfl⟩
  have hor := bits_or_hi hi lo h0 (by omega) h3 h4
  have hq0 : 0 ≤ z / y := Int.ediv_nonneg (by omega) (by omega)
  have hq1 : z / y < 4294967296 := Int.ediv_lt_of_lt_mul (by omega) (by
    have : (hi + 1) * 4294967296 ≤ y * 4294967296 := Int.mul_le_mul_of_nonneg_right (by omega) (by omega)
    rw [Int.mul_comm 4294967296 y]; omega)
  have hr0 : 0 ≤ z % y := Int.emod_nonneg _ (by omega)
  have hr1 : z % y < 4294967296 := by have := Int.emod_lt_of_pos z (show 0 < y by omega); omega
  rw [← hz] at hor ⊢
  have hz0 : 0 ≤ z := by omega
  have hz1 : z < 18446744073709551616 := by omega
  clear hz
  have hy : (y != 0) = true := by rw [bne_iff_ne]; omega
  have hle : decide (y ≤ hi) = false := by simpa using h1
  have hy0 : 0 < y := by omega
  go_enter Tryz.func173, Tryz.ntmps173
  go_wp2_with fail
  go_quiet (fail)
  go_wp2_with fail
  go_ret2
  exact ⟨rfl, ⟨nq, rfl⟩⟩

end Go.Proofs.YtkceipkedmfeiaaGreatDoor.NatH

namespace Go.Proofs.YtkceipkedmfeiaaGreatDoorW.PrintWords
theorem ne_nil_b (l : List UInt8) : (l != ([] : List UInt8)) = !l.isEmpty := by cases l <;> rfl
end Go.Proofs.YtkceipkedmfeiaaGreatDoorW.PrintWords
namespace Go.Proofs.YtkceipkedmfeiaaGreatDoorW.PrintWords.Kd
open Go Go.RowKit
variable {P : Program} {ops : Array Oper} {rest : List Oper} {o : Oper} {a : Act} {Q : Exit → Act → World → Prop} {α : Type}
/-- make([]T, 0, m): no element, room for m. -/
theorem R_make0 (d : Kd α) {w0 W : World} (base e : Nat) (hgd : o.guard = none) {N : Tmp} (_hd : o.dst = some N) (t : TypeId) (x y : Operand) (ho : o.op = .makeSlice t x y) (m : Int) (hx : a.eval x = .int .i64 0) (hy : a.eval y = .int .i64 m)
    (ht : P.underlying t = some (.slice e)) (z : Value) (bytes : Nat) (hinfo : (P.info? e).map (fun i => (i.zero, i.size, i.bytes)) = some (some z, d.sz, bytes)) (hb0 : 0 < bytes)
    (z0 : α) {ok : Nat → Prop} (hfresh : ok W.heap.size) (h0 : 0 ≤ m) (hl : m.toNat * bytes ≤ 281474976710656) (HB : Below base w0 W) (hbase : base ≤ W.heap.size)
    (h : ∀ v1 w1, d.R e w1 base ok v1 (List.replicate 0 z0) → Below base w0 w1 → W.grownBy w1 none → (∃ b, v1.ownBlock = some b ∧ W.heap.size ≤ b) → wpList P ops Q rest (a.put o.dst v1) w1) : wpList P ops Q (o :: rest) a W := by
  obtain ⟨n, rfl⟩ := Int.eq_ofNat_of_zero_le h0
  simp only [Int.toNat_natCast] at hl
  obtain ⟨i0, hi, hzz⟩ := Option.map_eq_some_iff.1 hinfo
  simp only [Prod.mk.injEq] at hzz
  obtain ⟨hz0, hz1, hz2⟩ := hzz
  have hn : n ≤ 281474976710656 := Nat.le_trans (Nat.le_mul_of_pos_right _ hb0) hl
  refine wpList_make_own W hgd x y t ho base e i0 z d.sz ht hi hz0 hz1 .i64 .i64 (n : Int) n hx hy rfl (by rw [hz2, Nat.mul_comm]; exact hl) (by unfold maxLen; omega) hbase ?_
  intro w' hown hgr
  refine h _ w' ⟨fun k hk => ?_, [], hown, Reps.none _ _⟩ (HB.grown hgr hbase (fun k hk => by cases hk)) hgr ⟨W.heap.size, by simp [Value.ownBlock], Nat.le_refl _⟩
  have : W.heap.size = k := by simpa [Value.ownBlock] using hk
  subst this
  exact hfresh
end Go.Proofs.YtkceipkedmfeiaaGreatDoorW.PrintWords.Kd
