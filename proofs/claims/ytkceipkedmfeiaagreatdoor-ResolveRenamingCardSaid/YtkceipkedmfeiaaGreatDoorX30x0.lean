-- Written by wip/tools/xprint.py out of the translation (the kit's printer with contracts of this session's own). Lean checks it.
import Derived.Test.YtkceipkedmfeiaaGreatDoorProg
import Derived.Below
import Derived.Deep.Draws
import Derived.Deep.AppendLies
import Derived.Maps.AppendAt
import Derived.OwnWalk
import Derived.Laws.BytesArg
import Derived.Laws.MakeOwn
import Derived.Laws.OwnMore
import Derived.Deep.OwnRows
import Derived.Tactics
import Derived.Lib.ConvBytes
import Derived.Laws.Slices
import Derived.WalkKit
import Derived.KernelRfl
import Derived.RowKit3
import Derived.Deep.LoopGhost
import Derived.Deep.QuietTactic
import Derived.BigQuiet
import Derived.WideLaws
import Derived.Deep.DeepCutAuto
import Derived.Deep.CutBlock
import Derived.Deep.RegionHeld3
import Derived.Laws.Rows
import Derived.Lib.AppendStr
import Derived.ArgAppend
import Derived.Laws.IdiomCopy
import Derived.OrdersHeld
import Derived.Laws.BitsLemmas
import Derived.RowKit
import Derived.Laws.Cover1
import Derived.Test.YtkceipkedmfeiaaGreatDoorShelf
import Derived.Test.YtkceipkedmfeiaaGreatDoorEnv
import Derived.Test.YtkceipkedmfeiaaGreatDoorLibS
import Derived.Test.YtkceipkedmfeiaaGreatDoorWWords
import Derived.Test.YtkceipkedmfeiaaGreatDoorWLast
import Derived.Test.YtkceipkedmfeiaaGreatDoorWTab
import Derived.Test.YtkceipkedmfeiaaGreatDoorWFour
import Derived.Test.YtkceipkedmfeiaaGreatDoorWQPut
import Derived.Test.YtkceipkedmfeiaaGreatDoorWApart
import Derived.Test.YtkceipkedmfeiaaGreatDoorWArr
import Derived.Test.YtkceipkedmfeiaaGreatDoorWZeros
import Derived.Test.YtkceipkedmfeiaaGreatDoorWFoot
import Derived.Test.YtkceipkedmfeiaaGreatDoorWKept
import Derived.Test.YtkceipkedmfeiaaGreatDoorWShare
import Derived.Test.YtkceipkedmfeiaaGreatDoorWN
import Derived.Test.YtkceipkedmfeiaaGreatDoorWFootNe
import Derived.Test.YtkceipkedmfeiaaGreatDoorWAt
import Derived.Test.YtkceipkedmfeiaaGreatDoorWEqStruct
import Derived.Test.YtkceipkedmfeiaaGreatDoorWRepsOne
import Derived.Test.YtkceipkedmfeiaaGreatDoorWInv
import Derived.Test.YtkceipkedmfeiaaGreatDoorWInvWords
import Derived.Test.YtkceipkedmfeiaaGreatDoorWGuard
import Derived.Test.YtkceipkedmfeiaaGreatDoorWNEv
import Derived.Test.YtkceipkedmfeiaaGreatDoorWMore
namespace Go.Proofs.YtkceipkedmfeiaaGreatDoor.X30
open Go.RowKit Go.Proofs.YtkceipkedmfeiaaGreatDoorW.PrintWords Go.Proofs.YtkceipkedmfeiaaGreatDoorW.PrintLast Go.Proofs.YtkceipkedmfeiaaGreatDoorW.PrintMore
attribute [local go_sem] max2_int min2_int max_two min_two max_three min_three max_four min_four   -- for this text's walks alone
set_option linter.unusedVariables false
set_option linter.unusedSimpArgs false



def errW : Option Int → Value
  | none => .nilIface
  | some c => .iface 0 (.int .i64 c)
theorem errW_none : errW none = .nilIface := rfl
theorem errW_some (c : Int) : errW (some c) = .iface 0 (.int .i64 c) := rfl

theorem info9 : (Tryz.prog.info? 9).map (fun i => (i.zero, i.size, i.bytes)) = some (some (.string ⟨#[]⟩), 1, 16) := by kernel_rfl
-- the values' own types
def rd_L1 (xs : List (List ByteArray)) (i : Int) : (List ByteArray) := xs.getD i.toNat ([] : List ByteArray)
theorem at_L1 {w : World} {A : Option Addr} {n : Nat} {xs : List (List ByteArray)} (h : Kd.C (Kd.slice 9 Kd.string) w A n xs) (i : Int) (h0 : 0 ≤ i) (h1 : i < n) : ∃ ad A0 c0, A = some ad ∧ w.cell? (ad.add i.toNat) = some (.slice A0 (rd_L1 xs i).length c0) ∧ (rd_L1 xs i).length ≤ c0 ∧ Kd.string.C w A0 (rd_L1 xs i).length (rd_L1 xs i) := by
  obtain ⟨ad, c, e, _, hK, hc0⟩ := Kd.C_get h ([] : List ByteArray) i h0 h1
  have hc : ∀ j u, c[j]? = some u → w.cell? (ad.add (i.toNat * 1 + j)) = some u := hc0
  obtain ⟨A0, c0, rfl, l0, g0⟩ := hK
  exact ⟨ad, A0, c0, e, by have hq := hc 0 _ rfl; rwa [Nat.mul_one, Nat.add_zero] at hq, l0, g0⟩

/-! #### struct type 31 -/
structure S31 where
  f0 : Bool
  f1 : ByteArray
def z31 : S31 := ⟨false, (⟨#[]⟩ : ByteArray)⟩
def k31 : Kd S31 := Kd.iso (Kd.pair Kd.bool Kd.string) (fun x : S31 => (x.f0, x.f1))
theorem k31_open {w : World} {x : S31} {cs : List Value} (h : k31.K w x cs) : cs = [.bool x.f0, .string x.f1] := by
  obtain ⟨_, _, rfl, rfl, rfl⟩ := h
  exact rfl
theorem k31_openM {w : World} {base : Nat} {ok : Nat → Prop} {x : S31} {cs : List Value} (h : k31.M w base ok x cs) : cs = [.bool x.f0, .string x.f1] := by
  obtain ⟨_, _, rfl, rfl, rfl⟩ := h
  exact rfl
theorem k31_mk (w : World) (x : S31)  : k31.K w x [.bool x.f0, .string x.f1] := ⟨[.bool x.f0], [.string x.f1], rfl, rfl, rfl⟩
theorem k31_mkM (w : World) (base : Nat) (ok : Nat → Prop) (x : S31)  : k31.M w base ok x [.bool x.f0, .string x.f1] := ⟨[.bool x.f0], [.string x.f1], rfl, rfl, rfl⟩
def rd_T31 (xs : List S31) (i : Int) : S31 := xs.getD i.toNat z31
theorem at_T31 {w : World} {A : Option Addr} {n : Nat} {xs : List S31} (h : Kd.C k31 w A n xs) (i : Int) (h0 : 0 ≤ i) (h1 : i < n) : ∃ ad , A = some ad ∧ w.cell? (ad.add (i.toNat * 2)) = some (.bool (rd_T31 xs i).f0) ∧ w.cell? ⟨(ad.add (i.toNat * 2)).block, (ad.add (i.toNat * 2)).off + 1, none⟩ = some (.string (rd_T31 xs i).f1) := by
  obtain ⟨ad, c, e, _, hK, hc0⟩ := Kd.C_get h z31 i h0 h1
  have hc : ∀ j u, c[j]? = some u → w.cell? (ad.add (i.toNat * 2 + j)) = some u := hc0
  obtain rfl := k31_open hK
  exact ⟨ad, e, hc 0 _ rfl, by rw [← add_field _ _ 1 (by omega)]; exact hc 1 _ rfl⟩

/-! #### struct type 33 -/
structure S33 where
  f0 : S31
  f1 : S31
  f2 : S31
  f3 : S31
def z33 : S33 := ⟨z31, z31, z31, z31⟩
def k33 : Kd S33 := Kd.iso (Kd.pair k31 (Kd.pair k31 (Kd.pair k31 k31))) (fun x : S33 => (x.f0, x.f1, x.f2, x.f3))
theorem k33_open {w : World} {x : S33} {cs : List Value} (h : k33.K w x cs) : cs = [.bool x.f0.f0, .string x.f0.f1, .bool x.f1.f0, .string x.f1.f1, .bool x.f2.f0, .string x.f2.f1, .bool x.f3.f0, .string x.f3.f1] := by
  obtain ⟨_, _, rfl, s0, ⟨_, _, rfl, s2, ⟨_, _, rfl, s4, s6⟩⟩⟩ := h
  obtain rfl := k31_open s0
  obtain rfl := k31_open s2
  obtain rfl := k31_open s4
  obtain rfl := k31_open s6
  exact rfl
theorem k33_openM {w : World} {base : Nat} {ok : Nat → Prop} {x : S33} {cs : List Value} (h : k33.M w base ok x cs) : cs = [.bool x.f0.f0, .string x.f0.f1, .bool x.f1.f0, .string x.f1.f1, .bool x.f2.f0, .string x.f2.f1, .bool x.f3.f0, .string x.f3.f1] := by
  obtain ⟨_, _, rfl, s0, ⟨_, _, rfl, s2, ⟨_, _, rfl, s4, s6⟩⟩⟩ := h
  obtain rfl := k31_openM s0
  obtain rfl := k31_openM s2
  obtain rfl := k31_openM s4
  obtain rfl := k31_openM s6
  exact rfl
theorem k33_mk (w : World) (x : S33)  : k33.K w x [.bool x.f0.f0, .string x.f0.f1, .bool x.f1.f0, .string x.f1.f1, .bool x.f2.f0, .string x.f2.f1, .bool x.f3.f0, .string x.f3.f1] := ⟨[.bool x.f0.f0, .string x.f0.f1], [.bool x.f1.f0, .string x.f1.f1, .bool x.f2.f0, .string x.f2.f1, .bool x.f3.f0, .string x.f3.f1], rfl, (k31_mk w x.f0 ), ⟨[.bool x.f1.f0, .string x.f1.f1], [.bool x.f2.f0, .string x.f2.f1, .bool x.f3.f0, .string x.f3.f1], rfl, (k31_mk w x.f1 ), ⟨[.bool x.f2.f0, .string x.f2.f1], [.bool x.f3.f0, .string x.f3.f1], rfl, (k31_mk w x.f2 ), (k31_mk w x.f3 )⟩⟩⟩
theorem k33_mkM (w : World) (base : Nat) (ok : Nat → Prop) (x : S33)  : k33.M w base ok x [.bool x.f0.f0, .string x.f0.f1, .bool x.f1.f0, .string x.f1.f1, .bool x.f2.f0, .string x.f2.f1, .bool x.f3.f0, .string x.f3.f1] := ⟨[.bool x.f0.f0, .string x.f0.f1], [.bool x.f1.f0, .string x.f1.f1, .bool x.f2.f0, .string x.f2.f1, .bool x.f3.f0, .string x.f3.f1], rfl, (k31_mkM w base ok x.f0 ), ⟨[.bool x.f1.f0, .string x.f1.f1], [.bool x.f2.f0, .string x.f2.f1, .bool x.f3.f0, .string x.f3.f1], rfl, (k31_mkM w base ok x.f1 ), ⟨[.bool x.f2.f0, .string x.f2.f1], [.bool x.f3.f0, .string x.f3.f1], rfl, (k31_mkM w base ok x.f2 ), (k31_mkM w base ok x.f3 )⟩⟩⟩
def rd_T33 (xs : List S33) (i : Int) : S33 := xs.getD i.toNat z33
theorem at_T33 {w : World} {A : Option Addr} {n : Nat} {xs : List S33} (h : Kd.C k33 w A n xs) (i : Int) (h0 : 0 ≤ i) (h1 : i < n) : ∃ ad , A = some ad ∧ w.cell? (ad.add (i.toNat * 8)) = some (.bool (rd_T33 xs i).f0.f0) ∧ w.cell? ⟨(ad.add (i.toNat * 8)).block, (ad.add (i.toNat * 8)).off + 1, none⟩ = some (.string (rd_T33 xs i).f0.f1) ∧ w.cell? ⟨(ad.add (i.toNat * 8)).block, (ad.add (i.toNat * 8)).off + 2, none⟩ = some (.bool (rd_T33 xs i).f1.f0) ∧ w.cell? ⟨(ad.add (i.toNat * 8)).block, (ad.add (i.toNat * 8)).off + 3, none⟩ = some (.string (rd_T33 xs i).f1.f1) ∧ w.cell? ⟨(ad.add (i.toNat * 8)).block, (ad.add (i.toNat * 8)).off + 4, none⟩ = some (.bool (rd_T33 xs i).f2.f0) ∧ w.cell? ⟨(ad.add (i.toNat * 8)).block, (ad.add (i.toNat * 8)).off + 5, none⟩ = some (.string (rd_T33 xs i).f2.f1) ∧ w.cell? ⟨(ad.add (i.toNat * 8)).block, (ad.add (i.toNat * 8)).off + 6, none⟩ = some (.bool (rd_T33 xs i).f3.f0) ∧ w.cell? ⟨(ad.add (i.toNat * 8)).block, (ad.add (i.toNat * 8)).off + 7, none⟩ = some (.string (rd_T33 xs i).f3.f1) := by
  obtain ⟨ad, c, e, _, hK, hc0⟩ := Kd.C_get h z33 i h0 h1
  have hc : ∀ j u, c[j]? = some u → w.cell? (ad.add (i.toNat * 8 + j)) = some u := hc0
  obtain rfl := k33_open hK
  exact ⟨ad, e, hc 0 _ rfl, by rw [← add_field _ _ 1 (by omega)]; exact hc 1 _ rfl, by rw [← add_field _ _ 2 (by omega)]; exact hc 2 _ rfl, by rw [← add_field _ _ 3 (by omega)]; exact hc 3 _ rfl, by rw [← add_field _ _ 4 (by omega)]; exact hc 4 _ rfl, by rw [← add_field _ _ 5 (by omega)]; exact hc 5 _ rfl, by rw [← add_field _ _ 6 (by omega)]; exact hc 6 _ rfl, by rw [← add_field _ _ 7 (by omega)]; exact hc 7 _ rfl⟩

/-! #### struct type 50 -/
structure S50 where
  f0 : ByteArray
  f1 : S33
def z50 : S50 := ⟨(⟨#[]⟩ : ByteArray), z33⟩
def k50 : Kd S50 := Kd.iso (Kd.pair Kd.string k33) (fun x : S50 => (x.f0, x.f1))
theorem k50_open {w : World} {x : S50} {cs : List Value} (h : k50.K w x cs) : cs = [.string x.f0, .bool x.f1.f0.f0, .string x.f1.f0.f1, .bool x.f1.f1.f0, .string x.f1.f1.f1, .bool x.f1.f2.f0, .string x.f1.f2.f1, .bool x.f1.f3.f0, .string x.f1.f3.f1] := by
  obtain ⟨_, _, rfl, rfl, s1⟩ := h
  obtain rfl := k33_open s1
  exact rfl
theorem k50_openM {w : World} {base : Nat} {ok : Nat → Prop} {x : S50} {cs : List Value} (h : k50.M w base ok x cs) : cs = [.string x.f0, .bool x.f1.f0.f0, .string x.f1.f0.f1, .bool x.f1.f1.f0, .string x.f1.f1.f1, .bool x.f1.f2.f0, .string x.f1.f2.f1, .bool x.f1.f3.f0, .string x.f1.f3.f1] := by
  obtain ⟨_, _, rfl, rfl, s1⟩ := h
  obtain rfl := k33_openM s1
  exact rfl
theorem k50_mk (w : World) (x : S50)  : k50.K w x [.string x.f0, .bool x.f1.f0.f0, .string x.f1.f0.f1, .bool x.f1.f1.f0, .string x.f1.f1.f1, .bool x.f1.f2.f0, .string x.f1.f2.f1, .bool x.f1.f3.f0, .string x.f1.f3.f1] := ⟨[.string x.f0], [.bool x.f1.f0.f0, .string x.f1.f0.f1, .bool x.f1.f1.f0, .string x.f1.f1.f1, .bool x.f1.f2.f0, .string x.f1.f2.f1, .bool x.f1.f3.f0, .string x.f1.f3.f1], rfl, rfl, (k33_mk w x.f1 )⟩
theorem k50_mkM (w : World) (base : Nat) (ok : Nat → Prop) (x : S50)  : k50.M w base ok x [.string x.f0, .bool x.f1.f0.f0, .string x.f1.f0.f1, .bool x.f1.f1.f0, .string x.f1.f1.f1, .bool x.f1.f2.f0, .string x.f1.f2.f1, .bool x.f1.f3.f0, .string x.f1.f3.f1] := ⟨[.string x.f0], [.bool x.f1.f0.f0, .string x.f1.f0.f1, .bool x.f1.f1.f0, .string x.f1.f1.f1, .bool x.f1.f2.f0, .string x.f1.f2.f1, .bool x.f1.f3.f0, .string x.f1.f3.f1], rfl, rfl, (k33_mkM w base ok x.f1 )⟩
def rd_T50 (xs : List S50) (i : Int) : S50 := xs.getD i.toNat z50
theorem at_T50 {w : World} {A : Option Addr} {n : Nat} {xs : List S50} (h : Kd.C k50 w A n xs) (i : Int) (h0 : 0 ≤ i) (h1 : i < n) : ∃ ad , A = some ad ∧ w.cell? (ad.add (i.toNat * 9)) = some (.string (rd_T50 xs i).f0) ∧ w.cell? ⟨(ad.add (i.toNat * 9)).block, (ad.add (i.toNat * 9)).off + 1, none⟩ = some (.bool (rd_T50 xs i).f1.f0.f0) ∧ w.cell? ⟨(ad.add (i.toNat * 9)).block, (ad.add (i.toNat * 9)).off + 2, none⟩ = some (.string (rd_T50 xs i).f1.f0.f1) ∧ w.cell? ⟨(ad.add (i.toNat * 9)).block, (ad.add (i.toNat * 9)).off + 3, none⟩ = some (.bool (rd_T50 xs i).f1.f1.f0) ∧ w.cell? ⟨(ad.add (i.toNat * 9)).block, (ad.add (i.toNat * 9)).off + 4, none⟩ = some (.string (rd_T50 xs i).f1.f1.f1) ∧ w.cell? ⟨(ad.add (i.toNat * 9)).block, (ad.add (i.toNat * 9)).off + 5, none⟩ = some (.bool (rd_T50 xs i).f1.f2.f0) ∧ w.cell? ⟨(ad.add (i.toNat * 9)).block, (ad.add (i.toNat * 9)).off + 6, none⟩ = some (.string (rd_T50 xs i).f1.f2.f1) ∧ w.cell? ⟨(ad.add (i.toNat * 9)).block, (ad.add (i.toNat * 9)).off + 7, none⟩ = some (.bool (rd_T50 xs i).f1.f3.f0) ∧ w.cell? ⟨(ad.add (i.toNat * 9)).block, (ad.add (i.toNat * 9)).off + 8, none⟩ = some (.string (rd_T50 xs i).f1.f3.f1) := by
  obtain ⟨ad, c, e, _, hK, hc0⟩ := Kd.C_get h z50 i h0 h1
  have hc : ∀ j u, c[j]? = some u → w.cell? (ad.add (i.toNat * 9 + j)) = some u := hc0
  obtain rfl := k50_open hK
  exact ⟨ad, e, hc 0 _ rfl, by rw [← add_field _ _ 1 (by omega)]; exact hc 1 _ rfl, by rw [← add_field _ _ 2 (by omega)]; exact hc 2 _ rfl, by rw [← add_field _ _ 3 (by omega)]; exact hc 3 _ rfl, by rw [← add_field _ _ 4 (by omega)]; exact hc 4 _ rfl, by rw [← add_field _ _ 5 (by omega)]; exact hc 5 _ rfl, by rw [← add_field _ _ 6 (by omega)]; exact hc 6 _ rfl, by rw [← add_field _ _ 7 (by omega)]; exact hc 7 _ rfl, by rw [← add_field _ _ 8 (by omega)]; exact hc 8 _ rfl⟩

/-! #### struct type 232 -/
structure S232 where
  f0 : S31
  f1 : S31
  f2 : S31
  f3 : S31
def z232 : S232 := ⟨z31, z31, z31, z31⟩
def k232 : Kd S232 := Kd.iso (Kd.pair k31 (Kd.pair k31 (Kd.pair k31 k31))) (fun x : S232 => (x.f0, x.f1, x.f2, x.f3))
theorem k232_open {w : World} {x : S232} {cs : List Value} (h : k232.K w x cs) : cs = [.bool x.f0.f0, .string x.f0.f1, .bool x.f1.f0, .string x.f1.f1, .bool x.f2.f0, .string x.f2.f1, .bool x.f3.f0, .string x.f3.f1] := by
  obtain ⟨_, _, rfl, s0, ⟨_, _, rfl, s2, ⟨_, _, rfl, s4, s6⟩⟩⟩ := h
  obtain rfl := k31_open s0
  obtain rfl := k31_open s2
  obtain rfl := k31_open s4
  obtain rfl := k31_open s6
  exact rfl
theorem k232_openM {w : World} {base : Nat} {ok : Nat → Prop} {x : S232} {cs : List Value} (h : k232.M w base ok x cs) : cs = [.bool x.f0.f0, .string x.f0.f1, .bool x.f1.f0, .string x.f1.f1, .bool x.f2.f0, .string x.f2.f1, .bool x.f3.f0, .string x.f3.f1] := by
  obtain ⟨_, _, rfl, s0, ⟨_, _, rfl, s2, ⟨_, _, rfl, s4, s6⟩⟩⟩ := h
  obtain rfl := k31_openM s0
  obtain rfl := k31_openM s2
  obtain rfl := k31_openM s4
  obtain rfl := k31_openM s6
  exact rfl
theorem k232_mk (w : World) (x : S232)  : k232.K w x [.bool x.f0.f0, .string x.f0.f1, .bool x.f1.f0, .string x.f1.f1, .bool x.f2.f0, .string x.f2.f1, .bool x.f3.f0, .string x.f3.f1] := ⟨[.bool x.f0.f0, .string x.f0.f1], [.bool x.f1.f0, .string x.f1.f1, .bool x.f2.f0, .string x.f2.f1, .bool x.f3.f0, .string x.f3.f1], rfl, (k31_mk w x.f0 ), ⟨[.bool x.f1.f0, .string x.f1.f1], [.bool x.f2.f0, .string x.f2.f1, .bool x.f3.f0, .string x.f3.f1], rfl, (k31_mk w x.f1 ), ⟨[.bool x.f2.f0, .string x.f2.f1], [.bool x.f3.f0, .string x.f3.f1], rfl, (k31_mk w x.f2 ), (k31_mk w x.f3 )⟩⟩⟩
theorem k232_mkM (w : World) (base : Nat) (ok : Nat → Prop) (x : S232)  : k232.M w base ok x [.bool x.f0.f0, .string x.f0.f1, .bool x.f1.f0, .string x.f1.f1, .bool x.f2.f0, .string x.f2.f1, .bool x.f3.f0, .string x.f3.f1] := ⟨[.bool x.f0.f0, .string x.f0.f1], [.bool x.f1.f0, .string x.f1.f1, .bool x.f2.f0, .string x.f2.f1, .bool x.f3.f0, .string x.f3.f1], rfl, (k31_mkM w base ok x.f0 ), ⟨[.bool x.f1.f0, .string x.f1.f1], [.bool x.f2.f0, .string x.f2.f1, .bool x.f3.f0, .string x.f3.f1], rfl, (k31_mkM w base ok x.f1 ), ⟨[.bool x.f2.f0, .string x.f2.f1], [.bool x.f3.f0, .string x.f3.f1], rfl, (k31_mkM w base ok x.f2 ), (k31_mkM w base ok x.f3 )⟩⟩⟩
def rd_T232 (xs : List S232) (i : Int) : S232 := xs.getD i.toNat z232
theorem at_T232 {w : World} {A : Option Addr} {n : Nat} {xs : List S232} (h : Kd.C k232 w A n xs) (i : Int) (h0 : 0 ≤ i) (h1 : i < n) : ∃ ad , A = some ad ∧ w.cell? (ad.add (i.toNat * 8)) = some (.bool (rd_T232 xs i).f0.f0) ∧ w.cell? ⟨(ad.add (i.toNat * 8)).block, (ad.add (i.toNat * 8)).off + 1, none⟩ = some (.string (rd_T232 xs i).f0.f1) ∧ w.cell? ⟨(ad.add (i.toNat * 8)).block, (ad.add (i.toNat * 8)).off + 2, none⟩ = some (.bool (rd_T232 xs i).f1.f0) ∧ w.cell? ⟨(ad.add (i.toNat * 8)).block, (ad.add (i.toNat * 8)).off + 3, none⟩ = some (.string (rd_T232 xs i).f1.f1) ∧ w.cell? ⟨(ad.add (i.toNat * 8)).block, (ad.add (i.toNat * 8)).off + 4, none⟩ = some (.bool (rd_T232 xs i).f2.f0) ∧ w.cell? ⟨(ad.add (i.toNat * 8)).block, (ad.add (i.toNat * 8)).off + 5, none⟩ = some (.string (rd_T232 xs i).f2.f1) ∧ w.cell? ⟨(ad.add (i.toNat * 8)).block, (ad.add (i.toNat * 8)).off + 6, none⟩ = some (.bool (rd_T232 xs i).f3.f0) ∧ w.cell? ⟨(ad.add (i.toNat * 8)).block, (ad.add (i.toNat * 8)).off + 7, none⟩ = some (.string (rd_T232 xs i).f3.f1) := by
  obtain ⟨ad, c, e, _, hK, hc0⟩ := Kd.C_get h z232 i h0 h1
  have hc : ∀ j u, c[j]? = some u → w.cell? (ad.add (i.toNat * 8 + j)) = some u := hc0
  obtain rfl := k232_open hK
  exact ⟨ad, e, hc 0 _ rfl, by rw [← add_field _ _ 1 (by omega)]; exact hc 1 _ rfl, by rw [← add_field _ _ 2 (by omega)]; exact hc 2 _ rfl, by rw [← add_field _ _ 3 (by omega)]; exact hc 3 _ rfl, by rw [← add_field _ _ 4 (by omega)]; exact hc 4 _ rfl, by rw [← add_field _ _ 5 (by omega)]; exact hc 5 _ rfl, by rw [← add_field _ _ 6 (by omega)]; exact hc 6 _ rfl, by rw [← add_field _ _ 7 (by omega)]; exact hc 7 _ rfl⟩

/-! #### struct type 234 -/
structure S234 where
  f0 : S232
  f1 : S232
  f2 : Int
def z234 : S234 := ⟨z232, z232, (0 : Int)⟩
def k234 : Kd S234 := Kd.iso (Kd.pair k232 (Kd.pair k232 (Kd.int .i64))) (fun x : S234 => (x.f0, x.f1, x.f2))
theorem k234_open {w : World} {x : S234} {cs : List Value} (h : k234.K w x cs) : cs = [.bool x.f0.f0.f0, .string x.f0.f0.f1, .bool x.f0.f1.f0, .string x.f0.f1.f1, .bool x.f0.f2.f0, .string x.f0.f2.f1, .bool x.f0.f3.f0, .string x.f0.f3.f1, .bool x.f1.f0.f0, .string x.f1.f0.f1, .bool x.f1.f1.f0, .string x.f1.f1.f1, .bool x.f1.f2.f0, .string x.f1.f2.f1, .bool x.f1.f3.f0, .string x.f1.f3.f1, .int .i64 x.f2] := by
  obtain ⟨_, _, rfl, s0, ⟨_, _, rfl, s8, rfl⟩⟩ := h
  obtain rfl := k232_open s0
  obtain rfl := k232_open s8
  exact rfl
theorem k234_openM {w : World} {base : Nat} {ok : Nat → Prop} {x : S234} {cs : List Value} (h : k234.M w base ok x cs) : cs = [.bool x.f0.f0.f0, .string x.f0.f0.f1, .bool x.f0.f1.f0, .string x.f0.f1.f1, .bool x.f0.f2.f0, .string x.f0.f2.f1, .bool x.f0.f3.f0, .string x.f0.f3.f1, .bool x.f1.f0.f0, .string x.f1.f0.f1, .bool x.f1.f1.f0, .string x.f1.f1.f1, .bool x.f1.f2.f0, .string x.f1.f2.f1, .bool x.f1.f3.f0, .string x.f1.f3.f1, .int .i64 x.f2] := by
  obtain ⟨_, _, rfl, s0, ⟨_, _, rfl, s8, rfl⟩⟩ := h
  obtain rfl := k232_openM s0
  obtain rfl := k232_openM s8
  exact rfl
theorem k234_mk (w : World) (x : S234)  : k234.K w x [.bool x.f0.f0.f0, .string x.f0.f0.f1, .bool x.f0.f1.f0, .string x.f0.f1.f1, .bool x.f0.f2.f0, .string x.f0.f2.f1, .bool x.f0.f3.f0, .string x.f0.f3.f1, .bool x.f1.f0.f0, .string x.f1.f0.f1, .bool x.f1.f1.f0, .string x.f1.f1.f1, .bool x.f1.f2.f0, .string x.f1.f2.f1, .bool x.f1.f3.f0, .string x.f1.f3.f1, .int .i64 x.f2] := ⟨[.bool x.f0.f0.f0, .string x.f0.f0.f1, .bool x.f0.f1.f0, .string x.f0.f1.f1, .bool x.f0.f2.f0, .string x.f0.f2.f1, .bool x.f0.f3.f0, .string x.f0.f3.f1], [.bool x.f1.f0.f0, .string x.f1.f0.f1, .bool x.f1.f1.f0, .string x.f1.f1.f1, .bool x.f1.f2.f0, .string x.f1.f2.f1, .bool x.f1.f3.f0, .string x.f1.f3.f1, .int .i64 x.f2], rfl, (k232_mk w x.f0 ), ⟨[.bool x.f1.f0.f0, .string x.f1.f0.f1, .bool x.f1.f1.f0, .string x.f1.f1.f1, .bool x.f1.f2.f0, .string x.f1.f2.f1, .bool x.f1.f3.f0, .string x.f1.f3.f1], [.int .i64 x.f2], rfl, (k232_mk w x.f1 ), rfl⟩⟩
theorem k234_mkM (w : World) (base : Nat) (ok : Nat → Prop) (x : S234)  : k234.M w base ok x [.bool x.f0.f0.f0, .string x.f0.f0.f1, .bool x.f0.f1.f0, .string x.f0.f1.f1, .bool x.f0.f2.f0, .string x.f0.f2.f1, .bool x.f0.f3.f0, .string x.f0.f3.f1, .bool x.f1.f0.f0, .string x.f1.f0.f1, .bool x.f1.f1.f0, .string x.f1.f1.f1, .bool x.f1.f2.f0, .string x.f1.f2.f1, .bool x.f1.f3.f0, .string x.f1.f3.f1, .int .i64 x.f2] := ⟨[.bool x.f0.f0.f0, .string x.f0.f0.f1, .bool x.f0.f1.f0, .string x.f0.f1.f1, .bool x.f0.f2.f0, .string x.f0.f2.f1, .bool x.f0.f3.f0, .string x.f0.f3.f1], [.bool x.f1.f0.f0, .string x.f1.f0.f1, .bool x.f1.f1.f0, .string x.f1.f1.f1, .bool x.f1.f2.f0, .string x.f1.f2.f1, .bool x.f1.f3.f0, .string x.f1.f3.f1, .int .i64 x.f2], rfl, (k232_mkM w base ok x.f0 ), ⟨[.bool x.f1.f0.f0, .string x.f1.f0.f1, .bool x.f1.f1.f0, .string x.f1.f1.f1, .bool x.f1.f2.f0, .string x.f1.f2.f1, .bool x.f1.f3.f0, .string x.f1.f3.f1], [.int .i64 x.f2], rfl, (k232_mkM w base ok x.f1 ), rfl⟩⟩
def rd_T234 (xs : List S234) (i : Int) : S234 := xs.getD i.toNat z234
theorem at_T234 {w : World} {A : Option Addr} {n : Nat} {xs : List S234} (h : Kd.C k234 w A n xs) (i : Int) (h0 : 0 ≤ i) (h1 : i < n) : ∃ ad , A = some ad ∧ w.cell? (ad.add (i.toNat * 17)) = some (.bool (rd_T234 xs i).f0.f0.f0) ∧ w.cell? ⟨(ad.add (i.toNat * 17)).block, (ad.add (i.toNat * 17)).off + 1, none⟩ = some (.string (rd_T234 xs i).f0.f0.f1) ∧ w.cell? ⟨(ad.add (i.toNat * 17)).block, (ad.add (i.toNat * 17)).off + 2, none⟩ = some (.bool (rd_T234 xs i).f0.f1.f0) ∧ w.cell? ⟨(ad.add (i.toNat * 17)).block, (ad.add (i.toNat * 17)).off + 3, none⟩ = some (.string (rd_T234 xs i).f0.f1.f1) ∧ w.cell? ⟨(ad.add (i.toNat * 17)).block, (ad.add (i.toNat * 17)).off + 4, none⟩ = some (.bool (rd_T234 xs i).f0.f2.f0) ∧ w.cell? ⟨(ad.add (i.toNat * 17)).block, (ad.add (i.toNat * 17)).off + 5, none⟩ = some (.string (rd_T234 xs i).f0.f2.f1) ∧ w.cell? ⟨(ad.add (i.toNat * 17)).block, (ad.add (i.toNat * 17)).off + 6, none⟩ = some (.bool (rd_T234 xs i).f0.f3.f0) ∧ w.cell? ⟨(ad.add (i.toNat * 17)).block, (ad.add (i.toNat * 17)).off + 7, none⟩ = some (.string (rd_T234 xs i).f0.f3.f1) ∧ w.cell? ⟨(ad.add (i.toNat * 17)).block, (ad.add (i.toNat * 17)).off + 8, none⟩ = some (.bool (rd_T234 xs i).f1.f0.f0) ∧ w.cell? ⟨(ad.add (i.toNat * 17)).block, (ad.add (i.toNat * 17)).off + 9, none⟩ = some (.string (rd_T234 xs i).f1.f0.f1) ∧ w.cell? ⟨(ad.add (i.toNat * 17)).block, (ad.add (i.toNat * 17)).off + 10, none⟩ = some (.bool (rd_T234 xs i).f1.f1.f0) ∧ w.cell? ⟨(ad.add (i.toNat * 17)).block, (ad.add (i.toNat * 17)).off + 11, none⟩ = some (.string (rd_T234 xs i).f1.f1.f1) ∧ w.cell? ⟨(ad.add (i.toNat * 17)).block, (ad.add (i.toNat * 17)).off + 12, none⟩ = some (.bool (rd_T234 xs i).f1.f2.f0) ∧ w.cell? ⟨(ad.add (i.toNat * 17)).block, (ad.add (i.toNat * 17)).off + 13, none⟩ = some (.string (rd_T234 xs i).f1.f2.f1) ∧ w.cell? ⟨(ad.add (i.toNat * 17)).block, (ad.add (i.toNat * 17)).off + 14, none⟩ = some (.bool (rd_T234 xs i).f1.f3.f0) ∧ w.cell? ⟨(ad.add (i.toNat * 17)).block, (ad.add (i.toNat * 17)).off + 15, none⟩ = some (.string (rd_T234 xs i).f1.f3.f1) ∧ w.cell? ⟨(ad.add (i.toNat * 17)).block, (ad.add (i.toNat * 17)).off + 16, none⟩ = some (.int .i64 (rd_T234 xs i).f2) := by
  obtain ⟨ad, c, e, _, hK, hc0⟩ := Kd.C_get h z234 i h0 h1
  have hc : ∀ j u, c[j]? = some u → w.cell? (ad.add (i.toNat * 17 + j)) = some u := hc0
  obtain rfl := k234_open hK
  exact ⟨ad, e, hc 0 _ rfl, by rw [← add_field _ _ 1 (by omega)]; exact hc 1 _ rfl, by rw [← add_field _ _ 2 (by omega)]; exact hc 2 _ rfl, by rw [← add_field _ _ 3 (by omega)]; exact hc 3 _ rfl, by rw [← add_field _ _ 4 (by omega)]; exact hc 4 _ rfl, by rw [← add_field _ _ 5 (by omega)]; exact hc 5 _ rfl, by rw [← add_field _ _ 6 (by omega)]; exact hc 6 _ rfl, by rw [← add_field _ _ 7 (by omega)]; exact hc 7 _ rfl, by rw [← add_field _ _ 8 (by omega)]; exact hc 8 _ rfl, by rw [← add_field _ _ 9 (by omega)]; exact hc 9 _ rfl, by rw [← add_field _ _ 10 (by omega)]; exact hc 10 _ rfl, by rw [← add_field _ _ 11 (by omega)]; exact hc 11 _ rfl, by rw [← add_field _ _ 12 (by omega)]; exact hc 12 _ rfl, by rw [← add_field _ _ 13 (by omega)]; exact hc 13 _ rfl, by rw [← add_field _ _ 14 (by omega)]; exact hc 14 _ rfl, by rw [← add_field _ _ 15 (by omega)]; exact hc 15 _ rfl, by rw [← add_field _ _ 16 (by omega)]; exact hc 16 _ rfl⟩

def rd_L9 (xs : List (List S234)) (i : Int) : (List S234) := xs.getD i.toNat ([] : List S234)
theorem at_L9 {w : World} {A : Option Addr} {n : Nat} {xs : List (List S234)} (h : Kd.C (Kd.slice 234 k234) w A n xs) (i : Int) (h0 : 0 ≤ i) (h1 : i < n) : ∃ ad A0 c0, A = some ad ∧ w.cell? (ad.add i.toNat) = some (.slice A0 (rd_L9 xs i).length c0) ∧ (rd_L9 xs i).length ≤ c0 ∧ k234.C w A0 (rd_L9 xs i).length (rd_L9 xs i) := by
  obtain ⟨ad, c, e, _, hK, hc0⟩ := Kd.C_get h ([] : List S234) i h0 h1
  have hc : ∀ j u, c[j]? = some u → w.cell? (ad.add (i.toNat * 1 + j)) = some u := hc0
  obtain ⟨A0, c0, rfl, l0, g0⟩ := hK
  exact ⟨ad, A0, c0, e, by have hq := hc 0 _ rfl; rwa [Nat.mul_one, Nat.add_zero] at hq, l0, g0⟩

def rd_L10 (xs : List (List S33)) (i : Int) : (List S33) := xs.getD i.toNat ([] : List S33)
theorem at_L10 {w : World} {A : Option Addr} {n : Nat} {xs : List (List S33)} (h : Kd.C (Kd.slice 33 k33) w A n xs) (i : Int) (h0 : 0 ≤ i) (h1 : i < n) : ∃ ad A0 c0, A = some ad ∧ w.cell? (ad.add i.toNat) = some (.slice A0 (rd_L10 xs i).length c0) ∧ (rd_L10 xs i).length ≤ c0 ∧ k33.C w A0 (rd_L10 xs i).length (rd_L10 xs i) := by
  obtain ⟨ad, c, e, _, hK, hc0⟩ := Kd.C_get h ([] : List S33) i h0 h1
  have hc : ∀ j u, c[j]? = some u → w.cell? (ad.add (i.toNat * 1 + j)) = some u := hc0
  obtain ⟨A0, c0, rfl, l0, g0⟩ := hK
  exact ⟨ad, A0, c0, e, by have hq := hc 0 _ rfl; rwa [Nat.mul_one, Nat.add_zero] at hq, l0, g0⟩

/-! #### struct type 43 -/
structure S43 where
  f0 : S33
  f1 : (List S234)
  f2 : (List S33)
def z43 : S43 := ⟨z33, ([] : List S234), ([] : List S33)⟩
def k43 : Kd S43 := Kd.iso (Kd.pair k33 (Kd.pair (Kd.slice 234 k234) (Kd.slice 33 k33))) (fun x : S43 => (x.f0, x.f1, x.f2))
theorem k43_open {w : World} {x : S43} {cs : List Value} (h : k43.K w x cs) : ∃ A8 c8 A9 c9, cs = [.bool x.f0.f0.f0, .string x.f0.f0.f1, .bool x.f0.f1.f0, .string x.f0.f1.f1, .bool x.f0.f2.f0, .string x.f0.f2.f1, .bool x.f0.f3.f0, .string x.f0.f3.f1, .slice A8 x.f1.length c8, .slice A9 x.f2.length c9] ∧ x.f1.length ≤ c8 ∧ k234.C w A8 x.f1.length x.f1 ∧ x.f2.length ≤ c9 ∧ k33.C w A9 x.f2.length x.f2 := by
  obtain ⟨_, _, rfl, s0, ⟨_, _, rfl, ⟨A8, c8, rfl, l8, g8⟩, ⟨A9, c9, rfl, l9, g9⟩⟩⟩ := h
  obtain rfl := k33_open s0
  exact ⟨A8, c8, A9, c9, rfl, l8, g8, l9, g9⟩
theorem k43_openM {w : World} {base : Nat} {ok : Nat → Prop} {x : S43} {cs : List Value} (h : k43.M w base ok x cs) : ∃ v8 v9, cs = [.bool x.f0.f0.f0, .string x.f0.f0.f1, .bool x.f0.f1.f0, .string x.f0.f1.f1, .bool x.f0.f2.f0, .string x.f0.f2.f1, .bool x.f0.f3.f0, .string x.f0.f3.f1, v8, v9] ∧ k234.R 234 w base ok v8 x.f1 ∧ k33.R 33 w base ok v9 x.f2 := by
  obtain ⟨_, _, rfl, s0, ⟨_, _, rfl, ⟨v8, rfl, g8⟩, ⟨v9, rfl, g9⟩⟩⟩ := h
  obtain rfl := k33_openM s0
  exact ⟨v8, v9, rfl, g8, g9⟩
theorem k43_mk (w : World) (x : S43) {A8 : Option Addr} {c8 : Nat} (l8 : x.f1.length ≤ c8) (g8 : k234.C w A8 x.f1.length x.f1) {A9 : Option Addr} {c9 : Nat} (l9 : x.f2.length ≤ c9) (g9 : k33.C w A9 x.f2.length x.f2) : k43.K w x [.bool x.f0.f0.f0, .string x.f0.f0.f1, .bool x.f0.f1.f0, .string x.f0.f1.f1, .bool x.f0.f2.f0, .string x.f0.f2.f1, .bool x.f0.f3.f0, .string x.f0.f3.f1, .slice A8 x.f1.length c8, .slice A9 x.f2.length c9] := ⟨[.bool x.f0.f0.f0, .string x.f0.f0.f1, .bool x.f0.f1.f0, .string x.f0.f1.f1, .bool x.f0.f2.f0, .string x.f0.f2.f1, .bool x.f0.f3.f0, .string x.f0.f3.f1], [.slice A8 x.f1.length c8, .slice A9 x.f2.length c9], rfl, (k33_mk w x.f0 ), ⟨[.slice A8 x.f1.length c8], [.slice A9 x.f2.length c9], rfl, ⟨A8, c8, rfl, l8, g8⟩, ⟨A9, c9, rfl, l9, g9⟩⟩⟩
theorem k43_mkM (w : World) (base : Nat) (ok : Nat → Prop) (x : S43) {v8 : Value} (g8 : k234.R 234 w base ok v8 x.f1) {v9 : Value} (g9 : k33.R 33 w base ok v9 x.f2) : k43.M w base ok x [.bool x.f0.f0.f0, .string x.f0.f0.f1, .bool x.f0.f1.f0, .string x.f0.f1.f1, .bool x.f0.f2.f0, .string x.f0.f2.f1, .bool x.f0.f3.f0, .string x.f0.f3.f1, v8, v9] := ⟨[.bool x.f0.f0.f0, .string x.f0.f0.f1, .bool x.f0.f1.f0, .string x.f0.f1.f1, .bool x.f0.f2.f0, .string x.f0.f2.f1, .bool x.f0.f3.f0, .string x.f0.f3.f1], [v8, v9], rfl, (k33_mkM w base ok x.f0 ), ⟨[v8], [v9], rfl, ⟨v8, rfl, g8⟩, ⟨v9, rfl, g9⟩⟩⟩
def rd_T43 (xs : List S43) (i : Int) : S43 := xs.getD i.toNat z43
theorem at_T43 {w : World} {A : Option Addr} {n : Nat} {xs : List S43} (h : Kd.C k43 w A n xs) (i : Int) (h0 : 0 ≤ i) (h1 : i < n) : ∃ ad A8 c8 A9 c9, A = some ad ∧ w.cell? (ad.add (i.toNat * 10)) = some (.bool (rd_T43 xs i).f0.f0.f0) ∧ w.cell? ⟨(ad.add (i.toNat * 10)).block, (ad.add (i.toNat * 10)).off + 1, none⟩ = some (.string (rd_T43 xs i).f0.f0.f1) ∧ w.cell? ⟨(ad.add (i.toNat * 10)).block, (ad.add (i.toNat * 10)).off + 2, none⟩ = some (.bool (rd_T43 xs i).f0.f1.f0) ∧ w.cell? ⟨(ad.add (i.toNat * 10)).block, (ad.add (i.toNat * 10)).off + 3, none⟩ = some (.string (rd_T43 xs i).f0.f1.f1) ∧ w.cell? ⟨(ad.add (i.toNat * 10)).block, (ad.add (i.toNat * 10)).off + 4, none⟩ = some (.bool (rd_T43 xs i).f0.f2.f0) ∧ w.cell? ⟨(ad.add (i.toNat * 10)).block, (ad.add (i.toNat * 10)).off + 5, none⟩ = some (.string (rd_T43 xs i).f0.f2.f1) ∧ w.cell? ⟨(ad.add (i.toNat * 10)).block, (ad.add (i.toNat * 10)).off + 6, none⟩ = some (.bool (rd_T43 xs i).f0.f3.f0) ∧ w.cell? ⟨(ad.add (i.toNat * 10)).block, (ad.add (i.toNat * 10)).off + 7, none⟩ = some (.string (rd_T43 xs i).f0.f3.f1) ∧ w.cell? ⟨(ad.add (i.toNat * 10)).block, (ad.add (i.toNat * 10)).off + 8, none⟩ = some (.slice A8 (rd_T43 xs i).f1.length c8) ∧ w.cell? ⟨(ad.add (i.toNat * 10)).block, (ad.add (i.toNat * 10)).off + 9, none⟩ = some (.slice A9 (rd_T43 xs i).f2.length c9) ∧ (rd_T43 xs i).f1.length ≤ c8 ∧ k234.C w A8 (rd_T43 xs i).f1.length (rd_T43 xs i).f1 ∧ (rd_T43 xs i).f2.length ≤ c9 ∧ k33.C w A9 (rd_T43 xs i).f2.length (rd_T43 xs i).f2 := by
  obtain ⟨ad, c, e, _, hK, hc0⟩ := Kd.C_get h z43 i h0 h1
  have hc : ∀ j u, c[j]? = some u → w.cell? (ad.add (i.toNat * 10 + j)) = some u := hc0
  obtain ⟨A8, c8, A9, c9, rfl, l8, g8, l9, g9⟩ := k43_open hK
  exact ⟨ad, A8, c8, A9, c9, e, hc 0 _ rfl, by rw [← add_field _ _ 1 (by omega)]; exact hc 1 _ rfl, by rw [← add_field _ _ 2 (by omega)]; exact hc 2 _ rfl, by rw [← add_field _ _ 3 (by omega)]; exact hc 3 _ rfl, by rw [← add_field _ _ 4 (by omega)]; exact hc 4 _ rfl, by rw [← add_field _ _ 5 (by omega)]; exact hc 5 _ rfl, by rw [← add_field _ _ 6 (by omega)]; exact hc 6 _ rfl, by rw [← add_field _ _ 7 (by omega)]; exact hc 7 _ rfl, by rw [← add_field _ _ 8 (by omega)]; exact hc 8 _ rfl, by rw [← add_field _ _ 9 (by omega)]; exact hc 9 _ rfl, l8, g8, l9, g9⟩

end Go.Proofs.YtkceipkedmfeiaaGreatDoor.X30
