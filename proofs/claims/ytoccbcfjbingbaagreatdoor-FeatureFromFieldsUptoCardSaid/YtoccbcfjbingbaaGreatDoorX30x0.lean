import Derived.Test.YtoccbcfjbingbaaGreatDoorProg
import Derived.Below
import Derived.Deep.Draws
import Derived.Deep.AppendLies
import Derived.Maps.AppendAt
import Derived.OwnWalk
import Derived.Laws.BytesArg
import Derived.Laws.MakeOwn
import Derived.Laws.OwnMore
import Derived.Deep.OwnRows
import Derived.Tactics
import Derived.Lib.ConvBytes
import Derived.Laws.Slices
import Derived.WalkKit
import Derived.KernelRfl
import Derived.RowKit3
import Derived.Deep.LoopGhost
import Derived.Deep.QuietTactic
import Derived.BigQuiet
import Derived.WideLaws
import Derived.Deep.DeepCutAuto
import Derived.Deep.CutBlock
import Derived.Deep.RegionHeld3
import Derived.Laws.Rows
import Derived.Lib.AppendStr
import Derived.ArgAppend
import Derived.Laws.IdiomCopy
import Derived.OrdersHeld
import Derived.Laws.BitsLemmas
import Derived.RowKit
import Derived.Laws.Cover1
import Derived.Test.YtoccbcfjbingbaaGreatDoorShelf
import Derived.Test.YtoccbcfjbingbaaGreatDoorEnv
import Derived.Test.YtoccbcfjbingbaaGreatDoorLibS
import Derived.Test.YtoccbcfjbingbaaGreatDoorNum
import Derived.Test.YtoccbcfjbingbaaGreatDoorWWords
import Derived.Test.YtoccbcfjbingbaaGreatDoorWLast
import Derived.Test.YtoccbcfjbingbaaGreatDoorWTab
import Derived.Test.YtoccbcfjbingbaaGreatDoorWQPut
import Derived.Test.YtoccbcfjbingbaaGreatDoorWApart
import Derived.Test.YtoccbcfjbingbaaGreatDoorWArr
import Derived.Test.YtoccbcfjbingbaaGreatDoorWZeros
import Derived.Test.YtoccbcfjbingbaaGreatDoorWFoot
import Derived.Test.YtoccbcfjbingbaaGreatDoorWKept
import Derived.Test.YtoccbcfjbingbaaGreatDoorWShare
import Derived.Test.YtoccbcfjbingbaaGreatDoorWN
import Derived.Test.YtoccbcfjbingbaaGreatDoorWEqStruct
import Derived.Test.YtoccbcfjbingbaaGreatDoorWRepsOne
import Derived.Test.YtoccbcfjbingbaaGreatDoorWInv
import Derived.Test.YtoccbcfjbingbaaGreatDoorWGuard
import Derived.Test.YtoccbcfjbingbaaGreatDoorWNEv
import Derived.Test.YtoccbcfjbingbaaGreatDoorWMore
namespace Go.Proofs.YtoccbcfjbingbaaGreatDoor.X30
open Go.RowKit Go.Proofs.YtoccbcfjbingbaaGreatDoorW.PrintWords Go.Proofs.YtoccbcfjbingbaaGreatDoorW.PrintLast Go.Proofs.YtoccbcfjbingbaaGreatDoorW.PrintMore
attribute [local go_sem] max2_int min2_int max_two min_two max_three min_three max_four min_four   -- for this text's walks alone
set_option linter.unusedVariables false
set_option linter.unusedSimpArgs false
def errW : Option Int → Value
 | none => .nilIface
 | some c => .iface 0 (.int .i64 c)
theorem errW_none : errW none = .nilIface := rfl
theorem errW_some (c : Int) : errW (some c) = .iface 0 (.int .i64 c) := rfl
theorem info9 : (Tryz.prog.info? 9).map (fun i => (i.zero, i.size, i.bytes)) = some (some (.string ⟨#[]⟩), 1, 16) := by kernel_rfl
def rd_L3 (xs : List (List ByteArray)) (i : Int) : (List ByteArray) := xs.getD i.toNat ([] : List ByteArray)
structure S27 where
 f0 : ByteArray
 f1 : (List ByteArray)
def z27 : S27 := ⟨(⟨#[]⟩ : ByteArray), ([] : List ByteArray)⟩
def k27 : Kd S27 := Kd.iso (Kd.pair Kd.string (Kd.slice 9 Kd.string)) (fun x : S27 => (x.f0, x.f1))
def rd_T27 (xs : List S27) (i : Int) : S27 := xs.getD i.toNat z27
structure S28 where
 f0 : ByteArray
 f1 : ByteArray
 f2 : ByteArray
def z28 : S28 := ⟨(⟨#[]⟩ : ByteArray), (⟨#[]⟩ : ByteArray), (⟨#[]⟩ : ByteArray)⟩
def k28 : Kd S28 := Kd.iso (Kd.pair Kd.string (Kd.pair Kd.string Kd.string)) (fun x : S28 => (x.f0, x.f1, x.f2))
def rd_T28 (xs : List S28) (i : Int) : S28 := xs.getD i.toNat z28
structure S30 where
 f0 : ByteArray
 f1 : Int
 f2 : S27
 f3 : S27
 f4 : ByteArray
 f5 : ByteArray
 f6 : ByteArray
 f7 : S28
def z30 : S30 := ⟨(⟨#[]⟩ : ByteArray), (0 : Int), z27, z27, (⟨#[]⟩ : ByteArray), (⟨#[]⟩ : ByteArray), (⟨#[]⟩ : ByteArray), z28⟩
def k30 : Kd S30 := Kd.iso (Kd.pair Kd.string (Kd.pair (Kd.int .i64) (Kd.pair k27 (Kd.pair k27 (Kd.pair Kd.string (Kd.pair Kd.string (Kd.pair Kd.string k28))))))) (fun x : S30 => (x.f0, x.f1, x.f2, x.f3, x.f4, x.f5, x.f6, x.f7))
def rd_T30 (xs : List S30) (i : Int) : S30 := xs.getD i.toNat z30
structure S45 where
 f0 : ByteArray
 f1 : ByteArray
def z45 : S45 := ⟨(⟨#[]⟩ : ByteArray), (⟨#[]⟩ : ByteArray)⟩
def k45 : Kd S45 := Kd.iso (Kd.pair Kd.string Kd.string) (fun x : S45 => (x.f0, x.f1))
theorem k45_open {w : World} {x : S45} {cs : List Value} (h : k45.K w x cs) : cs = [.string x.f0, .string x.f1] := by
 obtain ⟨_, _, rfl, rfl, rfl⟩ := h
 exact rfl
theorem k45_mkM (w : World) (base : Nat) (ok : Nat → Prop) (x : S45)  : k45.M w base ok x [.string x.f0, .string x.f1] := ⟨[.string x.f0], [.string x.f1], rfl, rfl, rfl⟩
def rd_T45 (xs : List S45) (i : Int) : S45 := xs.getD i.toNat z45
theorem at_T45 {w : World} {A : Option Addr} {n : Nat} {xs : List S45} (h : Kd.C k45 w A n xs) (i : Int) (h0 : 0 ≤ i) (h1 : i < n) : ∃ ad , A = some ad ∧ w.cell? (ad.add (i.toNat * 2)) = some (.string (rd_T45 xs i).f0) ∧ w.cell? ⟨(ad.add (i.toNat * 2)).block, (ad.add (i.toNat * 2)).off + 1, none⟩ = some (.string (rd_T45 xs i).f1) := by
 obtain ⟨ad, c, e, _, hK, hc0⟩ := Kd.C_get h z45 i h0 h1
 have hc : ∀ j u, c[j]? = some u → w.cell? (ad.add (i.toNat * 2 + j)) = some u := hc0
 obtain rfl := k45_open hK
 exact ⟨ad, e, hc 0 _ rfl, by rw [← add_field _ _ 1 (by omega)]; exact hc 1 _ rfl⟩
def rd_L8 (xs : List (List S45)) (i : Int) : (List S45) := xs.getD i.toNat ([] : List S45)
end Go.Proofs.YtoccbcfjbingbaaGreatDoor.X30
