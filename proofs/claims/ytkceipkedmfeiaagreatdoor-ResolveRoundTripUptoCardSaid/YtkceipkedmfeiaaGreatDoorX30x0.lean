-- Written by wip/tools/xprint.py out of the translation (the kit's printer with contracts of this session's own). Lean checks it.
import Derived.Test.YtkceipkedmfeiaaGreatDoorProg
import Derived.Below
import Derived.Deep.Draws
import Derived.Deep.AppendLies
import Derived.Maps.AppendAt
import Derived.OwnWalk
import Derived.Laws.BytesArg
import Derived.Laws.MakeOwn
import Derived.Laws.OwnMore
import Derived.Deep.OwnRows
import Derived.Tactics
import Derived.Lib.ConvBytes
import Derived.Laws.Slices
import Derived.WalkKit
import Derived.KernelRfl
import Derived.RowKit3
import Derived.Deep.LoopGhost
import Derived.Deep.QuietTactic
import Derived.BigQuiet
import Derived.WideLaws
import Derived.Deep.DeepCutAuto
import Derived.Deep.CutBlock
import Derived.Deep.RegionHeld3
import Derived.Laws.Rows
import Derived.Lib.AppendStr
import Derived.ArgAppend
import Derived.Laws.IdiomCopy
import Derived.OrdersHeld
import Derived.Laws.BitsLemmas
import Derived.RowKit
import Derived.Laws.Cover1
import Derived.Test.YtkceipkedmfeiaaGreatDoorShelf
import Derived.Test.YtkceipkedmfeiaaGreatDoorEnv
import Derived.Test.YtkceipkedmfeiaaGreatDoorLibS
import Derived.Test.YtkceipkedmfeiaaGreatDoorNum
import Derived.Test.YtkceipkedmfeiaaGreatDoorWWords
import Derived.Test.YtkceipkedmfeiaaGreatDoorWLast
import Derived.Test.YtkceipkedmfeiaaGreatDoorWTab
import Derived.Test.YtkceipkedmfeiaaGreatDoorWQPut
import Derived.Test.YtkceipkedmfeiaaGreatDoorWApart
import Derived.Test.YtkceipkedmfeiaaGreatDoorWArr
import Derived.Test.YtkceipkedmfeiaaGreatDoorWZeros
import Derived.Test.YtkceipkedmfeiaaGreatDoorWFoot
import Derived.Test.YtkceipkedmfeiaaGreatDoorWKept
import Derived.Test.YtkceipkedmfeiaaGreatDoorWShare
import Derived.Test.YtkceipkedmfeiaaGreatDoorWN
import Derived.Test.YtkceipkedmfeiaaGreatDoorWRepsOne
import Derived.Test.YtkceipkedmfeiaaGreatDoorWInv
import Derived.Test.YtkceipkedmfeiaaGreatDoorWGuard
import Derived.Test.YtkceipkedmfeiaaGreatDoorWNEv
import Derived.Test.YtkceipkedmfeiaaGreatDoorWMore
namespace Go.Proofs.YtkceipkedmfeiaaGreatDoor.X30
open Go.RowKit Go.Proofs.YtkceipkedmfeiaaGreatDoorW.PrintWords Go.Proofs.YtkceipkedmfeiaaGreatDoorW.PrintLast Go.Proofs.YtkceipkedmfeiaaGreatDoorW.PrintMore
attribute [local go_sem] max2_int min2_int max_two min_two max_three min_three max_four min_four   -- for this text's walks alone
set_option linter.unusedVariables false
set_option linter.unusedSimpArgs false



def errW : Option Int → Value
  | none => .nilIface
  | some c => .iface 0 (.int .i64 c)
theorem errW_none : errW none = .nilIface := rfl
theorem errW_some (c : Int) : errW (some c) = .iface 0 (.int .i64 c) := rfl

theorem info9 : (Tryz.prog.info? 9).map (fun i => (i.zero, i.size, i.bytes)) = some (some (.string ⟨#[]⟩), 1, 16) := by kernel_rfl
-- the values' own types
def rd_L1 (xs : List (List ByteArray)) (i : Int) : (List ByteArray) := xs.getD i.toNat ([] : List ByteArray)
/-! #### struct type 26 -/
structure S26 where
  f0 : ByteArray
  f1 : (List ByteArray)
def z26 : S26 := ⟨(⟨#[]⟩ : ByteArray), ([] : List ByteArray)⟩
def k26 : Kd S26 := Kd.iso (Kd.pair Kd.string (Kd.slice 9 Kd.string)) (fun x : S26 => (x.f0, x.f1))
theorem k26_open {w : World} {x : S26} {cs : List Value} (h : k26.K w x cs) : ∃ A1 c1, cs = [.string x.f0, .slice A1 x.f1.length c1] ∧ x.f1.length ≤ c1 ∧ Kd.string.C w A1 x.f1.length x.f1 := by
  obtain ⟨_, _, rfl, rfl, ⟨A1, c1, rfl, l1, g1⟩⟩ := h
  exact ⟨A1, c1, rfl, l1, g1⟩
def rd_T26 (xs : List S26) (i : Int) : S26 := xs.getD i.toNat z26
end Go.Proofs.YtkceipkedmfeiaaGreatDoor.X30
