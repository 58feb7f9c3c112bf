import Derived.Test.YtoccbcfjbingbaaGreatDoorX30x0
import Derived.Test.YtoccbcfjbingbaaGreatDoorX30x2
import Derived.Test.YtoccbcfjbingbaaGreatDoorX30x11
import Derived.Test.YtoccbcfjbingbaaGreatDoorX30x12
namespace Go.Proofs.YtoccbcfjbingbaaGreatDoor.X30
open Go.RowKit Go.Proofs.YtoccbcfjbingbaaGreatDoorW.PrintWords Go.Proofs.YtoccbcfjbingbaaGreatDoorW.PrintLast Go.Proofs.YtoccbcfjbingbaaGreatDoorW.PrintMore
attribute [local go_sem] max2_int min2_int max_two min_two max_three min_three max_four min_four   -- for this text's walks alone
set_option linter.unusedVariables false
set_option linter.unusedSimpArgs false
attribute [local go_sem high] eqA45
def voussoirref30_Fields.l0 : Nat → List ByteArray → List (S45) → Int → ByteArray → Int → ByteArray → List ByteArray → ByteArray → List ByteArray → ByteArray → ByteArray → ByteArray → ByteArray → ByteArray → ByteArray → Option (ByteArray × (List (S45)))
 | 0, _, _, _, _, _, _, _, _, _, _, _, _, _, _, _ => none
 | k + 1, x4, x5, x6, x346000, x346001, x346002, x346003, x346004, x346005, x346006, x346007, x346008, x346009, x346010, x346011 => if x6 < (x4.length : Int) then (if 0 ≤ x6 then ((voussoirref30_text.f k x346000 x346001 x346002 x346003 x346004 x346005 x346006 x346007 x346008 x346009 x346010 x346011 (rdOf ByteArray.empty x4 x6)).bind fun t352 => (if x5.length < 4398046511104 then (voussoirref30_Fields.l0 k x4 (x5 ++ [(⟨rdOf ByteArray.empty x4 x6, t352⟩ : S45)]) (wrap64 (x6 + 1)) x346000 x346001 x346002 x346003 x346004 x346005 x346006 x346007 x346008 x346009 x346010 x346011) else (none))) else (none)) else ((voussoirref30_names.f).bind fun t356 => (if 0 ≤ (wrap64 (x346001 - 1)) then (if (wrap64 (x346001 - 1)) < (t356.length : Int) then (some (rdOf ByteArray.empty t356 (wrap64 (x346001 - 1)), x5)) else (none)) else (none)))
def voussoirref30_Fields.f (k : Nat) (a0_0 : ByteArray) (a0_1 : Int) (a0_2 : ByteArray) (l0_3 : List ByteArray) (a0_4 : ByteArray) (l0_5 : List ByteArray) (a0_6 : ByteArray) (a0_7 : ByteArray) (a0_8 : ByteArray) (a0_9 : ByteArray) (a0_10 : ByteArray) (a0_11 : ByteArray) : Option (ByteArray × (List (S45))) := (voussoirref30_has.f k a0_1).bind fun t346 => (if 0 < (t346.length : Int) then (voussoirref30_Fields.l0 k t346 ([] : List (S45)) 0 a0_0 a0_1 a0_2 l0_3 a0_4 l0_5 a0_6 a0_7 a0_8 a0_9 a0_10 a0_11) else (none))
def voussoirref30_Fields.T8 : Bool × List (List Nat × List Nat) := (true, [([], []), ([], []), ([], []), ([1, 2], [1, 2]), ([3], [3]), ([], []), ([], []), ([], []), ([6, 7], [6, 7]), ([8], [8]), ([5, 9], [5, 9]), ([4, 10], [4, 10]), ([11], [11]), ([0, 12, 10], [0, 12]), ([13, 13, 0, 1, 2, 3, 4, 5, 6, 7, 8, 9, 10, 11, 12, 13], [0, 13])])
def voussoirref30_Fields.B8 : List Nat := [0, 0, 0, 6, 14, 0, 0, 0, 192, 448, 992, 2046, 4094, 8191, 16383]
def voussoirref30_Fields.T9 : Bool × List (List Nat × List Nat) := (true, [([], []), ([], []), ([1], [1]), ([2], [2]), ([0, 3], [0, 3]), ([4], [4]), ([], []), ([5, 0, 0, 1, 2, 3, 4, 5], [5]), ([6, 7, 0, 1, 2, 3, 4, 5, 6, 7], [6])])
def voussoirref30_Fields.B9 : List Nat := [0, 0, 2, 6, 15, 31, 0, 63, 255]
def voussoirlaw30_sameFields.l0 : Nat → List (S45) → List (S45) → Int → Option (Bool)
 | 0, _, _, _ => none
 | k + 1, x0, x1, x5 => if x5 < (x0.length : Int) then (if 0 ≤ x5 then (if x5 < (x1.length : Int) then (if (!((((rd_T45 x0 x5).f0).toList) == (((rd_T45 x1 x5).f0).toList)) || (!((((rd_T45 x0 x5).f1).toList) == (((rd_T45 x1 x5).f1).toList)))) = true then (some false) else (voussoirlaw30_sameFields.l0 k x0 x1 (wrap64 (x5 + 1)))) else (none)) else (none)) else (some true)
def voussoirlaw30_sameFields.f (k : Nat) (l0 : List (S45)) (l1 : List (S45)) : Option (Bool) := if (l0.length : Int) = (l1.length : Int) then (voussoirlaw30_sameFields.l0 k l0 l1 0) else (some false)
end Go.Proofs.YtoccbcfjbingbaaGreatDoor.X30
