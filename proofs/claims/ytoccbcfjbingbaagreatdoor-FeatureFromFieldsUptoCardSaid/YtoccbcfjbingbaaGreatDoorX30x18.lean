import Derived.Test.YtoccbcfjbingbaaGreatDoorX30x0
import Derived.Test.YtoccbcfjbingbaaGreatDoorX30x1
import Derived.Test.YtoccbcfjbingbaaGreatDoorX30x11
namespace Go.Proofs.YtoccbcfjbingbaaGreatDoor.X30
open Go.RowKit Go.Proofs.YtoccbcfjbingbaaGreatDoorW.PrintWords Go.Proofs.YtoccbcfjbingbaaGreatDoorW.PrintLast Go.Proofs.YtoccbcfjbingbaaGreatDoorW.PrintMore
attribute [local go_sem] max2_int min2_int max_two min_two max_three min_three max_four min_four   -- for this text's walks alone
set_option linter.unusedVariables false
set_option linter.unusedSimpArgs false
attribute [local go_sem high] eqA28
def voussoirref30_Great.l0 : Nat → Int → List ByteArray → Int → Option (Int)
 | 0, _, _, _ => none
 | k + 1, x3, x4, x5 => if x5 < (x4.length : Int) then (if 0 ≤ x5 then (voussoirref30_Great.l0 k (wrap64 ((wrap64 (x3 + ((rdOf ByteArray.empty x4 x5).size : Int))) + 1)) x4 (wrap64 (x5 + 1))) else (none)) else (if x3 > 5000 then (some 1) else (some 0))
def voussoirref30_Great.f (k : Nat) (a0_0 : ByteArray) (a0_1 : Int) (a0_2 : ByteArray) (l0_3 : List ByteArray) (a0_4 : ByteArray) (l0_5 : List ByteArray) (a0_6 : ByteArray) (a0_7 : ByteArray) (a0_8 : ByteArray) (a0_9 : ByteArray) (a0_10 : ByteArray) (a0_11 : ByteArray) : Option (Int) := (some (([] : List ByteArray) : List ByteArray)).bind fun y335 => (if y335.length + l0_3.length < 8796093022208 then ((some (y335 ++ l0_3 : List ByteArray)).bind fun y338 => (if y338.length + l0_5.length < 8796093022208 then (voussoirref30_Great.l0 k (wrap64 ((wrap64 ((wrap64 ((wrap64 ((wrap64 ((wrap64 ((wrap64 ((wrap64 ((a0_0.size : Int) + (a0_2.size : Int))) + (a0_4.size : Int))) + (a0_6.size : Int))) + (a0_7.size : Int))) + (a0_8.size : Int))) + (a0_9.size : Int))) + (a0_10.size : Int))) + (a0_11.size : Int))) (y338 ++ l0_5) 0) else (none))) else (none))
def voussoirref30_Great.T2 : Bool × List (List Nat × List Nat) := (true, [([], []), ([], []), ([1], [1]), ([2], [2]), ([0, 3], [0, 3]), ([], []), ([5], [5]), ([6], [6]), ([4, 7, 4], [4, 7]), ([8, 8, 0, 1, 2, 3, 4, 5, 6, 7, 8], [8])])
def voussoirref30_Great.B2 : List Nat := [0, 0, 2, 6, 15, 0, 32, 96, 255, 511]
end Go.Proofs.YtoccbcfjbingbaaGreatDoor.X30
