-- Written by wip/tools/xprint.py out of the translation (the kit's printer with contracts of this session's own). Lean checks it.
import Derived.Test.YtkceipkedmfeiaaGreatDoorX30x0
import Derived.Test.YtkceipkedmfeiaaGreatDoorX30x7
import Derived.Test.YtkceipkedmfeiaaGreatDoorFeatB
namespace Go.Proofs.YtkceipkedmfeiaaGreatDoor.X30
open Go.RowKit Go.Proofs.YtkceipkedmfeiaaGreatDoorW.PrintWords Go.Proofs.YtkceipkedmfeiaaGreatDoorW.PrintLast Go.Proofs.YtkceipkedmfeiaaGreatDoorW.PrintMore
attribute [local go_sem] max2_int min2_int max_two min_two max_three min_three max_four min_four   -- for this text's walks alone
set_option linter.unusedVariables false
set_option linter.unusedSimpArgs false

/-! ### voussoirref28_Parse: function 19 -/
-- XIMPORT Derived.Test.YtkceipkedmfeiaaGreatDoorFeatB
def voussoirref28_Parse.f (k : Nat) (a0 : ByteArray) : Option (ByteArray × List ByteArray × Bool) := Option.bind (refSplit a0) fun l => match l with | [] => none | t :: rest => (voussoirref28_Check.f k t rest).bind fun e => if e = 0 then some (t, rest, true) else some (⟨#[]⟩, [], false)
theorem voussoirref28_Parse.calls (k : Nat) (a0 : ByteArray) (r1 : ByteArray) (r2 : List ByteArray) (r3 : Bool) (w : World) (h : voussoirref28_Parse.f k a0 = some (r1, r2, r3)) :
    Calls Tryz.prog 19 #[.string a0] w fun e w' => ∃ v1_ : Value, e = .returned (.tuple #[.agg #[.string r1, v1_], .bool r3]) ∧ Kd.Q Kd.string 9 w' w.heap.size (fun _ => True) v1_ r2 ∧ Below w.heap.size w w' := by
  unfold voussoirref28_Parse.f at h
  exact ref28_Parse_any k a0 r1 r2 r3 w h

end Go.Proofs.YtkceipkedmfeiaaGreatDoor.X30
