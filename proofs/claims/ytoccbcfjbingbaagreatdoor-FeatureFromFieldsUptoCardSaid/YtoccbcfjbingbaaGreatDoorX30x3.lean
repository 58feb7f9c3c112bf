import Derived.Test.YtoccbcfjbingbaaGreatDoorX30x0
import Derived.Test.YtoccbcfjbingbaaGreatDoorFeatC
namespace Go.Proofs.YtoccbcfjbingbaaGreatDoor.X30
open Go.RowKit Go.Proofs.YtoccbcfjbingbaaGreatDoorW.PrintWords Go.Proofs.YtoccbcfjbingbaaGreatDoorW.PrintLast Go.Proofs.YtoccbcfjbingbaaGreatDoorW.PrintMore
attribute [local go_sem] max2_int min2_int max_two min_two max_three min_three max_four min_four   -- for this text's walks alone
set_option linter.unusedVariables false
set_option linter.unusedSimpArgs false
def feature_KindByName.f (a0 : ByteArray) : Option (Int × Bool) := some (kindNo a0)
theorem feature_KindByName.calls (a0 : ByteArray) (r1 : Int) (r2 : Bool) (w : World) (h : feature_KindByName.f a0 = some (r1, r2)) (hG : Env w := by first | assumption | exact Env.below (by assumption) (by repeat (first | exact Below.refl _ _ | exact Aside0.out (by assumption) | apply below_alloc | apply pw_below_drewN | apply below_drew1 | exact Drawn0.below (by assumption)))) :
 Calls Tryz.prog 13 #[.string a0] w fun e w' => e = .returned (.tuple #[.int .i64 r1, .bool r2]) ∧ Below w.heap.size w w' := KindByName_any a0 r1 r2 w (Option.some.inj h) hG
end Go.Proofs.YtoccbcfjbingbaaGreatDoor.X30
