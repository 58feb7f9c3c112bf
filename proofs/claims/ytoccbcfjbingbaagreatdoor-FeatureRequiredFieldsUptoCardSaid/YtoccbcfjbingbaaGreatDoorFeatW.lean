/- An argument of type api.Feature, as the walks take it. -/
import Derived.Test.YtoccbcfjbingbaaGreatDoorP30b
import Derived.Test.YtoccbcfjbingbaaGreatDoorOps
namespace Go.Proofs.YtoccbcfjbingbaaGreatDoor.X30
open Go hiding Fd
open Go.RowKit Go.Shelf Go.Proofs.YtoccbcfjbingbaaGreatDoorW.PrintWords Go.Proofs.YtoccbcfjbingbaaGreatDoorW.PrintLast Go.Proofs.YtoccbcfjbingbaaGreatDoorW.PrintMore Go.Proofs.YtoccbcfjbingbaaGreatDoor.P30

def ftOf (y : S30) : FT := ⟨y.f0, y.f1, y.f2.f0, y.f2.f1, y.f3.f0, y.f3.f1, y.f4, y.f5, y.f6, y.f7.f0, y.f7.f1, y.f7.f2⟩
theorem ftOf_wt (y : S30) : FT.wt (ftOf y) ≤ wt30 y := by
  have e : ∀ l : List ByteArray, P30.wt l = (l.map (fun s : ByteArray => s.size + 1)).sum := fun _ => rfl
  simp only [FT.wt, ftOf, wt30, wt27, wt28, e]
  omega
theorem feat_arg {W : World} {y : S30} {cs : Array Value} (h : k30.K W y cs.toList) :
    ∃ A3 c3 A5 c5, cs = featCells (ftOf y) (.slice A3 (ftOf y).onA.length c3) (.slice A5 (ftOf y).andA.length c5) ∧ Kd.C Kd.string W A3 (ftOf y).onA.length (ftOf y).onA ∧ (ftOf y).onA.length ≤ c3 ∧ Kd.C Kd.string W A5 (ftOf y).andA.length (ftOf y).andA ∧ (ftOf y).andA.length ≤ c5 := by
  obtain ⟨A3, c3, A5, c5, e, l3, h3, l5, h5⟩ := k30_open h
  refine ⟨A3, c3, A5, c5, ?_, h3, l3, h5, l5⟩
  have := congrArg List.toArray e
  rw [Array.toArray_toList] at this
  exact this

end Go.Proofs.YtoccbcfjbingbaaGreatDoor.X30
